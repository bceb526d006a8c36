import Derived.Test.YtdpdfjkjlkmjaaaTP00
set_option linter.unusedVariables false
set_option linter.unusedSimpArgs false
namespace TT
open Go
/-! ### Marks -/
theorem bnd_assoc {α β γ : Type} (o : Option α) (f : α → Option β) (g : β → Option γ) : ((o >>= f) >>= g) = (o >>= fun x => f x >>= g) := by cases o <;> rfl
theorem bnd_none2 {α β : Type} (o : Option α) : (o >>= fun _ => (none : Option β)) = none := by cases o <;> rfl
theorem get_set {α : Type} {l : List α} {i : Int} {x v : α} (h : getI l i = some x) : getI (l.set (Int.toNat i) v) i = some v := by
  unfold getI at *
  split at h
  · rename_i h0
    rw [if_pos h0]
    obtain ⟨h1, _⟩ := List.getElem?_eq_some_iff.1 h
    simp [List.getElem?_set, h1]
  · simp at h
theorem set_at {α : Type} {pre rest : List α} {x y : α} : (pre ++ x :: rest).set (Int.toNat (pre.length : Int)) y = (pre ++ [y]) ++ rest := by
  simp
def mB : Int := 100000000000
theorem szs_const {α : Type} (c : Nat) (l : List α) : szs (fun _ => c) l = c * l.length := by
  induction l with
  | nil => rfl
  | cons x l ih => rw [szs_cons, ih, List.length_cons, Nat.mul_add]; omega
theorem szs_c8 {α : Type} (sz : α → Nat) (l : List α) : szs (fun x => 8 + 8 * sz x) l = 8 * l.length + 8 * szs sz l := by
  induction l with
  | nil => rfl
  | cons x l ih => rw [szs_cons, ih, szs_cons, List.length_cons]; omega
theorem markText_loop (F : Int → ByteArray → Option ByteArray)
    (hF : ∀ k out, F k out = if gtI k 0 then remI k 10 >>= fun x => catS (⟨([UInt8.ofNat ((wr .u8 (addI 48 x))).toNat]).toArray⟩) out >>= fun y => quoI k 10 >>= fun z => F z y else catS (⟨#[109]⟩) out >>= fun x => some x) (k : Int) (h0 : 0 ≤ k) (h1 : k < 1000000000000000000) : ∃ s, F k ⟨#[]⟩ = some s := by
  have key : ∀ d : Nat, ∀ k : Int, 0 ≤ k → k < 10 ^ d → d ≤ 18 → ∀ out : ByteArray, out.size + d ≤ 100 → ∃ s, F k out = some s := by
    intro d
    induction d with
    | zero =>
      intro k h0 h1 h3 out ho
      rw [hF, gtI_f (by omega)]
      simp only [Bool.false_eq_true, if_false, catS]
      rw [if_pos (show _ + out.size ≤ 9223372036854775807 by have : (ByteArray.mk #[109]).size = 1 := rfl; omega)]
      exact ⟨_, rfl⟩
    | succ d ih =>
      intro k h0 h1 h3 out ho
      rw [hF]
      by_cases g : k > 0
      · rw [gtI_t g]
        have hk : k < 10000000000000000000 := by
          have : (10 : Int) ^ (d + 1) ≤ 10 ^ 18 := by
            have := Nat.pow_le_pow_right (show 1 ≤ 10 by omega) h3
            exact_mod_cast this
          omega
        have e2 : quoI k 10 = some (k / 10) := by
          rw [quoI, if_neg (by omega), wrap_eq, Int.tdiv_eq_ediv_of_nonneg h0]
          · rw [Int.tdiv_eq_ediv_of_nonneg h0]; omega
          · rw [Int.tdiv_eq_ediv_of_nonneg h0]; omega
        have e1 : ∃ x, remI k 10 = some x := ⟨_, if_neg (by omega)⟩
        obtain ⟨x, e1⟩ := e1
        rw [e1, e2]
        simp only [if_true, some_bnd, catS]
        rw [if_pos]
        · simp only [some_bnd]
          refine ih (k / 10) (by omega) ?_ (by omega) _ ?_
          · rw [Int.pow_succ] at h1; omega
          · rw [ByteArray.size_append]
            have : (ByteArray.mk ([UInt8.ofNat (wr IntKind.u8 (addI 48 x)).toNat]).toArray).size = 1 := rfl
            omega
        · have : (ByteArray.mk ([UInt8.ofNat (wr IntKind.u8 (addI 48 x)).toNat]).toArray).size = 1 := rfl
          omega
      · rw [gtI_f g]
        simp only [Bool.false_eq_true, if_false, catS]
        rw [if_pos (show _ + out.size ≤ 9223372036854775807 by have : (ByteArray.mk #[109]).size = 1 := rfl; omega)]
        exact ⟨_, rfl⟩
  exact key 18 k h0 (by simpa using h1) (by omega) _ (by show 0 + 18 ≤ 100; omega)
theorem mark_loop {α : Type} (F : List α → Int → Int → Option (Int × List α)) (g : α → Int → Option (Int × α)) (c : α → Nat)
    (hF : ∀ a k i, F a k i = if ltI i (lenL a) then getI a i >>= fun x => g x k >>= fun r => F (a.set i.toNat r.2) r.1 (addI i 1) else some (k, a))
    (a : List α) (hl : a.length ≤ maxLen) (B : Int) (hg : ∀ x ∈ a, ∀ k, 0 ≤ k → k + c x ≤ B → ∃ r, g x k = some r ∧ k ≤ r.1 ∧ r.1 ≤ k + c x) (k : Int) (h0 : 0 ≤ k) (h1 : k + szs c a ≤ B) :
    ∃ r, F a k 0 = some r ∧ k ≤ r.1 ∧ r.1 ≤ k + szs c a ∧ r.2.length = a.length := by
  have key : ∀ rest pre : List α, (∀ x ∈ rest, x ∈ a) → pre.length + rest.length = a.length → ∀ k, 0 ≤ k → k + szs c rest ≤ B → ∃ r, F (pre ++ rest) k pre.length = some r ∧ k ≤ r.1 ∧ r.1 ≤ k + szs c rest ∧ r.2.length = a.length := by
    intro rest
    induction rest with
    | nil => intro pre _ h k h0 h1; rw [hF, end_at rfl]; exact ⟨_, rfl, by simp, by simp [szs], by simpa using h⟩
    | cons x rest ih =>
      intro pre hm h k h0 h1
      rw [szs_cons] at h1
      simp only [List.length_cons] at h
      obtain ⟨r, e1, e2, e3⟩ := hg x (hm x (by simp)) k h0 (by omega)
      rw [hF, more_at rfl, getI_at rfl, next_at (l := pre ++ x :: rest) rfl (by simp; omega)]
      simp only [if_true, some_bnd, e1, set_at]
      obtain ⟨q, f1, f2, f3, f4⟩ := ih (pre ++ [r.2]) (fun y hy => hm y (by simp [hy])) (by simp; omega) r.1 (by omega) (by omega)
      rw [show ((pre ++ [x]).length : Int) = ((pre ++ [r.2]).length : Int) by simp, f1, szs_cons]
      exact ⟨q, rfl, by omega, by omega, f4⟩
  exact key a [] (fun _ h => h) (by simp) k h0 h1
/-- What was marked holds its marks. -/
theorem held_loop {α : Type} (F : List α → Int → Int → Option (Int × List α)) (g : α → Int → Option (Int × α)) (c : α → Nat) (H : List α → Int → Int → Option Int) (h : α → Int → (Int → Option Int) → Option Int)
    (hF : ∀ a k i, F a k i = if ltI i (lenL a) then getI a i >>= fun x => g x k >>= fun r => F (a.set i.toNat r.2) r.1 (addI i 1) else some (k, a))
    (hH : ∀ a k i, H a k i = if ltI i (lenL a) then getI a i >>= fun x => h x k (fun k => H a k (addI i 1)) else some k)
    (a : List α) (hl : a.length ≤ maxLen) (B : Int) (hg : ∀ x ∈ a, ∀ k, 0 ≤ k → k + c x ≤ B → ∃ r, g x k = some r ∧ k ≤ r.1 ∧ r.1 ≤ k + c x ∧ ∀ C, h r.2 k C = C r.1) (k : Int) (h0 : 0 ≤ k) (h1 : k + szs c a ≤ B) :
    ∃ r, F a k 0 = some r ∧ k ≤ r.1 ∧ r.1 ≤ k + szs c a ∧ r.2.length = a.length ∧ H r.2 k 0 = some r.1 := by
  have key : ∀ rest pre : List α, (∀ x ∈ rest, x ∈ a) → pre.length + rest.length = a.length → ∀ k, 0 ≤ k → k + szs c rest ≤ B → ∃ (n : Int) (l : List α), F (pre ++ rest) k pre.length = some (n, pre ++ l) ∧ k ≤ n ∧ n ≤ k + szs c rest ∧ l.length = rest.length ∧
      ∀ p : List α, p.length = pre.length → H (p ++ l) k p.length = some n := by
    intro rest
    induction rest with
    | nil => intro pre _ hh k h0 h1; exact ⟨k, [], by rw [hF, end_at rfl]; simp, by omega, by simp [szs], rfl, fun p _ => by rw [hH, end_at rfl]; rfl⟩
    | cons x rest ih =>
      intro pre hm hh k h0 h1
      rw [szs_cons] at h1
      simp only [List.length_cons] at hh
      obtain ⟨r, e1, e2, e3, e4⟩ := hg x (hm x (by simp)) k h0 (by omega)
      obtain ⟨n, l, f1, f2, f3, f4, f5⟩ := ih (pre ++ [r.2]) (fun y hy => hm y (by simp [hy])) (by simp; omega) r.1 (by omega) (by omega)
      refine ⟨n, r.2 :: l, ?_, by omega, by rw [szs_cons]; omega, by simp [f4], fun p hp => ?_⟩
      · rw [hF, more_at rfl, getI_at rfl, next_at (l := pre ++ x :: rest) rfl (by simp; omega)]
        simp only [if_true, some_bnd, e1, set_at]
        rw [show ((pre ++ [x]).length : Int) = ((pre ++ [r.2]).length : Int) by simp, f1]
        simp
      · rw [hH, more_at rfl, getI_at rfl, next_at (l := p ++ r.2 :: l) rfl (by simp; omega)]
        simp only [if_true, some_bnd, e4]
        have := f5 (p ++ [r.2]) (by simp [hp])
        simpa using this
  obtain ⟨n, l, f1, f2, f3, f4, f5⟩ := key a [] (fun _ h => h) (by simp) k h0 h1
  exact ⟨(n, l), by simpa using f1, f2, f3, f4, by simpa using f5 [] rfl⟩
end TT
