import Derived.Test.YtabghncdppfllaaTP2Align
set_option linter.unusedVariables false
set_option linter.unusedSimpArgs false
namespace TT
open Go

theorem align_loop (a b : List GNode) (ha : ∀ y ∈ a, GNode.ok y) (hb : ∀ y ∈ b, GNode.ok y) (la : a.length ≤ 1048576) (lb : b.length ≤ 1048576) :
    ∀ (d : Nat) (i k : Nat) (out : List Int), i ≤ a.length → k ≤ b.length → (a.length - i) + (b.length - k) ≤ d → out.length = i →
      ∃ r, spec_Align_l12 a b (tab (a.length + 1) (b.length + 1) (cel a b)) out k i = some r ∧ impl_Align_l12 a b (tab (a.length + 1) (b.length + 1) (cel a b)) out k i = some r ∧ r.length = a.length := by
  intro d
  induction d with
  | zero =>
    intro i k out hi hk hd ho
    rw [spec_Align_l12, impl_Align_l12, ltI_f (by simp only [lenL]; omega)]
    exact ⟨_, rfl, rfl, by omega⟩
  | succ d ih =>
    intro i k out hi hk hd ho
    rw [spec_Align_l12, impl_Align_l12]
    by_cases g1 : i = a.length
    · rw [ltI_f (by simp only [lenL]; omega)]
      exact ⟨_, rfl, rfl, by omega⟩
    rw [ltI_t (by simp only [lenL]; omega), if_pos rfl, if_pos rfl]
    have hi1 : addI (i : Int) 1 = ((i + 1 : Nat) : Int) := by rw [addI_eq (by omega) (by omega)]; omega
    have hk1 : addI (k : Int) 1 = ((k + 1 : Nat) : Int) := by rw [addI_eq (by omega) (by omega)]; omega
    have rm : room (out.length + 1) 8 = some () := room_eq (by omega) (by omega) (by omega)
    rw [hi1, hk1, rm]
    by_cases g2 : k = b.length
    · rw [eqI_t (show (k : Int) = lenL b by simp only [lenL]; omega), if_pos rfl, if_pos rfl]
      exact ih (i + 1) k _ (by omega) (by omega) (by omega) (by simp; omega)
    rw [eqI_f (show (k : Int) ≠ lenL b by simp only [lenL]; omega)]
    obtain ⟨x, gx, mx, dx⟩ := drop_get (show i < a.length by omega)
    obtain ⟨y, gy, my, dy⟩ := drop_get (show k < b.length by omega)
    simp only [Bool.false_eq_true, if_false, gx, gy, some_bnd, spec_node x y (ha x mx) (hb y my), impl_node x y (ha x mx) (hb y my)]
    clear hi1 hk1
    by_cases e : snB x y = true
    · simp only [e, if_true]
      exact ih (i + 1) (k + 1) _ (by omega) (by omega) (by omega) (by simp; omega)
    have e' : snB x y = false := by simpa using e
    simp only [e', Bool.false_eq_true, if_false, get_tab (n := a.length + 1) (f := cel a b) (m := b.length + 1) (i := i + 1) (by omega) rfl, get_tab (n := a.length + 1) (f := cel a b) (m := b.length + 1) (i := i) (by omega) rfl, some_bnd,
      get_row (f := cel a b) (m := b.length + 1) (i := i + 1) (k := k) (by omega) rfl, get_row (f := cel a b) (m := b.length + 1) (i := i) (k := k + 1) (by omega) rfl]
    split
    · exact ih (i + 1) k _ (by omega) (by omega) (by omega) (by simp; omega)
    · exact ih i (k + 1) _ (by omega) (by omega) (by omega) ho
theorem same_Align (a b : List GNode) (la : a.length ≤ maxLen) (ha : ∀ y ∈ a, GNode.ok y) (lb : b.length ≤ maxLen) (hb : ∀ y ∈ b, GNode.ok y)
    (sa : a.length + szs GNode.sz a ≤ 1048576) (sb : b.length + szs GNode.sz b ≤ 1048576) : ∃ r, spec_Align a b = some r ∧ impl_Align a b = some r ∧ r.length = a.length := by
  rw [spec_Align, impl_Align, spec_table a b ha hb (by omega) (by omega), impl_table a b ha hb (by omega) (by omega)]
  exact align_loop a b ha hb (by omega) (by omega) ((a.length - 0) + (b.length - 0)) 0 0 [] (by omega) (by omega) (Nat.le_refl _) rfl

/-! ### Lists of numbers -/
theorem eqIntS_self (l : List Int) (h : l.length ≤ maxLen) : laws_eqIntS l l = some true := by
  rw [laws_eqIntS, neI_self]
  have h1 := all2_same (fun i => laws_eqIntS_l14 l l i) l l (fun x y => some (eqI x y)) eqI (some true) (some false)
    (fun i => by rw [laws_eqIntS_l14]; simp only [neI_eq, some_bnd]; congr 1; congr 1; funext x; congr 1; funext y; by_cases hq : eqI x y = true <;> simp [hq]) h rfl (fun _ _ _ _ => rfl)
  simp only [Bool.false_eq_true, if_false]
  rw [h1]
  rw [go l]; rfl
where
  go : ∀ l : List Int, all2 eqI l l = true
    | [] => rfl
    | x :: l => by simp only [all2, eqI_self, Bool.true_and]; exact go l
def ups (k : Int) : Nat → List Int
  | 0 => []
  | n + 1 => k :: ups (k + 1) n
theorem ups_len (n : Nat) : ∀ k, (ups k n).length = n := by
  induction n with
  | zero => intro k; rfl
  | succ n ih => intro k; simp [ups, ih]
theorem set_at {α : Type} {pre rest : List α} {x y : α} : (pre ++ x :: rest).set (Int.toNat (pre.length : Int)) y = (pre ++ [y]) ++ rest := by
  simp
theorem markIntS_ok (l : List Int) (h : l.length ≤ 1048576) : laws_markIntS l 1 = some (1 + (l.length : Int), ups 1 l.length) := by
  have key : ∀ rest pre : List Int, ∀ k : Int, pre.length + rest.length ≤ 1048576 → 0 ≤ k → k + rest.length ≤ 1048577 → laws_markIntS_l6 (pre ++ rest) k pre.length = some (k + rest.length, pre ++ ups k rest.length) := by
    intro rest
    induction rest with
    | nil => intro pre k h1 h2 h3; rw [laws_markIntS_l6, end_at rfl]; simp [ups]
    | cons x rest ih =>
      intro pre k h1 h2 h3
      simp only [List.length_cons] at h1 h3
      rw [laws_markIntS_l6, more_at rfl, getI_at rfl, set_at, next_at (l := pre ++ x :: rest) rfl (by rw [maxLen_eq]; simp; omega), addI_eq (by omega) (by omega)]
      have := ih (pre ++ [k]) (k + 1) (by simp; omega) (by omega) (by omega)
      simp only [if_true, some_bnd]
      rw [show ((pre ++ [x]).length : Int) = ((pre ++ [k]).length : Int) by simp, this]
      simp only [List.length_cons, ups, List.append_assoc, List.singleton_append]
      congr 2; omega
  have := key l [] 1 (by simpa using h) (by omega) (by omega)
  exact this
theorem heldIntS_ok (n : Nat) (h : n ≤ 1048576) : laws_heldIntS (ups 1 n) 1 = some (1 + (n : Int)) := by
  have key : ∀ m pre : Nat, ∀ k : Int, ∀ p : List Int, p.length = pre → pre + m = n → 0 ≤ k → k + m ≤ 1048577 → laws_heldIntS_l6 (p ++ ups k m) k pre = some (k + m) := by
    intro m
    induction m with
    | zero => intro pre k p h1 h2 h3 h4; rw [laws_heldIntS_l6, ← h1, end_at (l := p ++ ups k 0) rfl]; simp
    | succ m ih =>
      intro pre k p h1 h2 h3 h4
      have e : p ++ ups k (m + 1) = p ++ k :: ups (k + 1) m := rfl
      rw [laws_heldIntS_l6, ← h1, more_at e.symm, getI_at e.symm, next_at e.symm (by rw [maxLen_eq]; simp [ups_len]; omega), addI_eq (by omega) (by omega)]
      simp only [if_true, some_bnd, neI_self, Bool.false_eq_true, if_false]
      have := ih (pre + 1) (k + 1) (p ++ [k]) (by simp [h1]) (by omega) (by omega) (by omega)
      rw [e, ← step_at (l := p ++ k :: ups (k + 1) m) rfl, show ((p ++ [k]).length : Int) = ((pre + 1 : Nat) : Int) by simp [h1], this]
      congr 1; omega
  exact key n 0 1 [] rfl (by omega) (by omega) (by omega)

/-! ### Marks -/
theorem markText_ok (k : Int) (h0 : 0 ≤ k) (h1 : k < 1000000000000000000) : ∃ s, laws_markText k = some s := by
  have key : ∀ d : Nat, ∀ k : Int, 0 ≤ k → k < 10 ^ d → d ≤ 18 → ∀ out : ByteArray, out.size + d ≤ 100 → ∃ s, laws_markText_l14 k out = some s := by
    intro d
    induction d with
    | zero =>
      intro k h0 h1 h3 out ho
      rw [laws_markText_l14, gtI_f (by omega)]
      simp only [Bool.false_eq_true, if_false, catS]
      rw [if_pos (show _ + out.size ≤ 9223372036854775807 by have : (ByteArray.mk #[109]).size = 1 := rfl; omega)]
      exact ⟨_, rfl⟩
    | succ d ih =>
      intro k h0 h1 h3 out ho
      rw [laws_markText_l14]
      by_cases g : k > 0
      · rw [gtI_t g]
        have hk : k < 10000000000000000000 := by
          have : (10 : Int) ^ (d + 1) ≤ 10 ^ 18 := by
            have := Nat.pow_le_pow_right (show 1 ≤ 10 by omega) h3
            exact_mod_cast this
          omega
        have e2 : quoI k 10 = some (k / 10) := by
          rw [quoI, if_neg (by omega), wrap_eq, Int.tdiv_eq_ediv_of_nonneg h0]
          · rw [Int.tdiv_eq_ediv_of_nonneg h0]; omega
          · rw [Int.tdiv_eq_ediv_of_nonneg h0]; omega
        have e1 : ∃ x, remI k 10 = some x := ⟨_, if_neg (by omega)⟩
        obtain ⟨x, e1⟩ := e1
        rw [e1, e2]
        simp only [if_true, some_bnd, catS]
        rw [if_pos]
        · simp only [some_bnd]
          refine ih (k / 10) (by omega) ?_ (by omega) _ ?_
          · rw [Int.pow_succ] at h1; omega
          · rw [ByteArray.size_append]
            have : (ByteArray.mk ([UInt8.ofNat (wr IntKind.u8 (addI 48 x)).toNat]).toArray).size = 1 := rfl
            omega
        · have : (ByteArray.mk ([UInt8.ofNat (wr IntKind.u8 (addI 48 x)).toNat]).toArray).size = 1 := rfl
          omega
      · rw [gtI_f g]
        simp only [Bool.false_eq_true, if_false, catS]
        rw [if_pos (show _ + out.size ≤ 9223372036854775807 by have : (ByteArray.mk #[109]).size = 1 := rfl; omega)]
        exact ⟨_, rfl⟩
  rw [laws_markText]
  by_cases g : k ≤ 0
  · rw [leI_t g]; exact ⟨_, rfl⟩
  · rw [leI_f g]
    exact key 18 k h0 (by simpa using h1) (by omega) _ (by show 0 + 18 ≤ 100; omega)
theorem mark_loop {α : Type} (F : List α → Int → Int → Option (Int × List α)) (g : α → Int → Option (Int × α)) (c : α → Nat)
    (hF : ∀ a k i, F a k i = if ltI i (lenL a) then getI a i >>= fun x => g x k >>= fun r => F (a.set i.toNat r.2) r.1 (addI i 1) else some (k, a))
    (a : List α) (hl : a.length ≤ maxLen) (B : Int) (hg : ∀ x ∈ a, ∀ k, 0 ≤ k → k + c x ≤ B → ∃ r, g x k = some r ∧ k ≤ r.1 ∧ r.1 ≤ k + c x) (k : Int) (h0 : 0 ≤ k) (h1 : k + szs c a ≤ B) :
    ∃ r, F a k 0 = some r ∧ k ≤ r.1 ∧ r.1 ≤ k + szs c a ∧ r.2.length = a.length := by
  have key : ∀ rest pre : List α, (∀ x ∈ rest, x ∈ a) → pre.length + rest.length = a.length → ∀ k, 0 ≤ k → k + szs c rest ≤ B → ∃ r, F (pre ++ rest) k pre.length = some r ∧ k ≤ r.1 ∧ r.1 ≤ k + szs c rest ∧ r.2.length = a.length := by
    intro rest
    induction rest with
    | nil => intro pre _ h k h0 h1; rw [hF, end_at rfl]; exact ⟨_, rfl, by simp, by simp [szs], by simpa using h⟩
    | cons x rest ih =>
      intro pre hm h k h0 h1
      rw [szs_cons] at h1
      simp only [List.length_cons] at h
      obtain ⟨r, e1, e2, e3⟩ := hg x (hm x (by simp)) k h0 (by omega)
      rw [hF, more_at rfl, getI_at rfl, next_at (l := pre ++ x :: rest) rfl (by simp; omega)]
      simp only [if_true, some_bnd, e1, set_at]
      obtain ⟨q, f1, f2, f3, f4⟩ := ih (pre ++ [r.2]) (fun y hy => hm y (by simp [hy])) (by simp; omega) r.1 (by omega) (by omega)
      rw [show ((pre ++ [x]).length : Int) = ((pre ++ [r.2]).length : Int) by simp, f1, szs_cons]
      exact ⟨q, rfl, by omega, by omega, f4⟩
  exact key a [] (fun _ h => h) (by simp) k h0 h1
end TT
