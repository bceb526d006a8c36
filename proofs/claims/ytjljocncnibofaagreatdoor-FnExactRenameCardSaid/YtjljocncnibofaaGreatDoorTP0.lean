import Derived.Test.YtjljocncnibofaaGreatDoorTH4
set_option linter.unusedVariables false
namespace TT
open Go
theorem wrap_eq {x : Int} (h1 : -9223372036854775808 ≤ x) (h2 : x < 9223372036854775808) : IntKind.i64.wrap x = x := by rw [IntKind.wrap_i64]; omega
theorem addI_eq {a b : Int} (h1 : -9223372036854775808 ≤ a + b) (h2 : a + b < 9223372036854775808) : addI a b = a + b := wrap_eq h1 h2
theorem subI_eq {a b : Int} (h1 : -9223372036854775808 ≤ a - b) (h2 : a - b < 9223372036854775808) : subI a b = a - b := wrap_eq h1 h2
theorem ltI_iff {a b : Int} : ltI a b = true ↔ a < b := decide_eq_true_iff
theorem ltI_not {a b : Int} : ltI a b = false ↔ ¬ a < b := decide_eq_false_iff_not
theorem ltI_t {a b : Int} (h : a < b) : ltI a b = true := ltI_iff.2 h
theorem ltI_f {a b : Int} (h : ¬ a < b) : ltI a b = false := ltI_not.2 h
theorem leI_t {a b : Int} (h : a ≤ b) : leI a b = true := decide_eq_true h
theorem leI_f {a b : Int} (h : ¬ a ≤ b) : leI a b = false := decide_eq_false h
theorem geI_t {a b : Int} (h : b ≤ a) : geI a b = true := decide_eq_true h
theorem geI_f {a b : Int} (h : ¬ b ≤ a) : geI a b = false := decide_eq_false h
theorem gtI_t {a b : Int} (h : b < a) : gtI a b = true := decide_eq_true h
theorem gtI_f {a b : Int} (h : ¬ b < a) : gtI a b = false := decide_eq_false h
theorem eqI_self (a : Int) : eqI a a = true := beq_self_eq_true a
theorem neI_self (a : Int) : neI a a = false := by simp [neI]
theorem eqI_t {a b : Int} (h : a = b) : eqI a b = true := by rw [h]; exact eqI_self b
theorem eqI_f {a b : Int} (h : a ≠ b) : eqI a b = false := by simp [eqI, h]
theorem neI_eq (a b : Int) : neI a b = !eqI a b := rfl
theorem toList_inj {x y : ByteArray} (h : x.toList = y.toList) : x = y := by
 rw [ByteArray.toList_eq, ByteArray.toList_eq] at h
 cases x; cases y
 simp only [ByteArray.mk.injEq]
 exact Array.toList_inj.1 h
theorem eqS_self (x : ByteArray) : eqS x x = true := beq_self_eq_true _
theorem neS_self (x : ByteArray) : neS x x = false := by simp [neS]
theorem eqS_iff {x y : ByteArray} : eqS x y = true ↔ x = y := ⟨fun h => toList_inj (by simpa [eqS] using h), fun h => by rw [h]; exact eqS_self y⟩
theorem eqI_iff {x y : Int} : eqI x y = true ↔ x = y := by simp [eqI]
theorem neB_self (x : Bool) : neB x x = false := by simp [neB]
theorem maxLen_eq : maxLen = 9223372036854775807 := rfl
section
variable {α β ρ : Type}
theorem getI_at {l pre rest : List α} {x : α} (h : pre ++ x :: rest = l) : getI l (pre.length : Int) = some x := by
 subst h; unfold getI; rw [if_pos (by omega)]; simp
theorem more_at {l pre rest : List α} {x : α} (h : pre ++ x :: rest = l) : ltI (pre.length : Int) (lenL l) = true := by
 subst h; apply ltI_t; simp only [lenL, List.length_append, List.length_cons]; omega
theorem end_at {l pre : List α} (h : pre ++ [] = l) : ltI (pre.length : Int) (lenL l) = false := by
 subst h; apply ltI_f; simp [lenL]
theorem next_at {l pre rest : List α} {x : α} (h : pre ++ x :: rest = l) (hl : l.length ≤ maxLen) : addI (pre.length : Int) 1 = ((pre ++ [x]).length : Int) := by
 have h1 : pre.length < l.length := by rw [← h]; simp
 rw [maxLen_eq] at hl
 rw [addI_eq (by omega) (by omega)]; simp
theorem step_at {l pre rest : List α} {x : α} (h : pre ++ x :: rest = l) : (pre ++ [x]) ++ rest = l := by simp [← h]
end
def szr (l : Int) (n : Nat) : Int := if l < n then -1 else l - n
theorem szr_neg {l : Int} {n : Nat} (h : 0 ≤ l) : szr l n < 0 ↔ l < n := by unfold szr; split <;> omega
theorem szr_le {l : Int} {n : Nat} (h : 0 ≤ l) (hn : ¬ szr l n < 0) : szr l n ≤ l ∧ 0 ≤ szr l n ∧ n ≤ l := by unfold szr at *; split <;> (split at hn <;> omega)
theorem szr_add {l : Int} {n m : Nat} (h : 0 ≤ l) : szr l (n + m) = if szr l n < 0 then -1 else szr (szr l n) m := by
 by_cases h1 : l < n
 ·rw [if_pos ((szr_neg h).2 h1)]; unfold szr; rw [if_pos (by omega)]
 ·rw [if_neg (fun h2 => h1 ((szr_neg h).1 h2))]; unfold szr; rw [if_neg h1]; by_cases h2 : l - n < m
  ·rw [if_pos (by omega), if_pos h2]
  ·rw [if_neg (by omega), if_neg h2]; omega
theorem szr_zero {l : Int} (h : 0 ≤ l) : szr l 0 = l := by unfold szr; rw [if_neg (by omega)]; omega
theorem szK {l : Int} (n : Nat) (k : Int → Option Int) (m : Nat) (h0 : 0 ≤ l) (h1 : l ≤ 1048576) (hn : n ≤ maxLen) (hk : ∀ l', 0 ≤ l' → l' ≤ 1048576 → k l' = some (szr l' m)) :
  (if ltI (subI l n) 0 then some (-1) else k (subI l n)) = some (szr l (n + m)) := by
 rw [maxLen_eq] at hn
 rw [subI_eq (by omega) (by omega), szr_add h0]
 by_cases h : l < n
 ·rw [ltI_t (by omega), if_pos ((szr_neg h0).2 h)]; rfl
 ·rw [ltI_f (by omega), if_neg (fun h2 => h ((szr_neg h0).1 h2))]
  have e : szr l n = l - n := if_neg h
  rw [e]
  exact hk _ (by omega) (by omega)
theorem szE {l : Int} (n : Nat) (h0 : 0 ≤ l) (h1 : l ≤ 1048576) (hn : n ≤ maxLen) : (if ltI (subI l n) 0 then some (-1) else some (subI l n)) = some (szr l n) := by
 have := szK n some 0 h0 h1 hn (fun l' h _ => by rw [szr_zero h])
 simpa using this
theorem szB {l : Int} (g : Int → Option Int) (n : Nat) (k : Int → Option Int) (m : Nat) (h0 : 0 ≤ l) (h1 : l ≤ 1048576) (hg : g l = some (szr l n)) (hk : ∀ l', 0 ≤ l' → l' ≤ 1048576 → k l' = some (szr l' m)) :
  (g l >>= fun r => if ltI r 0 then some (-1) else k r) = some (szr l (n + m)) := by
 rw [hg, szr_add h0]
 show (if ltI (szr l n) 0 then some (-1) else k (szr l n)) = _
 by_cases h : szr l n < 0
 ·rw [ltI_t h, if_pos h]; rfl
 ·rw [ltI_f h, if_neg h]
  obtain ⟨h2, h3, _⟩ := szr_le h0 h
  exact hk _ h3 (by omega)
theorem szD {l : Int} (h : 0 ≤ l) : some l = some (szr l 0) := by rw [szr_zero h]
section
variable {α : Type}
def szs (sz : α → Nat) (l : List α) : Nat := (l.map sz).sum
theorem szs_cons (sz : α → Nat) (x : α) (l : List α) : szs sz (x :: l) = sz x + szs sz l := rfl
theorem szs_mem (sz : α → Nat) {x : α} : ∀ {l : List α}, x ∈ l → sz x ≤ szs sz l
 | y :: l, h => by
  rw [szs_cons]
  rcases List.mem_cons.1 h with h | h
  ·subst h; omega
  ·have := szs_mem sz h; omega
theorem sz_loop (F : List α → Int → Int → Option Int) (g : α → Int → Option Int) (sz : α → Nat)
  (hF : ∀ a l i, F a l i = if ltI i (lenL a) then getI a i >>= fun x => g x l >>= fun r => if ltI r 0 then some (-1) else F a r (addI i 1) else some l)
  (a : List α) (hl : a.length ≤ maxLen) (hg : ∀ x ∈ a, ∀ l, 0 ≤ l → l ≤ 1048576 → g x l = some (szr l (sz x))) :
  ∀ rest pre l, pre ++ rest = a → 0 ≤ l → l ≤ 1048576 → F a l pre.length = some (szr l (szs sz rest)) := by
 intro rest
 induction rest with
 | nil => intro pre l hp h0 h1; rw [hF, end_at hp]; exact szD h0
 | cons x rest ih =>
  intro pre l hp h0 h1
  rw [hF, more_at hp, getI_at hp]
  show (g x l >>= fun r => if ltI r 0 then some (-1) else F a r (addI (pre.length : Int) 1)) = _
  rw [next_at hp hl, szs_cons]
  exact szB (g x) _ _ _ h0 h1 (hg x (by rw [← hp]; simp) l h0 h1) fun l' h2 h3 => ih _ l' (step_at hp) h2 h3
theorem sz_list (S : List α → Int → Option Int) (F : List α → Int → Int → Option Int) (g : α → Int → Option Int) (sz : α → Nat)
  (hS : ∀ a l, S a l = if ltI (subI l (lenL a)) 0 then some (-1) else F a (subI l (lenL a)) 0)
  (hF : ∀ a l i, F a l i = if ltI i (lenL a) then getI a i >>= fun x => g x l >>= fun r => if ltI r 0 then some (-1) else F a r (addI i 1) else some l)
  (a : List α) (hl : a.length ≤ maxLen) (hg : ∀ x ∈ a, ∀ l, 0 ≤ l → l ≤ 1048576 → g x l = some (szr l (sz x))) {l : Int} (h0 : 0 ≤ l) (h1 : l ≤ 1048576) : S a l = some (szr l (a.length + szs sz a)) := by
 rw [hS]
 exact szK a.length (fun l => F a l 0) _ h0 h1 hl fun l' h2 h3 => sz_loop F g sz hF a hl hg a [] l' rfl h2 h3
theorem fill_at {z : α} {pre : List α} {m : Nat} : getI (pre ++ List.replicate (m + 1) z) (pre.length : Int) = some z := by
 unfold getI; rw [if_pos (by omega)]; simp [List.replicate_succ]
theorem fill_set {z x : α} {pre : List α} {m : Nat} : (pre ++ List.replicate (m + 1) z).set (Int.toNat (pre.length : Int)) x = (pre ++ [x]) ++ List.replicate m z := by
 simp [List.replicate_succ]
theorem to_loop {β : Type} (F : List α → List β → Int → Option (List β)) (g : α → Option β) (h : α → β) (z : β)
  (hF : ∀ a out i, F a out i = if ltI i (lenL a) then getI a i >>= fun x => g x >>= fun r => getI out i >>= fun _ => F a (out.set (Int.toNat i) r) (addI i 1) else some out)
  (a : List α) (hl : a.length ≤ maxLen) (hg : ∀ x ∈ a, g x = some (h x)) :
  ∀ rest pre, pre ++ rest = a → F a (pre.map h ++ List.replicate rest.length z) pre.length = some (a.map h) := by
 intro rest
 induction rest with
 | nil => intro pre hp; rw [hF, end_at hp, ← hp]; simp
 | cons x rest ih =>
  intro pre hp
  rw [hF, more_at hp, getI_at hp]
  show (g x >>= fun r => getI _ (pre.length : Int) >>= fun _ => F a _ (addI (pre.length : Int) 1)) = _
  rw [hg x (by rw [← hp]; simp)]
  have e : ((pre.length : Nat) : Int) = ((pre.map h).length : Nat) := by simp
  show (getI _ (pre.length : Int) >>= fun _ => F a _ (addI (pre.length : Int) 1)) = _
  rw [List.length_cons, e, fill_at, fill_set, ← e, next_at hp hl]
  have := ih (pre ++ [x]) (step_at hp)
  simp only [List.map_append, List.map_cons, List.map_nil] at this
  exact this
theorem mkN_eq {n byt : Nat} (h : n * byt ≤ LIM) (hb : 0 < byt) : mkN (n : Int) byt = some n := by
 unfold mkN; rw [if_pos ⟨by omega, by simpa using h, hb⟩]; simp
theorem to_list {β : Type} (S : List α → Option (List β)) (F : List α → List β → Int → Option (List β)) (g : α → Option β) (h : α → β) (z : β) (byt : Nat)
  (hS : ∀ a, S a = mkN (lenL a) byt >>= fun m => F a (List.replicate m z) 0)
  (hF : ∀ a out i, F a out i = if ltI i (lenL a) then getI a i >>= fun x => g x >>= fun r => getI out i >>= fun _ => F a (out.set (Int.toNat i) r) (addI i 1) else some out)
  (hb : 0 < byt) (hb2 : byt ≤ 100000) (a : List α) (hl : a.length ≤ 1048576) (hg : ∀ x ∈ a, g x = some (h x)) : S a = some (a.map h) := by
 have h1 : a.length * byt ≤ LIM := Nat.le_trans (Nat.mul_le_mul hl hb2) (by decide)
 rw [hS]
 have e : mkN (lenL a) byt = some a.length := mkN_eq h1 hb
 rw [e]
 exact to_loop F g h z hF a (Nat.le_trans hl (by decide)) hg a [] rfl
theorem eq_loop {β : Type} (F : List β → List β → Int → Option Bool) (e : β → β → Option Bool)
  (hF : ∀ a b i, F a b i = if ltI i (lenL a) then getI a i >>= fun x => getI b i >>= fun y => e x y >>= fun r => if r then F a b (addI i 1) else some false else some true)
  (a : List β) (hl : a.length ≤ maxLen) (he : ∀ x ∈ a, e x x = some true) : ∀ rest pre, pre ++ rest = a → F a a pre.length = some true := by
 intro rest
 induction rest with
 | nil => intro pre hp; rw [hF, end_at hp]; rfl
 | cons x rest ih =>
  intro pre hp
  rw [hF, more_at hp, getI_at hp]
  show (e x x >>= fun r => if r then F a a (addI (pre.length : Int) 1) else some false) = _
  rw [he x (by rw [← hp]; simp), next_at hp hl]
  exact ih _ (step_at hp)
theorem eq_list {β : Type} (S : List β → List β → Option Bool) (F : List β → List β → Int → Option Bool) (e : β → β → Option Bool)
  (hS : ∀ a b, S a b = if neI (lenL a) (lenL b) then some false else F a b 0)
  (hF : ∀ a b i, F a b i = if ltI i (lenL a) then getI a i >>= fun x => getI b i >>= fun y => e x y >>= fun r => if r then F a b (addI i 1) else some false else some true)
  (a : List β) (hl : a.length ≤ maxLen) (he : ∀ x ∈ a, e x x = some true) : S a a = some true := by
 rw [hS, neI_self]
 exact eq_loop F e hF a hl he a [] rfl
end
end TT
namespace TT
open Go
section
variable {α β ρ σ : Type}
theorem none_bnd {α β : Type} (f : α → Option β) : ((none : Option α) >>= f) = none := rfl
end
end TT
set_option linter.unusedSimpArgs false
namespace TT
open Go
theorem bnd_assoc {α β γ : Type} (o : Option α) (f : α → Option β) (g : β → Option γ) : ((o >>= f) >>= g) = (o >>= fun x => f x >>= g) := by cases o <;> rfl
theorem bnd_none2 {α β : Type} (o : Option α) : (o >>= fun _ => (none : Option β)) = none := by cases o <;> rfl
theorem get_set {α : Type} {l : List α} {i : Int} {x v : α} (h : getI l i = some x) : getI (l.set (Int.toNat i) v) i = some v := by
 unfold getI at *
 split at h
 ·rename_i h0
  rw [if_pos h0]
  obtain ⟨h1, _⟩ := List.getElem?_eq_some_iff.1 h
  simp [List.getElem?_set, h1]
 ·simp at h
theorem set_at {α : Type} {pre rest : List α} {x y : α} : (pre ++ x :: rest).set (Int.toNat (pre.length : Int)) y = (pre ++ [y]) ++ rest := by
 simp
def mB : Int := 100000000000
theorem szs_const {α : Type} (c : Nat) (l : List α) : szs (fun _ => c) l = c * l.length := by
 induction l with
 | nil => rfl
 | cons x l ih => rw [szs_cons, ih, List.length_cons, Nat.mul_add]; omega
theorem szs_c8 {α : Type} (sz : α → Nat) (l : List α) : szs (fun x => 8 + 8 * sz x) l = 8 * l.length + 8 * szs sz l := by
 induction l with
 | nil => rfl
 | cons x l ih => rw [szs_cons, ih, szs_cons, List.length_cons]; omega
theorem markText_loop (F : Int → ByteArray → Option ByteArray)
  (hF : ∀ k out, F k out = if gtI k 0 then remI k 10 >>= fun x => catS (⟨([UInt8.ofNat ((wr .u8 (addI 48 x))).toNat]).toArray⟩) out >>= fun y => quoI k 10 >>= fun z => F z y else catS (⟨#[109]⟩) out >>= fun x => some x) (k : Int) (h0 : 0 ≤ k) (h1 : k < 1000000000000000000) : ∃ s, F k ⟨#[]⟩ = some s := by
 have key : ∀ d : Nat, ∀ k : Int, 0 ≤ k → k < 10 ^ d → d ≤ 18 → ∀ out : ByteArray, out.size + d ≤ 100 → ∃ s, F k out = some s := by
  intro d
  induction d with
  | zero =>
   intro k h0 h1 h3 out ho
   rw [hF, gtI_f (by omega)]
   simp only [Bool.false_eq_true, if_false, catS]
   rw [if_pos (show _ + out.size ≤ 9223372036854775807 by have : (ByteArray.mk #[109]).size = 1 := rfl; omega)]
   exact ⟨_, rfl⟩
  | succ d ih =>
   intro k h0 h1 h3 out ho
   rw [hF]
   by_cases g : k > 0
   ·rw [gtI_t g]
    have hk : k < 10000000000000000000 := by
     have : (10 : Int) ^ (d + 1) ≤ 10 ^ 18 := by
      have := Nat.pow_le_pow_right (show 1 ≤ 10 by omega) h3
      exact_mod_cast this
     omega
    have e2 : quoI k 10 = some (k / 10) := by
     rw [quoI, if_neg (by omega), wrap_eq, Int.tdiv_eq_ediv_of_nonneg h0]
     ·rw [Int.tdiv_eq_ediv_of_nonneg h0]; omega
     ·rw [Int.tdiv_eq_ediv_of_nonneg h0]; omega
    have e1 : ∃ x, remI k 10 = some x := ⟨_, if_neg (by omega)⟩
    obtain ⟨x, e1⟩ := e1
    rw [e1, e2]
    simp only [if_true, some_bnd, catS]
    rw [if_pos]
    ·simp only [some_bnd]
     refine ih (k / 10) (by omega) ?_ (by omega) _ ?_
     ·rw [Int.pow_succ] at h1; omega
     ·rw [ByteArray.size_append]
      have : (ByteArray.mk ([UInt8.ofNat (wr IntKind.u8 (addI 48 x)).toNat]).toArray).size = 1 := rfl
      omega
    ·have : (ByteArray.mk ([UInt8.ofNat (wr IntKind.u8 (addI 48 x)).toNat]).toArray).size = 1 := rfl
     omega
   ·rw [gtI_f g]
    simp only [Bool.false_eq_true, if_false, catS]
    rw [if_pos (show _ + out.size ≤ 9223372036854775807 by have : (ByteArray.mk #[109]).size = 1 := rfl; omega)]
    exact ⟨_, rfl⟩
 exact key 18 k h0 (by simpa using h1) (by omega) _ (by show 0 + 18 ≤ 100; omega)
theorem held_loop {α : Type} (F : List α → Int → Int → Option (Int × List α)) (g : α → Int → Option (Int × α)) (c : α → Nat) (H : List α → Int → Int → Option Int) (h : α → Int → (Int → Option Int) → Option Int)
  (hF : ∀ a k i, F a k i = if ltI i (lenL a) then getI a i >>= fun x => g x k >>= fun r => F (a.set i.toNat r.2) r.1 (addI i 1) else some (k, a))
  (hH : ∀ a k i, H a k i = if ltI i (lenL a) then getI a i >>= fun x => h x k (fun k => H a k (addI i 1)) else some k)
  (a : List α) (hl : a.length ≤ maxLen) (B : Int) (hg : ∀ x ∈ a, ∀ k, 0 ≤ k → k + c x ≤ B → ∃ r, g x k = some r ∧ k ≤ r.1 ∧ r.1 ≤ k + c x ∧ ∀ C, h r.2 k C = C r.1) (k : Int) (h0 : 0 ≤ k) (h1 : k + szs c a ≤ B) :
  ∃ r, F a k 0 = some r ∧ k ≤ r.1 ∧ r.1 ≤ k + szs c a ∧ r.2.length = a.length ∧ H r.2 k 0 = some r.1 := by
 have key : ∀ rest pre : List α, (∀ x ∈ rest, x ∈ a) → pre.length + rest.length = a.length → ∀ k, 0 ≤ k → k + szs c rest ≤ B → ∃ (n : Int) (l : List α), F (pre ++ rest) k pre.length = some (n, pre ++ l) ∧ k ≤ n ∧ n ≤ k + szs c rest ∧ l.length = rest.length ∧
   ∀ p : List α, p.length = pre.length → H (p ++ l) k p.length = some n := by
  intro rest
  induction rest with
  | nil => intro pre _ hh k h0 h1; exact ⟨k, [], by rw [hF, end_at rfl]; simp, by omega, by simp [szs], rfl, fun p _ => by rw [hH, end_at rfl]; rfl⟩
  | cons x rest ih =>
   intro pre hm hh k h0 h1
   rw [szs_cons] at h1
   simp only [List.length_cons] at hh
   obtain ⟨r, e1, e2, e3, e4⟩ := hg x (hm x (by simp)) k h0 (by omega)
   obtain ⟨n, l, f1, f2, f3, f4, f5⟩ := ih (pre ++ [r.2]) (fun y hy => hm y (by simp [hy])) (by simp; omega) r.1 (by omega) (by omega)
   refine ⟨n, r.2 :: l, ?_, by omega, by rw [szs_cons]; omega, by simp [f4], fun p hp => ?_⟩
   ·rw [hF, more_at rfl, getI_at rfl, next_at (l := pre ++ x :: rest) rfl (by simp; omega)]
    simp only [if_true, some_bnd, e1, set_at]
    rw [show ((pre ++ [x]).length : Int) = ((pre ++ [r.2]).length : Int) by simp, f1]
    simp
   ·rw [hH, more_at rfl, getI_at rfl, next_at (l := p ++ r.2 :: l) rfl (by simp; omega)]
    simp only [if_true, some_bnd, e4]
    have := f5 (p ++ [r.2]) (by simp [hp])
    simpa using this
 obtain ⟨n, l, f1, f2, f3, f4, f5⟩ := key a [] (fun _ h => h) (by simp) k h0 h1
 exact ⟨(n, l), by simpa using f1, f2, f3, f4, by simpa using f5 [] rfl⟩
end TT
namespace TT
open Go
theorem room_ok {n byt : Nat} (h : n ≤ 4000000) (hb : 0 < byt) (hb2 : byt ≤ 1000) : room n byt = some () := by
 unfold room
 have : n * byt ≤ 4000000 * 1000 := Nat.mul_le_mul h hb2
 rw [if_pos ⟨by unfold LIM; omega, hb⟩]
theorem copy_loop {α : Type} (F : List α → Int → Option (List α)) (l : List α) (g : α → Option α) (byt : Nat)
  (hF : ∀ out i, F out i = if ltI i (lenL l) then getI l i >>= fun x => g x >>= fun r => room (out.length + 1) byt >>= fun _ => F (out ++ [r]) (addI i 1) else some out)
  (hb : 0 < byt) (hb2 : byt ≤ 1000) (hl : l.length ≤ 4000000) (hg : ∀ x ∈ l, g x = some x) : F [] 0 = some l := by
 have key : ∀ rest pre : List α, pre ++ rest = l → F pre pre.length = some l := by
  intro rest
  induction rest with
  | nil => intro pre hp; rw [hF, end_at hp]; simp at hp; rw [hp]; rfl
  | cons x rest ih =>
   intro pre hp
   have hlen : pre.length + 1 ≤ l.length := by rw [← hp]; simp
   rw [hF, more_at hp, getI_at hp, next_at hp (by rw [maxLen_eq]; omega)]
   simp only [if_true, some_bnd, hg x (by rw [← hp]; simp), room_ok (show pre.length + 1 ≤ 4000000 by omega) hb hb2]
   exact ih (pre ++ [x]) (step_at hp)
 exact key l [] rfl
end TT
