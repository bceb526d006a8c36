import Derived.Test.YtejfgkcjhmmjkaaDoorTH4
set_option linter.unusedVariables false
namespace TT
open Go
theorem wrap_eq {x : Int} (h1 : -9223372036854775808 ≤ x) (h2 : x < 9223372036854775808) : IntKind.i64.wrap x = x := by rw [IntKind.wrap_i64]; omega
theorem addI_eq {a b : Int} (h1 : -9223372036854775808 ≤ a + b) (h2 : a + b < 9223372036854775808) : addI a b = a + b := wrap_eq h1 h2
theorem subI_eq {a b : Int} (h1 : -9223372036854775808 ≤ a - b) (h2 : a - b < 9223372036854775808) : subI a b = a - b := wrap_eq h1 h2
theorem ltI_iff {a b : Int} : ltI a b = true ↔ a < b := decide_eq_true_iff
theorem ltI_not {a b : Int} : ltI a b = false ↔ ¬ a < b := decide_eq_false_iff_not
theorem ltI_t {a b : Int} (h : a < b) : ltI a b = true := ltI_iff.2 h
theorem ltI_f {a b : Int} (h : ¬ a < b) : ltI a b = false := ltI_not.2 h
theorem leI_t {a b : Int} (h : a ≤ b) : leI a b = true := decide_eq_true h
theorem leI_f {a b : Int} (h : ¬ a ≤ b) : leI a b = false := decide_eq_false h
theorem geI_t {a b : Int} (h : b ≤ a) : geI a b = true := decide_eq_true h
theorem geI_f {a b : Int} (h : ¬ b ≤ a) : geI a b = false := decide_eq_false h
theorem gtI_t {a b : Int} (h : b < a) : gtI a b = true := decide_eq_true h
theorem gtI_f {a b : Int} (h : ¬ b < a) : gtI a b = false := decide_eq_false h
theorem eqI_self (a : Int) : eqI a a = true := beq_self_eq_true a
theorem neI_self (a : Int) : neI a a = false := by simp [neI]
theorem eqI_t {a b : Int} (h : a = b) : eqI a b = true := by rw [h]; exact eqI_self b
theorem eqI_f {a b : Int} (h : a ≠ b) : eqI a b = false := by simp [eqI, h]
theorem neI_eq (a b : Int) : neI a b = !eqI a b := rfl
theorem toList_inj {x y : ByteArray} (h : x.toList = y.toList) : x = y := by
 rw [ByteArray.toList_eq, ByteArray.toList_eq] at h
 cases x; cases y
 simp only [ByteArray.mk.injEq]
 exact Array.toList_inj.1 h
theorem eqS_self (x : ByteArray) : eqS x x = true := beq_self_eq_true _
theorem neS_self (x : ByteArray) : neS x x = false := by simp [neS]
theorem neS_eq (x y : ByteArray) : neS x y = !eqS x y := rfl
theorem eqS_iff {x y : ByteArray} : eqS x y = true ↔ x = y := ⟨fun h => toList_inj (by simpa [eqS] using h), fun h => by rw [h]; exact eqS_self y⟩
theorem neB_self (x : Bool) : neB x x = false := by simp [neB]
theorem maxLen_eq : maxLen = 9223372036854775807 := rfl
section
variable {α β ρ : Type}
theorem getI_at {l pre rest : List α} {x : α} (h : pre ++ x :: rest = l) : getI l (pre.length : Int) = some x := by
 subst h; unfold getI; rw [if_pos (by omega)]; simp
theorem more_at {l pre rest : List α} {x : α} (h : pre ++ x :: rest = l) : ltI (pre.length : Int) (lenL l) = true := by
 subst h; apply ltI_t; simp only [lenL, List.length_append, List.length_cons]; omega
theorem end_at {l pre : List α} (h : pre ++ [] = l) : ltI (pre.length : Int) (lenL l) = false := by
 subst h; apply ltI_f; simp [lenL]
theorem next_at {l pre rest : List α} {x : α} (h : pre ++ x :: rest = l) (hl : l.length ≤ maxLen) : addI (pre.length : Int) 1 = ((pre ++ [x]).length : Int) := by
 have h1 : pre.length < l.length := by rw [← h]; simp
 rw [maxLen_eq] at hl
 rw [addI_eq (by omega) (by omega)]; simp
theorem step_at {l pre rest : List α} {x : α} (h : pre ++ x :: rest = l) : (pre ++ [x]) ++ rest = l := by simp [← h]
end
def szr (l : Int) (n : Nat) : Int := if l < n then -1 else l - n
theorem szr_neg {l : Int} {n : Nat} (h : 0 ≤ l) : szr l n < 0 ↔ l < n := by unfold szr; split <;> omega
theorem szr_le {l : Int} {n : Nat} (h : 0 ≤ l) (hn : ¬ szr l n < 0) : szr l n ≤ l ∧ 0 ≤ szr l n ∧ n ≤ l := by unfold szr at *; split <;> (split at hn <;> omega)
theorem szr_add {l : Int} {n m : Nat} (h : 0 ≤ l) : szr l (n + m) = if szr l n < 0 then -1 else szr (szr l n) m := by
 by_cases h1 : l < n
 ·rw [if_pos ((szr_neg h).2 h1)]; unfold szr; rw [if_pos (by omega)]
 ·rw [if_neg (fun h2 => h1 ((szr_neg h).1 h2))]; unfold szr; rw [if_neg h1]; by_cases h2 : l - n < m
  ·rw [if_pos (by omega), if_pos h2]
  ·rw [if_neg (by omega), if_neg h2]; omega
theorem szr_zero {l : Int} (h : 0 ≤ l) : szr l 0 = l := by unfold szr; rw [if_neg (by omega)]; omega
theorem szK {l : Int} (n : Nat) (k : Int → Option Int) (m : Nat) (h0 : 0 ≤ l) (h1 : l ≤ 1048576) (hn : n ≤ maxLen) (hk : ∀ l', 0 ≤ l' → l' ≤ 1048576 → k l' = some (szr l' m)) :
  (if ltI (subI l n) 0 then some (-1) else k (subI l n)) = some (szr l (n + m)) := by
 rw [maxLen_eq] at hn
 rw [subI_eq (by omega) (by omega), szr_add h0]
 by_cases h : l < n
 ·rw [ltI_t (by omega), if_pos ((szr_neg h0).2 h)]; rfl
 ·rw [ltI_f (by omega), if_neg (fun h2 => h ((szr_neg h0).1 h2))]
  have e : szr l n = l - n := if_neg h
  rw [e]
  exact hk _ (by omega) (by omega)
theorem szE {l : Int} (n : Nat) (h0 : 0 ≤ l) (h1 : l ≤ 1048576) (hn : n ≤ maxLen) : (if ltI (subI l n) 0 then some (-1) else some (subI l n)) = some (szr l n) := by
 have := szK n some 0 h0 h1 hn (fun l' h _ => by rw [szr_zero h])
 simpa using this
theorem szB {l : Int} (g : Int → Option Int) (n : Nat) (k : Int → Option Int) (m : Nat) (h0 : 0 ≤ l) (h1 : l ≤ 1048576) (hg : g l = some (szr l n)) (hk : ∀ l', 0 ≤ l' → l' ≤ 1048576 → k l' = some (szr l' m)) :
  (g l >>= fun r => if ltI r 0 then some (-1) else k r) = some (szr l (n + m)) := by
 rw [hg, szr_add h0]
 show (if ltI (szr l n) 0 then some (-1) else k (szr l n)) = _
 by_cases h : szr l n < 0
 ·rw [ltI_t h, if_pos h]; rfl
 ·rw [ltI_f h, if_neg h]
  obtain ⟨h2, h3, _⟩ := szr_le h0 h
  exact hk _ h3 (by omega)
theorem szD {l : Int} (h : 0 ≤ l) : some l = some (szr l 0) := by rw [szr_zero h]
section
variable {α : Type}
def szs (sz : α → Nat) (l : List α) : Nat := (l.map sz).sum
theorem szs_cons (sz : α → Nat) (x : α) (l : List α) : szs sz (x :: l) = sz x + szs sz l := rfl
theorem szs_mem (sz : α → Nat) {x : α} : ∀ {l : List α}, x ∈ l → sz x ≤ szs sz l
 | y :: l, h => by
  rw [szs_cons]
  rcases List.mem_cons.1 h with h | h
  ·subst h; omega
  ·have := szs_mem sz h; omega
theorem sz_loop (F : List α → Int → Int → Option Int) (g : α → Int → Option Int) (sz : α → Nat)
  (hF : ∀ a l i, F a l i = if ltI i (lenL a) then getI a i >>= fun x => g x l >>= fun r => if ltI r 0 then some (-1) else F a r (addI i 1) else some l)
  (a : List α) (hl : a.length ≤ maxLen) (hg : ∀ x ∈ a, ∀ l, 0 ≤ l → l ≤ 1048576 → g x l = some (szr l (sz x))) :
  ∀ rest pre l, pre ++ rest = a → 0 ≤ l → l ≤ 1048576 → F a l pre.length = some (szr l (szs sz rest)) := by
 intro rest
 induction rest with
 | nil => intro pre l hp h0 h1; rw [hF, end_at hp]; exact szD h0
 | cons x rest ih =>
  intro pre l hp h0 h1
  rw [hF, more_at hp, getI_at hp]
  show (g x l >>= fun r => if ltI r 0 then some (-1) else F a r (addI (pre.length : Int) 1)) = _
  rw [next_at hp hl, szs_cons]
  exact szB (g x) _ _ _ h0 h1 (hg x (by rw [← hp]; simp) l h0 h1) fun l' h2 h3 => ih _ l' (step_at hp) h2 h3
theorem sz_list (S : List α → Int → Option Int) (F : List α → Int → Int → Option Int) (g : α → Int → Option Int) (sz : α → Nat)
  (hS : ∀ a l, S a l = if ltI (subI l (lenL a)) 0 then some (-1) else F a (subI l (lenL a)) 0)
  (hF : ∀ a l i, F a l i = if ltI i (lenL a) then getI a i >>= fun x => g x l >>= fun r => if ltI r 0 then some (-1) else F a r (addI i 1) else some l)
  (a : List α) (hl : a.length ≤ maxLen) (hg : ∀ x ∈ a, ∀ l, 0 ≤ l → l ≤ 1048576 → g x l = some (szr l (sz x))) {l : Int} (h0 : 0 ≤ l) (h1 : l ≤ 1048576) : S a l = some (szr l (a.length + szs sz a)) := by
 rw [hS]
 exact szK a.length (fun l => F a l 0) _ h0 h1 hl fun l' h2 h3 => sz_loop F g sz hF a hl hg a [] l' rfl h2 h3
theorem fill_at {z : α} {pre : List α} {m : Nat} : getI (pre ++ List.replicate (m + 1) z) (pre.length : Int) = some z := by
 unfold getI; rw [if_pos (by omega)]; simp [List.replicate_succ]
theorem fill_set {z x : α} {pre : List α} {m : Nat} : (pre ++ List.replicate (m + 1) z).set (Int.toNat (pre.length : Int)) x = (pre ++ [x]) ++ List.replicate m z := by
 simp [List.replicate_succ]
theorem to_loop {β : Type} (F : List α → List β → Int → Option (List β)) (g : α → Option β) (h : α → β) (z : β)
  (hF : ∀ a out i, F a out i = if ltI i (lenL a) then getI a i >>= fun x => g x >>= fun r => getI out i >>= fun _ => F a (out.set (Int.toNat i) r) (addI i 1) else some out)
  (a : List α) (hl : a.length ≤ maxLen) (hg : ∀ x ∈ a, g x = some (h x)) :
  ∀ rest pre, pre ++ rest = a → F a (pre.map h ++ List.replicate rest.length z) pre.length = some (a.map h) := by
 intro rest
 induction rest with
 | nil => intro pre hp; rw [hF, end_at hp, ← hp]; simp
 | cons x rest ih =>
  intro pre hp
  rw [hF, more_at hp, getI_at hp]
  show (g x >>= fun r => getI _ (pre.length : Int) >>= fun _ => F a _ (addI (pre.length : Int) 1)) = _
  rw [hg x (by rw [← hp]; simp)]
  have e : ((pre.length : Nat) : Int) = ((pre.map h).length : Nat) := by simp
  show (getI _ (pre.length : Int) >>= fun _ => F a _ (addI (pre.length : Int) 1)) = _
  rw [List.length_cons, e, fill_at, fill_set, ← e, next_at hp hl]
  have := ih (pre ++ [x]) (step_at hp)
  simp only [List.map_append, List.map_cons, List.map_nil] at this
  exact this
theorem mkN_eq {n byt : Nat} (h : n * byt ≤ LIM) (hb : 0 < byt) : mkN (n : Int) byt = some n := by
 unfold mkN; rw [if_pos ⟨by omega, by simpa using h, hb⟩]; simp
theorem to_list {β : Type} (S : List α → Option (List β)) (F : List α → List β → Int → Option (List β)) (g : α → Option β) (h : α → β) (z : β) (byt : Nat)
  (hS : ∀ a, S a = mkN (lenL a) byt >>= fun m => F a (List.replicate m z) 0)
  (hF : ∀ a out i, F a out i = if ltI i (lenL a) then getI a i >>= fun x => g x >>= fun r => getI out i >>= fun _ => F a (out.set (Int.toNat i) r) (addI i 1) else some out)
  (hb : 0 < byt) (hb2 : byt ≤ 100000) (a : List α) (hl : a.length ≤ 1048576) (hg : ∀ x ∈ a, g x = some (h x)) : S a = some (a.map h) := by
 have h1 : a.length * byt ≤ LIM := Nat.le_trans (Nat.mul_le_mul hl hb2) (by decide)
 rw [hS]
 have e : mkN (lenL a) byt = some a.length := mkN_eq h1 hb
 rw [e]
 exact to_loop F g h z hF a (Nat.le_trans hl (by decide)) hg a [] rfl
theorem eq_loop {β : Type} (F : List β → List β → Int → Option Bool) (e : β → β → Option Bool)
  (hF : ∀ a b i, F a b i = if ltI i (lenL a) then getI a i >>= fun x => getI b i >>= fun y => e x y >>= fun r => if r then F a b (addI i 1) else some false else some true)
  (a : List β) (hl : a.length ≤ maxLen) (he : ∀ x ∈ a, e x x = some true) : ∀ rest pre, pre ++ rest = a → F a a pre.length = some true := by
 intro rest
 induction rest with
 | nil => intro pre hp; rw [hF, end_at hp]; rfl
 | cons x rest ih =>
  intro pre hp
  rw [hF, more_at hp, getI_at hp]
  show (e x x >>= fun r => if r then F a a (addI (pre.length : Int) 1) else some false) = _
  rw [he x (by rw [← hp]; simp), next_at hp hl]
  exact ih _ (step_at hp)
theorem eq_list {β : Type} (S : List β → List β → Option Bool) (F : List β → List β → Int → Option Bool) (e : β → β → Option Bool)
  (hS : ∀ a b, S a b = if neI (lenL a) (lenL b) then some false else F a b 0)
  (hF : ∀ a b i, F a b i = if ltI i (lenL a) then getI a i >>= fun x => getI b i >>= fun y => e x y >>= fun r => if r then F a b (addI i 1) else some false else some true)
  (a : List β) (hl : a.length ≤ maxLen) (he : ∀ x ∈ a, e x x = some true) : S a a = some true := by
 rw [hS, neI_self]
 exact eq_loop F e hF a hl he a [] rfl
end
end TT
namespace TT
open Go
end TT
set_option linter.unusedSimpArgs false
namespace TT
open Go
end TT
namespace TT
open Go
end TT
