import Derived.Test.YtdpdfjkjlkmjaaaTH4
set_option linter.unusedVariables false
namespace TT
open Go
theorem wrap_eq {x : Int} (h1 : -9223372036854775808 ≤ x) (h2 : x < 9223372036854775808) : IntKind.i64.wrap x = x := by rw [IntKind.wrap_i64]; omega
theorem addI_eq {a b : Int} (h1 : -9223372036854775808 ≤ a + b) (h2 : a + b < 9223372036854775808) : addI a b = a + b := wrap_eq h1 h2
theorem subI_eq {a b : Int} (h1 : -9223372036854775808 ≤ a - b) (h2 : a - b < 9223372036854775808) : subI a b = a - b := wrap_eq h1 h2
theorem ltI_iff {a b : Int} : ltI a b = true ↔ a < b := decide_eq_true_iff
theorem ltI_not {a b : Int} : ltI a b = false ↔ ¬ a < b := decide_eq_false_iff_not
theorem ltI_t {a b : Int} (h : a < b) : ltI a b = true := ltI_iff.2 h
theorem ltI_f {a b : Int} (h : ¬ a < b) : ltI a b = false := ltI_not.2 h
theorem leI_t {a b : Int} (h : a ≤ b) : leI a b = true := decide_eq_true h
theorem gtI_t {a b : Int} (h : b < a) : gtI a b = true := decide_eq_true h
theorem gtI_f {a b : Int} (h : ¬ b < a) : gtI a b = false := decide_eq_false h
theorem eqI_self (a : Int) : eqI a a = true := beq_self_eq_true a
theorem neI_self (a : Int) : neI a a = false := by simp [neI]
theorem eqI_t {a b : Int} (h : a = b) : eqI a b = true := by rw [h]; exact eqI_self b
theorem eqI_f {a b : Int} (h : a ≠ b) : eqI a b = false := by simp [eqI, h]
theorem neI_eq (a b : Int) : neI a b = !eqI a b := rfl
theorem toList_inj {x y : ByteArray} (h : x.toList = y.toList) : x = y := by
 rw [ByteArray.toList_eq, ByteArray.toList_eq] at h
 cases x; cases y
 simp only [ByteArray.mk.injEq]
 exact Array.toList_inj.1 h
theorem eqS_self (x : ByteArray) : eqS x x = true := beq_self_eq_true _
theorem neS_eq (x y : ByteArray) : neS x y = !eqS x y := rfl
theorem eqS_iff {x y : ByteArray} : eqS x y = true ↔ x = y := ⟨fun h => toList_inj (by simpa [eqS] using h), fun h => by rw [h]; exact eqS_self y⟩
theorem eqI_iff {x y : Int} : eqI x y = true ↔ x = y := by simp [eqI]
theorem maxLen_eq : maxLen = 9223372036854775807 := rfl
section
variable {α β ρ : Type}
theorem getI_at {l pre rest : List α} {x : α} (h : pre ++ x :: rest = l) : getI l (pre.length : Int) = some x := by
 subst h; unfold getI; rw [if_pos (by omega)]; simp
theorem more_at {l pre rest : List α} {x : α} (h : pre ++ x :: rest = l) : ltI (pre.length : Int) (lenL l) = true := by
 subst h; apply ltI_t; simp only [lenL, List.length_append, List.length_cons]; omega
theorem end_at {l pre : List α} (h : pre ++ [] = l) : ltI (pre.length : Int) (lenL l) = false := by
 subst h; apply ltI_f; simp [lenL]
theorem next_at {l pre rest : List α} {x : α} (h : pre ++ x :: rest = l) (hl : l.length ≤ maxLen) : addI (pre.length : Int) 1 = ((pre ++ [x]).length : Int) := by
 have h1 : pre.length < l.length := by rw [← h]; simp
 rw [maxLen_eq] at hl
 rw [addI_eq (by omega) (by omega)]; simp
theorem step_at {l pre rest : List α} {x : α} (h : pre ++ x :: rest = l) : (pre ++ [x]) ++ rest = l := by simp [← h]
end
section
variable {α : Type}
def szs (sz : α → Nat) (l : List α) : Nat := (l.map sz).sum
theorem szs_cons (sz : α → Nat) (x : α) (l : List α) : szs sz (x :: l) = sz x + szs sz l := rfl
theorem szs_mem (sz : α → Nat) {x : α} : ∀ {l : List α}, x ∈ l → sz x ≤ szs sz l
 | y :: l, h => by
  rw [szs_cons]
  rcases List.mem_cons.1 h with h | h
  ·subst h; omega
  ·have := szs_mem sz h; omega
theorem fill_at {z : α} {pre : List α} {m : Nat} : getI (pre ++ List.replicate (m + 1) z) (pre.length : Int) = some z := by
 unfold getI; rw [if_pos (by omega)]; simp [List.replicate_succ]
theorem fill_set {z x : α} {pre : List α} {m : Nat} : (pre ++ List.replicate (m + 1) z).set (Int.toNat (pre.length : Int)) x = (pre ++ [x]) ++ List.replicate m z := by
 simp [List.replicate_succ]
theorem mkN_eq {n byt : Nat} (h : n * byt ≤ LIM) (hb : 0 < byt) : mkN (n : Int) byt = some n := by
 unfold mkN; rw [if_pos ⟨by omega, by simpa using h, hb⟩]; simp
end
end TT
namespace TT
open Go
section
variable {α β ρ σ : Type}
def all2 (p : α → β → Bool) : List α → List β → Bool
 | [], [] => true
 | x :: xs, y :: ys => p x y && all2 p xs ys
 | _, _ => false
theorem all2_loop (F : Int → Option ρ) (a : List α) (b : List β) (e : α → β → Option Bool) (p : α → β → Bool) (kT kE : Option ρ)
  (hF : ∀ i, F i = if ltI i (lenL a) then getI a i >>= fun x => getI b i >>= fun y => e x y >>= fun r => if r then F (addI i 1) else kE else kT)
  (hl : a.length ≤ maxLen) (he : ∀ x ∈ a, ∀ y ∈ b, e x y = some (p x y)) :
  ∀ rest rest' pre pre', pre ++ rest = a → pre' ++ rest' = b → pre.length = pre'.length → rest.length = rest'.length → F pre.length = if all2 p rest rest' then kT else kE := by
 intro rest
 induction rest with
 | nil =>
  intro rest' pre pre' hp hp' h1 h2
  cases rest' with
  | nil => rw [hF, end_at hp]; rfl
  | cons y ys => simp at h2
 | cons x rest ih =>
  intro rest' pre pre' hp hp' h1 h2
  cases rest' with
  | nil => simp at h2
  | cons y ys =>
   have h3 : getI b (pre.length : Int) = some y := by rw [h1]; exact getI_at hp'
   rw [hF, more_at hp, getI_at hp]
   show (getI b (pre.length : Int) >>= fun y => e x y >>= fun r => if r then F (addI (pre.length : Int) 1) else kE) = _
   rw [h3]
   show (e x y >>= fun r => if r then F (addI (pre.length : Int) 1) else kE) = _
   rw [he x (by rw [← hp]; simp) y (by rw [← hp']; simp), next_at hp hl]
   show (if p x y then F _ else kE) = _
   have := ih ys (pre ++ [x]) (pre' ++ [y]) (step_at hp) (step_at hp') (by simp [h1]) (by simpa using h2)
   rw [this]
   simp only [all2]
   by_cases hq : p x y = true
   ·simp [hq]
   ·simp [hq]
theorem all2_same (F : Int → Option ρ) (a : List α) (b : List β) (e : α → β → Option Bool) (p : α → β → Bool) (kT kE : Option ρ)
  (hF : ∀ i, F i = if ltI i (lenL a) then getI a i >>= fun x => getI b i >>= fun y => e x y >>= fun r => if r then F (addI i 1) else kE else kT)
  (hl : a.length ≤ maxLen) (hab : a.length = b.length) (he : ∀ x ∈ a, ∀ y ∈ b, e x y = some (p x y)) : F 0 = if all2 p a b then kT else kE :=
 all2_loop F a b e p kT kE hF hl he a b [] [] rfl rfl rfl hab
theorem neI_len {a : List α} {b : List β} (h : a.length ≠ b.length) : neI (lenL a) (lenL b) = true := by
 simp only [neI, lenL, bne_iff_ne, ne_eq]; omega
theorem neI_len' {a : List α} {b : List β} (h : a.length = b.length) : neI (lenL a) (lenL b) = false := by
 simp only [neI, lenL, bne_eq_false_iff_eq]; omega
end
end TT
set_option linter.unusedSimpArgs false
namespace TT
open Go
def mB : Int := 100000000000
end TT
namespace TT
open Go
theorem room_ok {n byt : Nat} (h : n ≤ 4000000) (hb : 0 < byt) (hb2 : byt ≤ 1000) : room n byt = some () := by
 unfold room
 have : n * byt ≤ 4000000 * 1000 := Nat.mul_le_mul h hb2
 rw [if_pos ⟨by unfold LIM; omega, hb⟩]
theorem copy_loop {α : Type} (F : List α → Int → Option (List α)) (l : List α) (g : α → Option α) (byt : Nat)
  (hF : ∀ out i, F out i = if ltI i (lenL l) then getI l i >>= fun x => g x >>= fun r => room (out.length + 1) byt >>= fun _ => F (out ++ [r]) (addI i 1) else some out)
  (hb : 0 < byt) (hb2 : byt ≤ 1000) (hl : l.length ≤ 4000000) (hg : ∀ x ∈ l, g x = some x) : F [] 0 = some l := by
 have key : ∀ rest pre : List α, pre ++ rest = l → F pre pre.length = some l := by
  intro rest
  induction rest with
  | nil => intro pre hp; rw [hF, end_at hp]; simp at hp; rw [hp]; rfl
  | cons x rest ih =>
   intro pre hp
   have hlen : pre.length + 1 ≤ l.length := by rw [← hp]; simp
   rw [hF, more_at hp, getI_at hp, next_at hp (by rw [maxLen_eq]; omega)]
   simp only [if_true, some_bnd, hg x (by rw [← hp]; simp), room_ok (show pre.length + 1 ≤ 4000000 by omega) hb hb2]
   exact ih (pre ++ [x]) (step_at hp)
 exact key l [] rfl
end TT
