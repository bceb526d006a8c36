import Derived.Test.YtaeegkjcjlnanaaGreatDoorTH4
set_option linter.unusedVariables false
namespace TT
open Go
theorem Po {x : Int} (h1 : -9223372036854775808 ≤ x) (h2 : x < 9223372036854775808) : IntKind.i64.wrap x = x := by rw [IntKind.wrap_i64]; omega
theorem Al {a b : Int} (h1 : -9223372036854775808 ≤ a + b) (h2 : a + b < 9223372036854775808) : AP a b = a + b := Po h1 h2
theorem BT {a b : Int} (h1 : -9223372036854775808 ≤ a - b) (h2 : a - b < 9223372036854775808) : BA a b = a - b := Po h1 h2
theorem YM {a b : Int} : Hz a b = true ↔ a < b := decide_eq_true_iff
theorem wa {a b : Int} : Hz a b = false ↔ ¬ a < b := decide_eq_false_iff_not
theorem O6 {a b : Int} (h : a < b) : Hz a b = true := YM.2 h
theorem Eg {a b : Int} (h : ¬ a < b) : Hz a b = false := wa.2 h
theorem TQ {a b : Int} (h : a ≤ b) : Rn a b = true := decide_eq_true h
theorem XI {a b : Int} (h : ¬ a ≤ b) : Rn a b = false := decide_eq_false h
theorem Q9 {a b : Int} (h : b ≤ a) : geI a b = true := decide_eq_true h
theorem QA {a b : Int} (h : ¬ b ≤ a) : geI a b = false := decide_eq_false h
theorem PG {a b : Int} (h : b < a) : Np a b = true := decide_eq_true h
theorem TR {a b : Int} (h : ¬ b < a) : Np a b = false := decide_eq_false h
theorem Zh (a : Int) : Av a a = true := beq_self_eq_true a
theorem PH (a : Int) : neI a a = false := by simp [neI]
theorem QB {a b : Int} (h : a = b) : Av a b = true := by rw [h]; exact Zh b
theorem LS {a b : Int} (h : a ≠ b) : Av a b = false := by simp [Av, h]
theorem sn (a b : Int) : neI a b = !Av a b := rfl
theorem toList_inj {x y : ByteArray} (h : x.toList = y.toList) : x = y := by
 rw [ByteArray.toList_eq, ByteArray.toList_eq] at h
 cases x; cases y
 simp only [ByteArray.mk.injEq]
 exact Array.toList_inj.1 h
theorem Jg (x : ByteArray) : D7 x x = true := beq_self_eq_true _
theorem VR {x y : ByteArray} : D7 x y = true ↔ x = y := ⟨fun h => toList_inj (by simpa [D7] using h), fun h => by rw [h]; exact Jg y⟩
theorem Pp {x y : Int} : Av x y = true ↔ x = y := by simp [Av]
theorem sq (x : Bool) : neB x x = false := by simp [neB]
theorem BX : maxLen = 9223372036854775807 := rfl
section
variable {α β ρ : Type}
theorem CT {l pre rest : List α} {x : α} (h : pre ++ x :: rest = l) : getI l (pre.length : Int) = some x := by
 subst h; unfold getI; rw [if_pos (by omega)]; simp
theorem EV {l pre rest : List α} {x : α} (h : pre ++ x :: rest = l) : Hz (pre.length : Int) (AC l) = true := by
 subst h; apply O6; simp only [AC, List.length_append, List.length_cons]; omega
theorem Fd {l pre : List α} (h : pre ++ [] = l) : Hz (pre.length : Int) (AC l) = false := by
 subst h; apply Eg; simp [AC]
theorem DN {l pre rest : List α} {x : α} (h : pre ++ x :: rest = l) (hl : l.length ≤ maxLen) : AP (pre.length : Int) 1 = ((pre ++ [x]).length : Int) := by
 have h1 : pre.length < l.length := by rw [← h]; simp
 rw [BX] at hl
 rw [Al (by omega) (by omega)]; simp
theorem Er {l pre rest : List α} {x : α} (h : pre ++ x :: rest = l) : (pre ++ [x]) ++ rest = l := by simp [← h]
end
section
variable {α : Type}
def szs (sz : α → Nat) (l : List α) : Nat := (l.map sz).sum
theorem FI (sz : α → Nat) (x : α) (l : List α) : szs sz (x :: l) = sz x + szs sz l := rfl
theorem Cp (sz : α → Nat) {x : α} : ∀ {l : List α}, x ∈ l → sz x ≤ szs sz l
 | y :: l, h => by
  rw [FI]
  rcases List.mem_cons.1 h with h | h
  ·subst h; omega
  ·have := Cp sz h; omega
end
end TT
namespace TT
open Go
end TT
set_option linter.unusedSimpArgs false
namespace TT
open Go
end TT
namespace TT
open Go
theorem DO {n byt : Nat} (h : n ≤ 4000000) (hb : 0 < byt) (hb2 : byt ≤ 1000) : room n byt = some () := by
 unfold room
 have : n * byt ≤ 4000000 * 1000 := Nat.mul_le_mul h hb2
 rw [if_pos ⟨by unfold LIM; omega, hb⟩]
theorem du {α : Type} (F : List α → Int → Option (List α)) (l : List α) (g : α → Option α) (byt : Nat)
  (hF : ∀ out i, F out i = if Hz i (AC l) then getI l i >>= fun x => g x >>= fun r => room (out.length + 1) byt >>= fun _ => F (out ++ [r]) (AP i 1) else some out)
  (hb : 0 < byt) (hb2 : byt ≤ 1000) (hl : l.length ≤ 4000000) (hg : ∀ x ∈ l, g x = some x) : F [] 0 = some l := by
 have key : ∀ rest pre : List α, pre ++ rest = l → F pre pre.length = some l := by
  intro rest
  induction rest with
  | nil => intro pre hp; rw [hF, Fd hp]; simp at hp; rw [hp]; rfl
  | cons x rest ih =>
   intro pre hp
   have hlen : pre.length + 1 ≤ l.length := by rw [← hp]; simp
   rw [hF, EV hp, CT hp, DN hp (by rw [BX]; omega)]
   simp only [if_true, A5, hg x (by rw [← hp]; simp), DO (show pre.length + 1 ≤ 4000000 by omega) hb hb2]
   exact ih (pre ++ [x]) (Er hp)
 exact key l [] rfl
end TT
