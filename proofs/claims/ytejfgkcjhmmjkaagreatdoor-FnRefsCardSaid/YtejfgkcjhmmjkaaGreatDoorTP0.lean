import Derived.Test.YtejfgkcjhmmjkaaGreatDoorTH4
set_option linter.unusedVariables false
namespace TT
open Go
theorem wrap_eq {x : Int} (h1 : -9223372036854775808 ≤ x) (h2 : x < 9223372036854775808) : IntKind.i64.wrap x = x := by rw [IntKind.wrap_i64]; omega
theorem addI_eq {a b : Int} (h1 : -9223372036854775808 ≤ a + b) (h2 : a + b < 9223372036854775808) : addI a b = a + b := wrap_eq h1 h2
theorem subI_eq {a b : Int} (h1 : -9223372036854775808 ≤ a - b) (h2 : a - b < 9223372036854775808) : subI a b = a - b := wrap_eq h1 h2
theorem ltI_iff {a b : Int} : ltI a b = true ↔ a < b := decide_eq_true_iff
theorem ltI_not {a b : Int} : ltI a b = false ↔ ¬ a < b := decide_eq_false_iff_not
theorem ltI_t {a b : Int} (h : a < b) : ltI a b = true := ltI_iff.2 h
theorem ltI_f {a b : Int} (h : ¬ a < b) : ltI a b = false := ltI_not.2 h
theorem leI_t {a b : Int} (h : a ≤ b) : leI a b = true := decide_eq_true h
theorem leI_f {a b : Int} (h : ¬ a ≤ b) : leI a b = false := decide_eq_false h
theorem geI_t {a b : Int} (h : b ≤ a) : geI a b = true := decide_eq_true h
theorem geI_f {a b : Int} (h : ¬ b ≤ a) : geI a b = false := decide_eq_false h
theorem gtI_t {a b : Int} (h : b < a) : gtI a b = true := decide_eq_true h
theorem gtI_f {a b : Int} (h : ¬ b < a) : gtI a b = false := decide_eq_false h
theorem eqI_self (a : Int) : eqI a a = true := beq_self_eq_true a
theorem neI_self (a : Int) : neI a a = false := by simp [neI]
theorem eqI_t {a b : Int} (h : a = b) : eqI a b = true := by rw [h]; exact eqI_self b
theorem eqI_f {a b : Int} (h : a ≠ b) : eqI a b = false := by simp [eqI, h]
theorem neI_eq (a b : Int) : neI a b = !eqI a b := rfl
theorem toList_inj {x y : ByteArray} (h : x.toList = y.toList) : x = y := by
 rw [ByteArray.toList_eq, ByteArray.toList_eq] at h
 cases x; cases y
 simp only [ByteArray.mk.injEq]
 exact Array.toList_inj.1 h
theorem eqS_self (x : ByteArray) : eqS x x = true := beq_self_eq_true _
theorem neS_self (x : ByteArray) : neS x x = false := by simp [neS]
theorem neS_eq (x y : ByteArray) : neS x y = !eqS x y := rfl
theorem eqS_iff {x y : ByteArray} : eqS x y = true ↔ x = y := ⟨fun h => toList_inj (by simpa [eqS] using h), fun h => by rw [h]; exact eqS_self y⟩
theorem eqI_iff {x y : Int} : eqI x y = true ↔ x = y := by simp [eqI]
theorem neB_self (x : Bool) : neB x x = false := by simp [neB]
theorem maxLen_eq : maxLen = 9223372036854775807 := rfl
section
variable {α β ρ : Type}
theorem getI_at {l pre rest : List α} {x : α} (h : pre ++ x :: rest = l) : getI l (pre.length : Int) = some x := by
 subst h; unfold getI; rw [if_pos (by omega)]; simp
theorem more_at {l pre rest : List α} {x : α} (h : pre ++ x :: rest = l) : ltI (pre.length : Int) (lenL l) = true := by
 subst h; apply ltI_t; simp only [lenL, List.length_append, List.length_cons]; omega
theorem end_at {l pre : List α} (h : pre ++ [] = l) : ltI (pre.length : Int) (lenL l) = false := by
 subst h; apply ltI_f; simp [lenL]
theorem next_at {l pre rest : List α} {x : α} (h : pre ++ x :: rest = l) (hl : l.length ≤ maxLen) : addI (pre.length : Int) 1 = ((pre ++ [x]).length : Int) := by
 have h1 : pre.length < l.length := by rw [← h]; simp
 rw [maxLen_eq] at hl
 rw [addI_eq (by omega) (by omega)]; simp
theorem step_at {l pre rest : List α} {x : α} (h : pre ++ x :: rest = l) : (pre ++ [x]) ++ rest = l := by simp [← h]
end
end TT
namespace TT
open Go
end TT
set_option linter.unusedSimpArgs false
namespace TT
open Go
end TT
namespace TT
open Go
theorem room_ok {n byt : Nat} (h : n ≤ 4000000) (hb : 0 < byt) (hb2 : byt ≤ 1000) : room n byt = some () := by
 unfold room
 have : n * byt ≤ 4000000 * 1000 := Nat.mul_le_mul h hb2
 rw [if_pos ⟨by unfold LIM; omega, hb⟩]
end TT
