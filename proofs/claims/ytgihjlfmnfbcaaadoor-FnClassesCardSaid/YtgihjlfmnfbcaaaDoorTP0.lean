import Derived.Test.YtgihjlfmnfbcaaaDoorTH4
set_option linter.unusedVariables false
namespace TT
open Go
theorem GM {x : Int} (h1 : -9223372036854775808 ≤ x) (h2 : x < 9223372036854775808) : IntKind.i64.wrap x = x := by rw [IntKind.wrap_i64]; omega
theorem Bj {a b : Int} (h1 : -9223372036854775808 ≤ a + b) (h2 : a + b < 9223372036854775808) : C1 a b = a + b := GM h1 h2
theorem Io {a b : Int} (h1 : -9223372036854775808 ≤ a - b) (h2 : a - b < 9223372036854775808) : Mw a b = a - b := GM h1 h2
theorem NS {a b : Int} : J1 a b = true ↔ a < b := decide_eq_true_iff
theorem Xb {a b : Int} : J1 a b = false ↔ ¬ a < b := decide_eq_false_iff_not
theorem H9 {a b : Int} (h : a < b) : J1 a b = true := NS.2 h
theorem E3 {a b : Int} (h : ¬ a < b) : J1 a b = false := Xb.2 h
theorem Kw {a b : Int} (h : a ≤ b) : Rc a b = true := decide_eq_true h
theorem R6 {a b : Int} (h : ¬ a ≤ b) : Rc a b = false := decide_eq_false h
theorem MT {a b : Int} (h : b ≤ a) : ST a b = true := decide_eq_true h
theorem Ot {a b : Int} (h : ¬ b ≤ a) : ST a b = false := decide_eq_false h
theorem Ou {a b : Int} (h : b < a) : Rd a b = true := decide_eq_true h
theorem Ov {a b : Int} (h : ¬ b < a) : Rd a b = false := decide_eq_false h
theorem VC (a : Int) : Ja a a = true := beq_self_eq_true a
theorem VD {a b : Int} (h : a = b) : Ja a b = true := by rw [h]; exact VC b
theorem MU {a b : Int} (h : a ≠ b) : Ja a b = false := by simp [Ja, h]
theorem toList_inj {x y : ByteArray} (h : x.toList = y.toList) : x = y := by
 rw [ByteArray.toList_eq, ByteArray.toList_eq] at h
 cases x; cases y
 simp only [ByteArray.mk.injEq]
 exact Array.toList_inj.1 h
theorem VE (x : Bool) : Hw x x = true := beq_self_eq_true _
theorem MV : maxLen = 9223372036854775807 := rfl
section
variable {α β ρ : Type}
theorem NT {l pre rest : List α} {x : α} (h : pre ++ x :: rest = l) : getI l (pre.length : Int) = some x := by
 subst h; unfold getI; rw [if_pos (by omega)]; simp
theorem Xc {l pre rest : List α} {x : α} (h : pre ++ x :: rest = l) : J1 (pre.length : Int) (Be l) = true := by
 subst h; apply H9; simp only [Be, List.length_append, List.length_cons]; omega
theorem Zn {l pre : List α} (h : pre ++ [] = l) : J1 (pre.length : Int) (Be l) = false := by
 subst h; apply E3; simp [Be]
theorem Xd {l pre rest : List α} {x : α} (h : pre ++ x :: rest = l) (hl : l.length ≤ maxLen) : C1 (pre.length : Int) 1 = ((pre ++ [x]).length : Int) := by
 have h1 : pre.length < l.length := by rw [← h]; simp
 rw [MV] at hl
 rw [Bj (by omega) (by omega)]; simp
end
end TT
namespace TT
open Go
end TT
set_option linter.unusedSimpArgs false
namespace TT
open Go
end TT
namespace TT
open Go
theorem Xe {n byt : Nat} (h : n ≤ 4000000) (hb : 0 < byt) (hb2 : byt ≤ 1000) : room n byt = some () := by
 unfold room
 have : n * byt ≤ 4000000 * 1000 := Nat.mul_le_mul h hb2
 rw [if_pos ⟨by unfold LJ; omega, hb⟩]
end TT
