import Derived.Test.YtjnjaaimgdjcgaaGreatDoorTP2OpOk
set_option linter.unusedVariables false
set_option linter.unusedSimpArgs false
namespace TT
open Go
theorem law_FnExactOpOk (a : GOp) (ha : a.ok) : laws_FnExactOpOk a = some true := by
 unfold laws_FnExactOpOk
 have s0 := sz_GOp a ha (1048576) (by omega) (by omega)
 by_cases n0 : szr (1048576) a.sz < 0
 ·simp [some_bnd, if_true, Bool.false_eq_true, if_false, s0, ltI_t n0]
 obtain ⟨a0, b0, c0⟩ := szr_le (show (0 : Int) ≤ 1048576 by omega) n0
 have ta := to_GOp a (by omega)
 have ea := eq_GOp a (by omega)
 obtain ⟨r, hs, hi⟩ := same_OpOk a (by omega)
 simp [some_bnd, if_true, Bool.false_eq_true, if_false, s0, ltI_f n0, ta, ea, hs, hi, neB_self, neI_self, neS_self]
end TT
