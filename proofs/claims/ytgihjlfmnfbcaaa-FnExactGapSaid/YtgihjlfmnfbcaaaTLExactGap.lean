import Derived.Test.YtgihjlfmnfbcaaaTP2Gap
set_option linter.unusedVariables false
set_option linter.unusedSimpArgs false
namespace TT
open Go
theorem law_FnExactGap (a : GNode) (ha : a.ok) (b : GNode) (hb : b.ok) : laws_FnExactGap a b = some true := by
 unfold laws_FnExactGap
 have s0 := sz_GNode a ha (1048576) (by omega) (by omega)
 by_cases n0 : szr (1048576) a.sz < 0
 ·simp [some_bnd, if_true, Bool.false_eq_true, if_false, s0, ltI_t n0]
 obtain ⟨a0, b0, c0⟩ := szr_le (show (0 : Int) ≤ 1048576 by omega) n0
 have s1 := sz_GNode b hb (szr (1048576) a.sz) b0 (by omega)
 by_cases n1 : szr (szr (1048576) a.sz) b.sz < 0
 ·simp [some_bnd, if_true, Bool.false_eq_true, if_false, s0, ltI_f n0, s1, ltI_t n1]
 obtain ⟨a1, b1, c1⟩ := szr_le b0 n1
 have ta := to_GNode a (by omega)
 have ea := eq_GNode a (by omega)
 have tb := to_GNode b (by omega)
 have eb := eq_GNode b (by omega)
 obtain ⟨r, hs, hi⟩ := same_Gap a b ha hb (by omega) (by omega)
 simp [some_bnd, if_true, Bool.false_eq_true, if_false, s0, ltI_f n0, s1, ltI_f n1, ta, ea, tb, eb, hs, hi, neB_self, neI_self, neS_self]
end TT
