import Derived.Test.YtabghncdppfllaaTP2WholeText
set_option linter.unusedVariables false
set_option linter.unusedSimpArgs false
namespace TT
open Go
theorem law_FnExactWholeText (a : GNode) (ha : a.ok) : laws_FnExactWholeText a = some true := by
  unfold laws_FnExactWholeText
  have s0 := sz_GNode a ha (1048576) (by omega) (by omega)
  by_cases n0 : szr (1048576) a.sz < 0
  · simp [some_bnd, if_true, Bool.false_eq_true, if_false, s0, ltI_t n0]
  obtain ⟨a0, b0, c0⟩ := szr_le (show (0 : Int) ≤ 1048576 by omega) n0
  have ta := to_GNode a (by omega)
  have ea := eq_GNode a (by omega)
  obtain ⟨r, hs, hi⟩ := same_WholeText a ha (by omega)
  simp [some_bnd, if_true, Bool.false_eq_true, if_false, s0, ltI_f n0, ta, ea, hs, hi, neB_self, neI_self, neS_self]
end TT
