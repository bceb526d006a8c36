import Derived.Test.YtabghncdppfllaaTP2Alone
import Derived.Test.YtabghncdppfllaaTP2Mark
set_option linter.unusedVariables false
set_option linter.unusedSimpArgs false
namespace TT
open Go
theorem law_FnExactAlone (a : GNode) (ha : a.ok) : laws_FnExactAlone a = some true := by
  unfold laws_FnExactAlone
  have s0 := sz_GNode a ha 1048576 (by omega) (by omega)
  by_cases n0 : szr 1048576 a.sz < 0
  · simp [some_bnd, if_true, Bool.false_eq_true, if_false, s0, ltI_t n0]
  obtain ⟨a0, b0, c0⟩ := szr_le (show (0 : Int) ≤ 1048576 by omega) n0
  have ta := to_GNode a (by omega)
  have ea := eq_GNode a (by omega)
  obtain ⟨r, hs, hi, hr⟩ := same_Alone a ha (by omega)
  have er := eq_GNode r hr
  obtain ⟨m1, x1, x2, x3, l1, l2, l3, _⟩ := holdNode_ok a (by omega) 1 (by omega) (by omega)
  obtain ⟨m2, y1, y2, y3, p1, p2, p3, z⟩ := holdNode_ok r hr 1 (by omega) (by omega)
  have g1 : ltI m1.1 0 = false := ltI_f (by omega)
  have g2 : ltI m2.1 0 = false := ltI_f (by omega)
  have q1 : sameL m1.2.1 a.Decls = some () := if_pos l1
  have q2 : sameL m1.2.2.1 a.Attrs = some () := if_pos l2
  have q3 : sameL m1.2.2.2 a.Kids = some () := if_pos l3
  have q4 : sameL m2.2.1 r.Decls = some () := if_pos p1
  have q5 : sameL m2.2.2.1 r.Attrs = some () := if_pos p2
  have q6 : sameL m2.2.2.2 r.Kids = some () := if_pos p3
  simp only [some_bnd, if_true, Bool.false_eq_true, if_false, s0, ltI_f n0, ta, ea, hs, hi, er, x1, y1, q1, q2, q3, q4, q5, q6, z, g1, g2, neI_self]
end TT
