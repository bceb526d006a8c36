import Derived.Test.YtjnjaaimgdjcgaaGreatDoorTP2Home
import Derived.Test.YtjnjaaimgdjcgaaGreatDoorTP2MarkWalk
set_option linter.unusedVariables false
set_option linter.unusedSimpArgs false
namespace TT
open Go
theorem law_FnExactHome (a : GNode) (ha : a.ok) : laws_FnExactHome a = some true := by
 unfold laws_FnExactHome
 have s0 := sz_GNode a ha (1048576) (by omega) (by omega)
 by_cases n0 : szr (1048576) a.sz < 0
 ·simp [some_bnd, if_true, Bool.false_eq_true, if_false, s0, ltI_t n0]
 obtain ⟨a0, b0, c0⟩ := szr_le (show (0 : Int) ≤ 1048576 by omega) n0
 have hz : a.sz ≤ 1048576 := by omega
 have ta := to_GNode a (by omega)
 have ea := eq_GNode a (by omega)
 obtain ⟨r, hs, hi, r1, r2, r3⟩ := same_Home a hz
 have er := eq_GWalk r.1 (by omega)
 obtain ⟨m1, x1, x2, x3, l1, l2, l3, x5⟩ := holdNode_ok a (by omega) 1 (by omega) (by omega)
 obtain ⟨m2, y1, y2, y3, k1, k2, k3, k4, y5⟩ := holdWalk_ok r.1 (by omega) r2 1 (by omega) (by omega)
 have g1 : ltI m1.1 0 = false := ltI_f (by omega)
 have g2 : ltI m2.1 0 = false := ltI_f (by omega)
 have q1 : sameL m1.2.1 a.Decls = some () := if_pos l1
 have q2 : sameL m1.2.2.1 a.Attrs = some () := if_pos l2
 have q3 : sameL m1.2.2.2 a.Kids = some () := if_pos l3
 have p1 : sameL m2.2.1 r.1.Tre.Decls = some () := if_pos k1
 have p2 : sameL m2.2.2.1 r.1.Tre.Attrs = some () := if_pos k2
 have p3 : sameL m2.2.2.2.1 r.1.Tre.Kids = some () := if_pos k3
 have p4 : sameL m2.2.2.2.2 r.1.Path = some () := if_pos k4
 simp only [some_bnd, if_true, Bool.false_eq_true, if_false, s0, ltI_f n0, ta, ea, hs, hi, er, x1, y1, q1, q2, q3, p1, p2, p3, p4, y5, g1, g2, neI_self, neB_self]
end TT
