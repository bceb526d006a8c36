import Derived.Test.YtjnjaaimgdjcgaaGreatDoorTP2Here
import Derived.Test.YtjnjaaimgdjcgaaGreatDoorTP2MarkWalk
set_option linter.unusedVariables false
set_option linter.unusedSimpArgs false
namespace TT
open Go
theorem law_FnExactSwap (a : GWalk) (ha : a.ok) (b : GNode) (hb : b.ok) : laws_FnExactSwap a b = some true := by
 unfold laws_FnExactSwap
 have s0 := sz_GWalk a ha (1048576) (by omega) (by omega)
 by_cases n0 : szr (1048576) a.sz < 0
 ·simp [some_bnd, if_true, Bool.false_eq_true, if_false, s0, ltI_t n0]
 obtain ⟨a0, b0, c0⟩ := szr_le (show (0 : Int) ≤ 1048576 by omega) n0
 have s1 := sz_GNode b hb (szr (1048576) a.sz) b0 (by omega)
 by_cases n1 : szr (szr (1048576) a.sz) b.sz < 0
 ·simp [some_bnd, if_true, Bool.false_eq_true, if_false, s0, s1, ltI_t n1, ltI_f n0]
 obtain ⟨a1, b1, c1⟩ := szr_le b0 n1
 have hz : a.sz + b.sz ≤ 1048576 := by
  have e : szr (1048576) a.sz = 1048576 - (a.sz : Int) := by unfold szr; rw [if_neg (by omega)]
  omega
 have hz' := hz
 rw [GWalk.sz_eq] at hz'
 have ta := to_GWalk a (by omega)
 have ea := eq_GWalk a (by omega)
 have tb := to_GNode b (by omega)
 have eb := eq_GNode b (by omega)
 obtain ⟨r, hs, hi, r1, r2, r3⟩ := same_Swap a b hz
 have er := eq_GWalk r.1 (by omega)
 obtain ⟨m1, x1, x2, x3, l1, l2, l3, l4, x5⟩ := holdWalk_ok a (by omega) (by omega) 1 (by omega) (by omega)
 obtain ⟨m3, z1, z2, z3, j1, j2, j3, j4⟩ := holdNode_ok b (by omega) m1.1 (by omega) (by omega)
 obtain ⟨m2, y1, y2, y3, k1, k2, k3, k4, y5⟩ := holdWalk_ok r.1 (by omega) r2 1 (by omega) (by omega)
 have g1 : ltI m3.1 0 = false := ltI_f (by omega)
 have g2 : ltI m2.1 0 = false := ltI_f (by omega)
 have q1 : sameL m1.2.1 a.Tre.Decls = some () := if_pos l1
 have q2 : sameL m1.2.2.1 a.Tre.Attrs = some () := if_pos l2
 have q3 : sameL m1.2.2.2.1 a.Tre.Kids = some () := if_pos l3
 have q4 : sameL m1.2.2.2.2 a.Path = some () := if_pos l4
 have v1 : sameL m3.2.1 b.Decls = some () := if_pos j1
 have v2 : sameL m3.2.2.1 b.Attrs = some () := if_pos j2
 have v3 : sameL m3.2.2.2 b.Kids = some () := if_pos j3
 have p1 : sameL m2.2.1 r.1.Tre.Decls = some () := if_pos k1
 have p2 : sameL m2.2.2.1 r.1.Tre.Attrs = some () := if_pos k2
 have p3 : sameL m2.2.2.2.1 r.1.Tre.Kids = some () := if_pos k3
 have p4 : sameL m2.2.2.2.2 r.1.Path = some () := if_pos k4
 simp only [some_bnd, if_true, Bool.false_eq_true, if_false, s0, s1, ltI_f n0, ltI_f n1, ta, ea, tb, eb, hs, hi, er, x1, y1, z1, q1, q2, q3, q4, v1, v2, v3, p1, p2, p3, p4, y5, g1, g2, neI_self, neB_self]
end TT
