import Derived.Test.YtjnjaaimgdjcgaaGreatDoorTP2Here
import Derived.Test.YtjnjaaimgdjcgaaGreatDoorTP2Mark
set_option linter.unusedVariables false
set_option linter.unusedSimpArgs false
namespace TT
open Go
theorem markWalk_ok (a : GWalk) (h1 : a.Tre.sz ≤ 1200000) (h2 : a.Path.length ≤ 1048576) (k : Int) (h0 : 0 ≤ k) (hk : k ≤ 1000000000) : ∃ r, laws_markWalk a k = some r ∧ k ≤ r.1 ∧ r.1 ≤ k + 20000000 ∧ r.2.1.length = a.Tre.Decls.length ∧ r.2.2.1.length = a.Tre.Attrs.length ∧ r.2.2.2.1.length = a.Tre.Kids.length ∧ r.2.2.2.2.length = a.Path.length := by
  obtain ⟨m1, x1, x2, x3, l1, l2, l3, l4⟩ := holdNode_ok a.Tre h1 k h0 (by omega)
  obtain ⟨m2, y1, y2, y3, y4⟩ := holdIntS_ok a.Path h2 m1.1 (by omega) (by omega)
  have q1 : sameL m1.2.1 a.Tre.Decls = some () := if_pos l1
  have q2 : sameL m1.2.2.1 a.Tre.Attrs = some () := if_pos l2
  have q3 : sameL m1.2.2.2 a.Tre.Kids = some () := if_pos l3
  have q4 : sameL m2.2 a.Path = some () := if_pos y4
  refine ⟨(m2.1, m1.2.1, m1.2.2.1, m1.2.2.2, m2.2), ?_, by show k ≤ m2.1; omega, by show m2.1 ≤ _; omega, l1, l2, l3, y4⟩
  rw [laws_markWalk, x1]
  simp only [some_bnd, q1, q2, q3, y1, q4]
theorem law_FnExactHere (a : GWalk) (ha : a.ok) : laws_FnExactHere a = some true := by
  unfold laws_FnExactHere
  have s0 := sz_GWalk a ha (1048576) (by omega) (by omega)
  by_cases n0 : szr (1048576) a.sz < 0
  · simp [some_bnd, if_true, Bool.false_eq_true, if_false, s0, ltI_t n0]
  obtain ⟨a0, b0, c0⟩ := szr_le (show (0 : Int) ≤ 1048576 by omega) n0
  have hz : a.sz ≤ 1048576 := by omega
  have hz' := hz
  rw [GWalk.sz_eq] at hz'
  have ta := to_GWalk a (by omega)
  have ea := eq_GWalk a (by omega)
  obtain ⟨r, hs, hi, r1⟩ := same_Here a hz
  have er := eq_GNode r (by omega)
  obtain ⟨m1, x1, x2, x3, l1, l2, l3, l4⟩ := markWalk_ok a (by omega) (by omega) 1 (by omega) (by omega)
  obtain ⟨m2, y1, y2, y3, k1, k2, k3, y5⟩ := holdNode_ok r (by omega) 1 (by omega) (by omega)
  have g1 : ltI m1.1 0 = false := ltI_f (by omega)
  have g2 : ltI m2.1 0 = false := ltI_f (by omega)
  have q1 : sameL m1.2.1 a.Tre.Decls = some () := if_pos l1
  have q2 : sameL m1.2.2.1 a.Tre.Attrs = some () := if_pos l2
  have q3 : sameL m1.2.2.2.1 a.Tre.Kids = some () := if_pos l3
  have q4 : sameL m1.2.2.2.2 a.Path = some () := if_pos l4
  have p1 : sameL m2.2.1 r.Decls = some () := if_pos k1
  have p2 : sameL m2.2.2.1 r.Attrs = some () := if_pos k2
  have p3 : sameL m2.2.2.2 r.Kids = some () := if_pos k3
  simp only [some_bnd, if_true, Bool.false_eq_true, if_false, s0, ltI_f n0, ta, ea, hs, hi, er, x1, y1, q1, q2, q3, q4, p1, p2, p3, y5, g1, g2, neI_self]
end TT
