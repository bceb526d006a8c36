import Derived.Test.YtjnjaaimgdjcgaaGreatDoorTP2Mark
set_option linter.unusedVariables false
set_option linter.unusedSimpArgs false
namespace TT
open Go
theorem holdWalk_ok (a : GWalk) (h1 : a.Tre.sz ≤ 1200000) (h2 : a.Path.length ≤ 1048576) (k : Int) (h0 : 0 ≤ k) (hk : k ≤ 1000000000) : ∃ r, laws_markWalk a k = some r ∧ k ≤ r.1 ∧ r.1 ≤ k + 20000000 ∧ r.2.1.length = a.Tre.Decls.length ∧ r.2.2.1.length = a.Tre.Attrs.length ∧ r.2.2.2.1.length = a.Tre.Kids.length ∧ r.2.2.2.2.length = a.Path.length ∧ laws_heldWalk (GWalk.mk (GNode.mk a.Tre.Kind a.Tre.Pre a.Tre.Local a.Tre.Uri r.2.1 r.2.2.1 r.2.2.2.1 a.Tre.Text) r.2.2.2.2) k = some r.1 := by
 obtain ⟨m1, x1, x2, x3, l1, l2, l3, l4⟩ := holdNode_ok a.Tre h1 k h0 (by omega)
 obtain ⟨m2, y1, y2, y3, y4, y5⟩ := holdIntS_ok a.Path h2 m1.1 (by omega) (by omega)
 have q1 : sameL m1.2.1 a.Tre.Decls = some () := if_pos l1
 have q2 : sameL m1.2.2.1 a.Tre.Attrs = some () := if_pos l2
 have q3 : sameL m1.2.2.2 a.Tre.Kids = some () := if_pos l3
 have q4 : sameL m2.2 a.Path = some () := if_pos y4
 refine ⟨(m2.1, m1.2.1, m1.2.2.1, m1.2.2.2, m2.2), ?_, by show k ≤ m2.1; omega, by show m2.1 ≤ _; omega, l1, l2, l3, y4, ?_⟩
 ·rw [laws_markWalk, x1]
  simp only [some_bnd, q1, q2, q3, y1, q4]
 ·rw [laws_heldWalk]
  simp only [l4, some_bnd, y5]
  rw [ltI_f (show ¬ m1.1 < 0 by omega), ltI_f (show ¬ m2.1 < 0 by omega)]
  rfl
end TT
