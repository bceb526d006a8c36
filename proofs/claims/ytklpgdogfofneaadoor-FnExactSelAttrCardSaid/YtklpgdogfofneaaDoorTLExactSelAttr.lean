import Derived.Test.YtklpgdogfofneaaDoorTP2SelAttr
import Derived.Test.YtklpgdogfofneaaDoorTP2Copy
set_option linter.unusedVariables false
set_option linter.unusedSimpArgs false
namespace TT
open Go
theorem law_FnExactSelAttr (a : GNode) (ha : a.ok) (b : List Int) (lb : b.length ≤ maxLen) (hb : ∀ y ∈ b, -9223372036854775808 ≤ y ∧ y < 9223372036854775808) (d : GAttr) (hd : d.ok) : laws_FnExactSelAttr a b d = some true := by
  unfold laws_FnExactSelAttr
  by_cases gb : (b.length : Int) > 1048576
  · simp [gtI_t (a := lenL b) (b := 1048576) gb]
  have eb : gtI (lenL b) 1048576 = false := gtI_f gb
  have s0 := sz_GNode a ha 1048576 (by omega) (by omega)
  by_cases n0 : szr 1048576 a.sz < 0
  · simp [some_bnd, if_true, Bool.false_eq_true, if_false, eb, s0, ltI_t n0]
  obtain ⟨a0, b0, c0⟩ := szr_le (show (0 : Int) ≤ 1048576 by omega) n0
  have s1 := sz_GAttr d hd (szr 1048576 a.sz) (by omega) (by omega)
  by_cases n1 : szr (szr 1048576 a.sz) d.sz < 0
  · simp [some_bnd, if_true, Bool.false_eq_true, if_false, eb, s0, s1, ltI_f n0, ltI_t n1]
  obtain ⟨a1, b1, c1⟩ := szr_le (show (0 : Int) ≤ szr 1048576 a.sz by omega) n1
  have ta := to_GNode a (by omega)
  have ea := eq_GNode a (by omega)
  have td := to_GAttr d (by omega)
  have tb := to_IntS b (by omega)
  have e2 := eq_IntS b (by omega)
  obtain ⟨r, hs, hi, hr⟩ := all_SelAttr a b d (by omega) (by omega) (by omega)
  have er := eq_GSel r.1 (by omega)
  obtain ⟨m1, x1, x2, x3, l1, l2, l3⟩ := holdNode_ok a (by omega) 1 (by omega) (by omega)
  obtain ⟨m2, y1, y2, y3, y4⟩ := holdIntS_ok b (by omega) m1.1 (by omega) (by omega)
  obtain ⟨m3, z1, z2, z3, z4, z5⟩ := holdSel_ok r.1 (by omega) 1 (by omega) (by omega)
  have g1 : ltI m2.1 0 = false := ltI_f (by omega)
  have g2 : ltI m3.1 0 = false := ltI_f (by omega)
  have q1 : sameL m1.2.1 a.Decls = some () := if_pos l1
  have q2 : sameL m1.2.2.1 a.Attrs = some () := if_pos l2
  have q3 : sameL m1.2.2.2 a.Kids = some () := if_pos l3
  have q4 : sameL m2.2 b = some () := if_pos y4
  simp only [some_bnd, if_true, Bool.false_eq_true, if_false, eb, s0, s1, ltI_f n0, ltI_f n1, ta, ea, tb, td, e2, hs, hi, er, x1, y1, z1, q1, q2, q3, q4, z5, g1, g2, neI_self, neB_self]
end TT
