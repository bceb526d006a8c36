import Derived.Test.YtdpdfjkjlkmjaaaTP2Copy
import Derived.Test.YtdpdfjkjlkmjaaaTP2Mark
set_option linter.unusedVariables false
set_option linter.unusedSimpArgs false
namespace TT
open Go
theorem law_FnExactPutAt (a : GNode) (ha : a.ok) (p : List Int) (hpl : p.length ≤ maxLen) (hp : ∀ y ∈ p, -9223372036854775808 ≤ y ∧ y < 9223372036854775808) (l : List GNode) (hll : l.length ≤ maxLen) (hl : ∀ y ∈ l, GNode.ok y) : laws_FnExactPutAt a p l = some true := by
 unfold laws_FnExactPutAt
 by_cases hpn : p.length ≤ 1048576
 case neg => simp only [gtI_t (show (1048576 : Int) < lenL p by simp only [lenL]; omega), if_true]
 have hg : gtI (lenL p) 1048576 = false := gtI_f (by simp only [lenL]; omega)
 have s0 := sz_GNode a ha (1048576) (by omega) (by omega)
 by_cases n0 : szr (1048576) a.sz < 0
 ·simp [some_bnd, if_true, Bool.false_eq_true, if_false, s0, ltI_t n0, hg]
 obtain ⟨a0, b0, c0⟩ := szr_le (show (0 : Int) ≤ 1048576 by omega) n0
 have s1 := sz_GNodeS l hll hl (szr (1048576) a.sz) b0 (by omega)
 by_cases n1 : szr (szr (1048576) a.sz) (l.length + szs GNode.sz l) < 0
 ·simp [some_bnd, if_true, Bool.false_eq_true, if_false, s0, s1, ltI_t n1, ltI_f n0, hg]
 obtain ⟨a1, b1, c1⟩ := szr_le b0 n1
 have hz : a.sz + (l.length + szs GNode.sz l) ≤ 1048576 := by
  have e : szr (1048576) a.sz = 1048576 - (a.sz : Int) := by unfold szr; rw [if_neg (by omega)]
  omega
 have hlz : ∀ y ∈ l, GNode.sz y ≤ 1048576 := fun y hy => by have := szs_mem GNode.sz hy; omega
 have ta := to_GNode a (by omega)
 have ea := eq_GNode a (by omega)
 have tp := to_IntS p hpn
 have ep := eq_IntS p hpn
 have tl := to_GNodeS l (by omega) hlz
 have el := eq_GNodeS l (by omega) (fun y hy => by have := hlz y hy; omega)
 obtain ⟨r, hs, hi, r1⟩ := same_PutAt a p l (by unfold wt; exact hz) hpn
 have hr : r.1.sz ≤ 1048576 := Nat.le_trans r1 (by unfold wt; exact hz)
 have er := eq_GNode r.1 (by omega)
 obtain ⟨m1, x1, x2, x3, l1, l2, l3, l4⟩ := holdNode_ok a (by omega) 1 (by omega) (by omega)
 obtain ⟨m2, z1, z2, z3, j1⟩ := holdIntS_ok p hpn m1.1 (by omega) (by omega)
 obtain ⟨m3, v1, v2, v3, j2, j3⟩ := holdNodeS_ok l (by omega) m2.1 (by omega) (by unfold mB; omega)
 obtain ⟨m4, y1, y2, y3, k1, k2, k3, k4⟩ := holdNode_ok r.1 (by omega) 1 (by omega) (by omega)
 have g1 : ltI m3.1 0 = false := ltI_f (by omega)
 have g2 : ltI m4.1 0 = false := ltI_f (by omega)
 have q1 : sameL m1.2.1 a.Decls = some () := if_pos l1
 have q2 : sameL m1.2.2.1 a.Attrs = some () := if_pos l2
 have q3 : sameL m1.2.2.2 a.Kids = some () := if_pos l3
 have q4 : sameL m2.2 p = some () := if_pos j1
 have q5 : sameL m3.2 l = some () := if_pos j2
 have p1 : sameL m4.2.1 r.1.Decls = some () := if_pos k1
 have p2 : sameL m4.2.2.1 r.1.Attrs = some () := if_pos k2
 have p3 : sameL m4.2.2.2 r.1.Kids = some () := if_pos k3
 simp only [some_bnd, if_true, Bool.false_eq_true, if_false, hg, s0, s1, ltI_f n0, ltI_f n1, ta, ea, tp, ep, tl, el, hs, hi, er, x1, y1, z1, v1, q1, q2, q3, q4, q5, p1, p2, p3, k4, g1, g2, neI_self, neB_self]
end TT
