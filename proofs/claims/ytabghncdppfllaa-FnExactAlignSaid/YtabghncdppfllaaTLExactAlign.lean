import Derived.Test.YtabghncdppfllaaTP2MarkNode
set_option linter.unusedVariables false
set_option linter.unusedSimpArgs false
namespace TT
open Go
theorem law_FnExactAlign (a : List GNode) (la : a.length ≤ maxLen) (ha : ∀ y ∈ a, GNode.ok y) (b : List GNode) (lb : b.length ≤ maxLen) (hb : ∀ y ∈ b, GNode.ok y) : laws_FnExactAlign a b = some true := by
  unfold laws_FnExactAlign
  have em : maxLen = 9223372036854775807 := rfl
  have s0 := sz_GNodeS a la ha (1048576) (by omega) (by omega)
  by_cases n0 : szr (1048576) (a.length + szs GNode.sz a) < 0
  · simp [some_bnd, if_true, Bool.false_eq_true, if_false, s0, ltI_t n0]
  obtain ⟨a0, b0, c0⟩ := szr_le (show (0 : Int) ≤ 1048576 by omega) n0
  have s1 := sz_GNodeS b lb hb (szr (1048576) (a.length + szs GNode.sz a)) b0 (by omega)
  by_cases n1 : szr (szr (1048576) (a.length + szs GNode.sz a)) (b.length + szs GNode.sz b) < 0
  · simp [some_bnd, if_true, Bool.false_eq_true, if_false, s0, ltI_f n0, s1, ltI_t n1]
  obtain ⟨a1, b1, c1⟩ := szr_le b0 n1
  have ta := to_GNodeS a (by omega) (fun y hy => by have := szs_mem GNode.sz hy; omega)
  have ea := eq_GNodeS a (by omega) (fun y hy => by have := szs_mem GNode.sz hy; omega)
  have tb := to_GNodeS b (by omega) (fun y hy => by have := szs_mem GNode.sz hy; omega)
  have eb := eq_GNodeS b (by omega) (fun y hy => by have := szs_mem GNode.sz hy; omega)
  obtain ⟨r, hs, hi, hr⟩ := same_Align a b la ha lb hb (by omega) (by omega)
  have er := eqIntS_self r (by omega)
  obtain ⟨m1, x1, x2, x3, x4⟩ := markNodeS_ok a 1 (by omega) (by omega) (by omega)
  obtain ⟨m2, y1, y2, y3, y4⟩ := markNodeS_ok b m1.1 (by omega) (by omega) (by omega)
  have z := markIntS_ok r (by omega)
  have w := heldIntS_ok r.length (by omega)
  have g0 : ltI m2.1 0 = false := ltI_f (by omega)
  have g1 : ltI (1 + (r.length : Int)) 0 = false := ltI_f (by omega)
  have q1 : sameL m1.2 a = some () := if_pos x4
  have q2 : sameL m2.2 b = some () := if_pos y4
  have q3 : sameL (ups 1 r.length) r = some () := if_pos (ups_len _ _)
  simp only [some_bnd, if_true, Bool.false_eq_true, if_false, s0, ltI_f n0, s1, ltI_f n1, ta, ea, tb, eb, hs, hi, er, x1, y1, q1, q2, z, q3, w, g0, g1, neI_self]
end TT
