import Derived.Test.YtabghncdppfllaaTP2Longest
set_option linter.unusedVariables false
set_option linter.unusedSimpArgs false
namespace TT
open Go
theorem law_FnExactLongest (a : List GNode) (la : a.length ≤ maxLen) (ha : ∀ y ∈ a, GNode.ok y) (b : List GNode) (lb : b.length ≤ maxLen) (hb : ∀ y ∈ b, GNode.ok y) : laws_FnExactLongest a b = some true := by
  unfold laws_FnExactLongest
  have s0 := sz_GNodeS a la ha (1048576) (by omega) (by omega)
  by_cases n0 : szr (1048576) (a.length + szs GNode.sz a) < 0
  · simp [some_bnd, if_true, Bool.false_eq_true, if_false, s0, ltI_t n0]
  obtain ⟨a0, b0, c0⟩ := szr_le (show (0 : Int) ≤ 1048576 by omega) n0
  have s1 := sz_GNodeS b lb hb (szr (1048576) (a.length + szs GNode.sz a)) b0 (by omega)
  by_cases n1 : szr (szr (1048576) (a.length + szs GNode.sz a)) (b.length + szs GNode.sz b) < 0
  · simp [some_bnd, if_true, Bool.false_eq_true, if_false, s0, ltI_f n0, s1, ltI_t n1]
  obtain ⟨a1, b1, c1⟩ := szr_le b0 n1
  have ta := to_GNodeS a (by omega) (fun y hy => by have := szs_mem GNode.sz hy; omega)
  have ea := eq_GNodeS a (by omega) (fun y hy => by have := szs_mem GNode.sz hy; omega)
  have tb := to_GNodeS b (by omega) (fun y hy => by have := szs_mem GNode.sz hy; omega)
  have eb := eq_GNodeS b (by omega) (fun y hy => by have := szs_mem GNode.sz hy; omega)
  obtain ⟨r, hs, hi⟩ := same_Longest a b la ha lb hb (by omega) (by omega)
  simp [some_bnd, if_true, Bool.false_eq_true, if_false, s0, ltI_f n0, s1, ltI_f n1, ta, ea, tb, eb, hs, hi, neB_self, neI_self, neS_self]
end TT
