import Derived.Test.YtibchlpljlcebaaTP2Cost
set_option linter.unusedVariables false
set_option linter.unusedSimpArgs false
namespace TT
open Go
theorem law_FnExactCost (a : List GOp) (la : a.length ≤ maxLen) (ha : ∀ y ∈ a, GOp.ok y) : laws_FnExactCost a = some true := by
  unfold laws_FnExactCost
  have s0 := sz_GOpS a la ha (1048576) (by omega) (by omega)
  by_cases n0 : szr (1048576) (a.length + szs GOp.sz a) < 0
  · simp [some_bnd, if_true, Bool.false_eq_true, if_false, s0, ltI_t n0]
  obtain ⟨a0, b0, c0⟩ := szr_le (show (0 : Int) ≤ 1048576 by omega) n0
  have ta := to_GOpS a (by omega) (fun y hy => by have := szs_mem GOp.sz hy; omega)
  have ea := eq_GOpS a (by omega) (fun y hy => by have := szs_mem GOp.sz hy; omega)
  obtain ⟨r, hs, hi⟩ := same_Cost a la ha (by omega)
  simp [some_bnd, if_true, Bool.false_eq_true, if_false, s0, ltI_f n0, ta, ea, hs, hi, neB_self, neI_self, neS_self]
end TT
