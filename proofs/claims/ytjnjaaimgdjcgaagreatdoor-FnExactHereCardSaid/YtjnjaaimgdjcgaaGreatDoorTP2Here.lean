import Derived.Test.YtjnjaaimgdjcgaaGreatDoorTP2Copy
import Derived.Test.YtjnjaaimgdjcgaaGreatDoorTP2Has
set_option linter.unusedVariables false
set_option linter.unusedSimpArgs false
namespace TT
open Go
theorem same_Here (w : GWalk) (hs : w.sz ≤ 1048576) : ∃ r, spec_Here w = some r ∧ impl_Here w = some r ∧ r.sz ≤ 1048576 := by
  obtain ⟨w1, w2⟩ := walk_b w hs
  rw [GWalk.sz_eq] at hs
  rw [spec_Here, impl_Here, w1, w2, nodeAt_spec _ _ (by omega) (by omega), nodeAt_impl _ _ (by omega) (by omega)]
  simp only [some_bnd]
  have hz : (GNode.mk 0 (⟨#[]⟩) (⟨#[]⟩) (⟨#[]⟩) [] [] [] (⟨#[]⟩)).sz ≤ 1048576 := by rw [GNode.sz_eq]; decide
  cases walkB w with
  | false => exact ⟨_, rfl, rfl, hz⟩
  | true =>
    refine ⟨_, rfl, rfl, ?_⟩
    rw [nodeAtR]
    split
    · rename_i x hx
      exact Nat.le_trans (nodeAt_sz _ hx) (by omega)
    · exact hz
end TT
