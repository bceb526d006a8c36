import Derived.Test.YtjnjaaimgdjcgaaGreatDoorTP2Has
import Derived.Test.YtjnjaaimgdjcgaaGreatDoorTP3Copy
set_option linter.unusedVariables false
set_option linter.unusedSimpArgs false
namespace TT
open Go
theorem same_Home (t : GNode) (hs : t.sz ≤ 1048576) : ∃ r, spec_Home t = some r ∧ impl_Home t = some r ∧ r.1.Tre.sz ≤ 1048576 ∧ r.1.Path.length ≤ 1048576 ∧ r.1.sz ≤ 1048577 := by
 obtain ⟨t1, t2⟩ := tree_b t hs
 rw [spec_Home, impl_Home, t1, t2, copy_spec _ hs, copy_impl _ hs]
 simp only [some_bnd]
 have hz : (GNode.mk 0 (⟨#[]⟩) (⟨#[]⟩) (⟨#[]⟩) [] [] [] (⟨#[]⟩)).sz ≤ 1048576 := by rw [GNode.sz_eq]; decide
 cases treeB t with
 | false =>
  refine ⟨_, rfl, rfl, hz, Nat.zero_le _, ?_⟩
  rw [GWalk.sz_eq]
  show _ + ([] : List Int).length ≤ _
  simp only [List.length_nil]; omega
 | true =>
  refine ⟨_, rfl, rfl, hs, Nat.zero_le _, ?_⟩
  rw [GWalk.sz_eq]
  show t.sz + ([] : List Int).length ≤ _
  simp only [List.length_nil]; omega
end TT
