import Derived.Test.YtaeegkjcjlnanaaGreatDoorTP2Has
import Derived.Test.YtaeegkjcjlnanaaGreatDoorTP3Copy
set_option linter.unusedVariables false
set_option linter.unusedSimpArgs false
namespace TT
open Go
theorem oJ (t : A0) (hs : t.sz ≤ 1048576) : ∃ r, Ou t = some r ∧ IJ t = some r ∧ r.1.Tre.sz ≤ 1048576 ∧ r.1.Path.length ≤ 1048576 ∧ r.1.sz ≤ 1048577 := by
 obtain ⟨t1, t2⟩ := ZY t hs
 rw [Ou, IJ, t1, t2, cn _ hs, Rm _ hs]
 simp only [A5]
 have hz : (A0.mk 0 (⟨#[]⟩) (⟨#[]⟩) (⟨#[]⟩) [] [] [] (⟨#[]⟩)).sz ≤ 1048576 := by rw [A0.sz_eq]; decide
 cases PC t with
 | false =>
  refine ⟨_, rfl, rfl, hz, Nat.zero_le _, ?_⟩
  rw [AI.sz_eq]
  show _ + ([] : List Int).length ≤ _
  simp only [List.length_nil]; omega
 | true =>
  refine ⟨_, rfl, rfl, hs, Nat.zero_le _, ?_⟩
  rw [AI.sz_eq]
  show t.sz + ([] : List Int).length ≤ _
  simp only [List.length_nil]; omega
end TT
