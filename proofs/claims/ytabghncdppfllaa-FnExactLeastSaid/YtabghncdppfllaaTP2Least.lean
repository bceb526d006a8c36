import Derived.Test.YtabghncdppfllaaTP00
import Derived.Test.YtabghncdppfllaaTP1
set_option linter.unusedVariables false
set_option linter.unusedSimpArgs false
namespace TT
open Go

/-! ### Least -/
theorem same_CountOf : ∀ n : GNode, n.ok → ∃ r, spec_CountOf n = some r ∧ impl_CountOf n = some r := by
  refine GNode.ind' fun n ih => ?_
  intro hok
  obtain ⟨_, _, _, _, _, _, hk, _⟩ := (GNode.ok_iff n).1 hok
  have h := two_loops (fun k i => spec_CountOf_l8 k i n) (fun k i => impl_CountOf_l8 k n i) n.Kids (fun k x => spec_CountOf x >>= fun r => some (addI k r)) (fun k x => impl_CountOf x >>= fun r => some (addI k r)) some some
    (fun acc i => by rw [spec_CountOf_l8]; simp [Option.bind_assoc]) (fun acc i => by rw [impl_CountOf_l8]; simp [Option.bind_assoc]) hk.1 (fun _ _ => True)
    (fun acc x rest hx _ => by
      obtain ⟨r, h1, h2⟩ := ih x hx (hk.2 x hx)
      exact ⟨addI acc r, by rw [h1]; rfl, by rw [h2]; rfl, trivial⟩) n.Kids [] (addI 1 (lenL n.Attrs)) rfl trivial
  obtain ⟨r, h1, h2, _⟩ := h
  exact ⟨r, by rw [spec_CountOf]; exact h1, by rw [impl_CountOf]; exact h2⟩
theorem same_Least (a b : GNode) (ha : a.ok) (hb : b.ok) (_ : a.sz ≤ 1048576) (_ : b.sz ≤ 1048576) : ∃ r, spec_Least a b = some r ∧ impl_Least a b = some r := by
  obtain ⟨r, h1, h2⟩ := same_CountOf a ha
  obtain ⟨q, h3, h4⟩ := same_CountOf b hb
  exact ⟨_, by rw [spec_Least, h1, h3]; rfl, by rw [impl_Least, h2, h4]; rfl⟩

end TT
