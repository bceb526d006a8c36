import Derived.Test.YtabghncdppfllaaTP2Copy
set_option linter.unusedVariables false
set_option linter.unusedSimpArgs false
namespace TT
open Go
theorem same_Alone (n : GNode) (ha : n.ok) (hs : n.sz ≤ 1048576) : ∃ r : GNode, spec_Alone n = some r ∧ impl_Alone n = some r ∧ r.sz ≤ 1048576 := by
  have hz : GNode.sz (GNode.mk n.Kind n.Pre n.Local n.Uri n.Decls n.Attrs [] n.Text) ≤ 1048576 := by
    rw [GNode.sz_eq] at hs ⊢
    simp only [List.length_nil]
    have : szs GNode.sz [] = 0 := rfl
    omega
  exact ⟨_, by rw [spec_Alone, copy_spec n hs]; rfl, by rw [impl_Alone, copy_impl _ hz]; rfl, hz⟩
end TT
