import Derived.Test.YtabghncdppfllaaTP00
import Derived.Test.YtabghncdppfllaaTP1
set_option linter.unusedVariables false
set_option linter.unusedSimpArgs false
namespace TT
open Go

/-! ### SameName -/
theorem same_SameName (a b : GNode) (ha : a.ok) (hb : b.ok) (_ : a.sz ≤ 1048576) (_ : b.sz ≤ 1048576) : ∃ r, spec_SameName a b = some r ∧ impl_SameName a b = some r := by
  obtain ⟨_, _, _, _, hd, _, _, _⟩ := (GNode.ok_iff a).1 ha
  rw [spec_SameName, impl_SameName]
  split
  · exact ⟨_, rfl, rfl⟩
  split
  · exact ⟨_, rfl, rfl⟩
  split
  · exact ⟨_, rfl, rfl⟩
  split
  · exact ⟨_, rfl, rfl⟩
  split
  · exact ⟨_, rfl, rfl⟩
  by_cases hl : a.Decls.length = b.Decls.length
  · rw [neI_len' hl]
    have h1 := all2_same (fun i => spec_SameName_l14 i a b) a.Decls b.Decls (fun x y => some (eqS x.Pre y.Pre && eqS x.Uri y.Uri)) _ (some true) (some false) (fun i => by rw [spec_SameName_l14]; rfl) hd.1 hl (fun _ _ _ _ => rfl)
    have h2 := all2_same (fun i => impl_SameName_l14 a i b) a.Decls b.Decls (fun x y => some (eqS x.Pre y.Pre && eqS x.Uri y.Uri)) _ (some true) (some false) (fun i => by rw [impl_SameName_l14]; rfl) hd.1 hl (fun _ _ _ _ => rfl)
    simp only [Bool.false_eq_true, if_false]
    rw [h1, h2]
    split <;> exact ⟨_, rfl, rfl⟩
  · rw [neI_len hl]; exact ⟨_, rfl, rfl⟩

end TT
