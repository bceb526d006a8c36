import Derived.Test.YtabghncdppfllaaTP2Align
set_option linter.unusedVariables false
set_option linter.unusedSimpArgs false
namespace TT
open Go
theorem same_Longest (a b : List GNode) (la : a.length ≤ maxLen) (ha : ∀ y ∈ a, GNode.ok y) (lb : b.length ≤ maxLen) (hb : ∀ y ∈ b, GNode.ok y)
    (sa : a.length + szs GNode.sz a ≤ 1048576) (sb : b.length + szs GNode.sz b ≤ 1048576) : ∃ r, spec_Longest a b = some r ∧ impl_Longest a b = some r := by
  rw [spec_Longest, impl_Longest, spec_table a b ha hb (by omega) (by omega), impl_table a b ha hb (by omega) (by omega)]
  simp only [some_bnd]
  rw [get_tab (i := 0) (j := 0) (by omega) rfl]
  simp only [some_bnd]
  rw [get_row (k := 0) (j := 0) (by omega) rfl]
  exact ⟨_, rfl, rfl⟩
end TT
