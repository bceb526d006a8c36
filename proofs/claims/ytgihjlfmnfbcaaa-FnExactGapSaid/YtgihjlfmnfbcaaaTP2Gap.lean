import Derived.Test.YtgihjlfmnfbcaaaTP4Forest
set_option linter.unusedVariables false
namespace TT
open Go
theorem same_Gap (a b : GNode) (ha : a.ok) (hb : b.ok) (sa : a.sz ≤ 1048576) (sb : b.sz ≤ 1048576) : ∃ r, spec_Gap a b = some r ∧ impl_Gap a b = some r := by
 rw [spec_gap sa sb, impl_gap sa sb]
 split
 ·exact ⟨_, rfl, rfl⟩
 ·exact ⟨_, rfl, rfl⟩
end TT
