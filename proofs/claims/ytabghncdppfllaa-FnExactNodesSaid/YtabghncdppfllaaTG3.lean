import Derived.Test.YtabghncdppfllaaTG2
set_option linter.unusedVariables false
set_option linter.unusedSimpArgs false
namespace TT
open Go

/-! ### Words for running code by simp -/

theorem ckV_dec (p : Prop) [Decidable p] (x y : Option (Ex × St)) : ckV (.t (.v (.bool (decide p)))) x y = if p then x else y := by
  by_cases h : p <;> simp [ckV, h]
theorem ckV_true (x y : Option (Ex × St)) : ckV (.t (.v (.bool true))) x y = x := rfl
theorem ckV_false (x y : Option (Ex × St)) : ckV (.t (.v (.bool false))) x y = y := rfl
theorem ckV_b (b : Bool) (x y : Option (Ex × St)) : ckV (.t (.v (.bool b))) x y = if b then x else y := by cases b <;> rfl
theorem ite_bind' {α β : Type} (p : Prop) [Decidable p] (x y : Option α) (f : α → Option β) : (if p then x else y).bind f = if p then x.bind f else y.bind f := by by_cases h : p <;> simp [h]
theorem ite_map' {α β : Type} (p : Prop) [Decidable p] (x y : Option α) (f : α → β) : (if p then x else y).map f = if p then x.map f else y.map f := by by_cases h : p <;> simp [h]

end TT
