import Derived.Test.YtdpdfjkjlkmjaaaTP3Same
set_option linter.unusedVariables false
set_option linter.unusedSimpArgs false
namespace TT
open Go
theorem all2_eq {α : Type} {p : α → α → Bool} (hp : ∀ x y, p x y = true → x = y) : ∀ {l m : List α}, all2 p l m = true → l = m
 | [], [], _ => rfl
 | x :: l, y :: m, h => by
  simp only [all2, Bool.and_eq_true] at h
  rw [hp x y h.1, all2_eq hp h.2]
 | [], _ :: _, h => by simp [all2] at h
 | _ :: _, [], h => by simp [all2] at h
end TT
