import Derived.Test.YtdpdfjkjlkmjaaaTP00M
set_option linter.unusedVariables false
set_option linter.unusedSimpArgs false
namespace TT
open Go
theorem room_ok {n byt : Nat} (h : n ≤ 4000000) (hb : 0 < byt) (hb2 : byt ≤ 1000) : room n byt = some () := by
  unfold room
  have : n * byt ≤ 4000000 * 1000 := Nat.mul_le_mul h hb2
  rw [if_pos ⟨by unfold LIM; omega, hb⟩]
/-- A list is copied by appending, element by element. -/
theorem copy_loop {α : Type} (F : List α → Int → Option (List α)) (l : List α) (g : α → Option α) (byt : Nat)
    (hF : ∀ out i, F out i = if ltI i (lenL l) then getI l i >>= fun x => g x >>= fun r => room (out.length + 1) byt >>= fun _ => F (out ++ [r]) (addI i 1) else some out)
    (hb : 0 < byt) (hb2 : byt ≤ 1000) (hl : l.length ≤ 4000000) (hg : ∀ x ∈ l, g x = some x) : F [] 0 = some l := by
  have key : ∀ rest pre : List α, pre ++ rest = l → F pre pre.length = some l := by
    intro rest
    induction rest with
    | nil => intro pre hp; rw [hF, end_at hp]; simp at hp; rw [hp]; rfl
    | cons x rest ih =>
      intro pre hp
      have hlen : pre.length + 1 ≤ l.length := by rw [← hp]; simp
      rw [hF, more_at hp, getI_at hp, next_at hp (by rw [maxLen_eq]; omega)]
      simp only [if_true, some_bnd, hg x (by rw [← hp]; simp), room_ok (show pre.length + 1 ≤ 4000000 by omega) hb hb2]
      exact ih (pre ++ [x]) (step_at hp)
  exact key l [] rfl
end TT
