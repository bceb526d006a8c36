import Derived.Test.YtdpdfjkjlkmjaaaTP0
set_option linter.unusedVariables false
namespace TT
open Go
section
variable {α β ρ σ : Type}

/-- Two loops over the same list keep step. -/
theorem two_loops (F G : β → Int → Option ρ) (l : List α) (f g : β → α → Option β) (kF kG : β → Option ρ)
    (hF : ∀ acc i, F acc i = if ltI i (lenL l) then getI l i >>= fun x => f acc x >>= fun acc' => F acc' (addI i 1) else kF acc)
    (hG : ∀ acc i, G acc i = if ltI i (lenL l) then getI l i >>= fun x => g acc x >>= fun acc' => G acc' (addI i 1) else kG acc)
    (hl : l.length ≤ maxLen) (I : β → List α → Prop) (hI : ∀ acc x rest, x ∈ l → I acc (x :: rest) → ∃ r, f acc x = some r ∧ g acc x = some r ∧ I r rest) :
    ∀ rest pre acc, pre ++ rest = l → I acc rest → ∃ r, F acc pre.length = kF r ∧ G acc pre.length = kG r ∧ I r [] := by
  intro rest
  induction rest with
  | nil => intro pre acc hp h; exact ⟨acc, by rw [hF, end_at hp]; rfl, by rw [hG, end_at hp]; rfl, h⟩
  | cons x rest ih =>
    intro pre acc hp h
    obtain ⟨r, h1, h2, h3⟩ := hI acc x rest (by rw [← hp]; simp) h
    obtain ⟨q, h4, h5, h6⟩ := ih (pre ++ [x]) r (step_at hp) h3
    rw [← next_at hp hl] at h4 h5
    refine ⟨q, ?_, ?_, h6⟩
    · rw [hF, more_at hp, getI_at hp, ← h4]
      show (f acc x >>= fun acc' => F acc' (addI (pre.length : Int) 1)) = _
      rw [h1]; rfl
    · rw [hG, more_at hp, getI_at hp, ← h5]
      show (g acc x >>= fun acc' => G acc' (addI (pre.length : Int) 1)) = _
      rw [h2]; rfl

/-- Two lists, element by element. -/
def all2 (p : α → β → Bool) : List α → List β → Bool
  | [], [] => true
  | x :: xs, y :: ys => p x y && all2 p xs ys
  | _, _ => false
theorem all2_loop (F : Int → Option ρ) (a : List α) (b : List β) (e : α → β → Option Bool) (p : α → β → Bool) (kT kE : Option ρ)
    (hF : ∀ i, F i = if ltI i (lenL a) then getI a i >>= fun x => getI b i >>= fun y => e x y >>= fun r => if r then F (addI i 1) else kE else kT)
    (hl : a.length ≤ maxLen) (he : ∀ x ∈ a, ∀ y ∈ b, e x y = some (p x y)) :
    ∀ rest rest' pre pre', pre ++ rest = a → pre' ++ rest' = b → pre.length = pre'.length → rest.length = rest'.length → F pre.length = if all2 p rest rest' then kT else kE := by
  intro rest
  induction rest with
  | nil =>
    intro rest' pre pre' hp hp' h1 h2
    cases rest' with
    | nil => rw [hF, end_at hp]; rfl
    | cons y ys => simp at h2
  | cons x rest ih =>
    intro rest' pre pre' hp hp' h1 h2
    cases rest' with
    | nil => simp at h2
    | cons y ys =>
      have h3 : getI b (pre.length : Int) = some y := by rw [h1]; exact getI_at hp'
      rw [hF, more_at hp, getI_at hp]
      show (getI b (pre.length : Int) >>= fun y => e x y >>= fun r => if r then F (addI (pre.length : Int) 1) else kE) = _
      rw [h3]
      show (e x y >>= fun r => if r then F (addI (pre.length : Int) 1) else kE) = _
      rw [he x (by rw [← hp]; simp) y (by rw [← hp']; simp), next_at hp hl]
      show (if p x y then F _ else kE) = _
      have := ih ys (pre ++ [x]) (pre' ++ [y]) (step_at hp) (step_at hp') (by simp [h1]) (by simpa using h2)
      rw [this]
      simp only [all2]
      by_cases hq : p x y = true
      · simp [hq]
      · simp [hq]
theorem all2_same (F : Int → Option ρ) (a : List α) (b : List β) (e : α → β → Option Bool) (p : α → β → Bool) (kT kE : Option ρ)
    (hF : ∀ i, F i = if ltI i (lenL a) then getI a i >>= fun x => getI b i >>= fun y => e x y >>= fun r => if r then F (addI i 1) else kE else kT)
    (hl : a.length ≤ maxLen) (hab : a.length = b.length) (he : ∀ x ∈ a, ∀ y ∈ b, e x y = some (p x y)) : F 0 = if all2 p a b then kT else kE :=
  all2_loop F a b e p kT kE hF hl he a b [] [] rfl rfl rfl hab
theorem neI_len {a : List α} {b : List β} (h : a.length ≠ b.length) : neI (lenL a) (lenL b) = true := by
  simp only [neI, lenL, bne_iff_ne, ne_eq]; omega
theorem neI_len' {a : List α} {b : List β} (h : a.length = b.length) : neI (lenL a) (lenL b) = false := by
  simp only [neI, lenL, bne_eq_false_iff_eq]; omega
theorem none_bnd {α β : Type} (f : α → Option β) : ((none : Option α) >>= f) = none := rfl
end
end TT
