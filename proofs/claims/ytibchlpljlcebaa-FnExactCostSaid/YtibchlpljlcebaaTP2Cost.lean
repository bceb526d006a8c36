import Derived.Test.YtibchlpljlcebaaTP00
import Derived.Test.YtibchlpljlcebaaTP1
set_option linter.unusedVariables false
set_option linter.unusedSimpArgs false
namespace TT
open Go

theorem bnd_assoc {α β γ : Type} (o : Option α) (f : α → Option β) (g : β → Option γ) : ((o >>= f) >>= g) = (o >>= fun x => f x >>= g) := by cases o <;> rfl
theorem fold_loop {α β ρ : Type} (F : β → Int → Option ρ) (l : List α) (f : β → α → Option β) (g : β → α → β) (kF : β → Option ρ)
    (hF : ∀ acc i, F acc i = if ltI i (lenL l) then getI l i >>= fun x => f acc x >>= fun acc' => F acc' (addI i 1) else kF acc)
    (hl : l.length ≤ maxLen) (hg : ∀ acc x, x ∈ l → f acc x = some (g acc x)) (acc : β) : F acc 0 = kF (l.foldl g acc) := by
  have key : ∀ rest pre acc, pre ++ rest = l → F acc pre.length = kF (rest.foldl g acc) := by
    intro rest
    induction rest with
    | nil => intro pre acc hp; rw [hF, end_at hp]; rfl
    | cons x rest ih =>
      intro pre acc hp
      rw [hF, more_at hp, getI_at hp]
      show (f acc x >>= fun acc' => F acc' (addI (pre.length : Int) 1)) = _
      rw [hg acc x (by rw [← hp]; simp), next_at hp hl]
      exact ih _ _ (step_at hp)
  exact key l [] acc rfl
theorem getI_mem {α : Type} {l : List α} {i : Int} {x : α} (h : getI l i = some x) : x ∈ l := by
  unfold getI at h; split at h
  · exact List.mem_of_getElem? h
  · simp at h
theorem addI_wrap (a b : Int) : addI (IntKind.i64.wrap a) b = addI a b := by simp only [addI, IntKind.wrap_i64]; omega
theorem addI_assoc (a b c : Int) : addI (addI a b) c = addI a (b + c) := by simp only [addI, IntKind.wrap_i64]; omega
theorem addI_right (a b c : Int) : addI (addI a b) c = addI (addI a c) b := by simp only [addI, IntKind.wrap_i64]; omega

/-! ### How many nodes -/
def cnt (x : GNode) : Int := (spec_CountOf x).getD 0
def sumK (acc : Int) (l : List GNode) : Int := l.foldl (fun a x => addI a (cnt x)) acc
theorem count_ex : ∀ x : GNode, x.ok → ∃ r, spec_CountOf x = some r ∧ impl_CountOf x = some r := by
  refine GNode.ind' fun x ih hx => ?_
  obtain ⟨_, _, _, _, _, _, hk, _⟩ := (GNode.ok_iff x).1 hx
  have hc : ∀ y ∈ x.Kids, spec_CountOf y = some (cnt y) ∧ impl_CountOf y = some (cnt y) := by
    intro y hy
    obtain ⟨r, h1, h2⟩ := ih y hy (hk.2 y hy)
    rw [cnt, h1, h2]; exact ⟨rfl, rfl⟩
  have h1 := fold_loop (fun k i => spec_CountOf_l8 k i x) x.Kids (fun k y => spec_CountOf y >>= fun r => some (addI k r)) (fun a y => addI a (cnt y)) some
    (fun acc i => by rw [spec_CountOf_l8]; simp only [bnd_assoc, some_bnd]) hk.1 (fun acc y hy => by rw [(hc y hy).1]; rfl) (addI 1 (lenL x.Attrs))
  have h2 := fold_loop (fun k i => impl_CountOf_l8 k x i) x.Kids (fun k y => impl_CountOf y >>= fun r => some (addI k r)) (fun a y => addI a (cnt y)) some
    (fun acc i => by rw [impl_CountOf_l8]; simp only [bnd_assoc, some_bnd]) hk.1 (fun acc y hy => by rw [(hc y hy).2]; rfl) (addI 1 (lenL x.Attrs))
  rw [spec_CountOf, impl_CountOf]
  exact ⟨_, h1, h2⟩
theorem spec_count (y : GNode) (h : y.ok) : spec_CountOf y = some (cnt y) := by obtain ⟨r, h1, h2⟩ := count_ex y h; rw [cnt, h1]; rfl
theorem impl_count (y : GNode) (h : y.ok) : impl_CountOf y = some (cnt y) := by obtain ⟨r, h1, h2⟩ := count_ex y h; rw [cnt, h1, h2]; rfl

theorem sumK_add (l : List GNode) : ∀ a m, sumK (addI a m) l = addI (sumK a l) m := by
  induction l with
  | nil => intro a m; rfl
  | cons x l ih =>
    intro a m
    show sumK (addI (addI a m) (cnt x)) l = addI (sumK (addI a (cnt x)) l) m
    rw [addI_right, ih]
theorem sumK_fix (l : List GNode) : ∀ a, addI a 0 = a → addI (sumK a l) 0 = sumK a l := by
  intro a h
  rw [← sumK_add, h]
theorem same_Cost (a : List GOp) (la : a.length ≤ maxLen) (ha : ∀ y ∈ a, GOp.ok y) (sa : a.length + szs GOp.sz a ≤ 1048576) : ∃ r, spec_Cost a = some r ∧ impl_Cost a = some r := by
  have kids : ∀ x ∈ a, x.Kids.length ≤ maxLen ∧ ∀ y ∈ x.Kids, GNode.ok y := fun x hx => by
    obtain ⟨_, _, _, _, _, _, _, hk, _⟩ := (GOp.ok_iff x).1 (ha x hx)
    exact hk
  have sp : ∀ acc i, spec_Cost_l8 a acc i = if ltI i (lenL a) then getI a i >>= fun x => some (sumK (addI acc 1) x.Kids) >>= fun acc' => spec_Cost_l8 a acc' (addI i 1) else some acc := by
    intro acc i
    rw [spec_Cost_l8]
    split
    · cases hx : getI a i with
      | none => rw [spec_Cost_l22, hx]; rfl
      | some x =>
        have hk := kids x (getI_mem hx)
        exact fold_loop (fun n k => spec_Cost_l22 a n i k) x.Kids (fun k y => spec_CountOf y >>= fun r => some (addI k r)) (fun a y => addI a (cnt y)) (fun n => spec_Cost_l8 a n (addI i 1))
          (fun acc k => by rw [spec_Cost_l22, hx]; simp only [bnd_assoc, some_bnd]) hk.1 (fun acc y hy => by rw [spec_count y (hk.2 y hy)]; rfl) (addI acc 1)
    · rfl
  have im : ∀ acc i, impl_Cost_l8 acc a i = if ltI i (lenL a) then getI a i >>= fun x => some (sumK acc x.Kids) >>= fun acc' => impl_Cost_l8 acc' a (addI i 1) else some acc := by
    intro acc i
    rw [impl_Cost_l8]
    split
    · cases hx : getI a i with
      | none => rfl
      | some x =>
        have hk := kids x (getI_mem hx)
        exact fold_loop (fun n k => impl_Cost_l22 n a i x k) x.Kids (fun k y => impl_CountOf y >>= fun r => some (addI k r)) (fun a y => addI a (cnt y)) (fun n => impl_Cost_l8 n a (addI i 1))
          (fun acc k => by rw [impl_Cost_l22]; simp only [bnd_assoc, some_bnd]) hk.1 (fun acc y hy => by rw [impl_count y (hk.2 y hy)]; rfl) acc
    · rfl
  obtain ⟨r, h1, h2, h3⟩ := two_loops (fun (p : Int × Int) i => spec_Cost_l8 a p.1 i) (fun p i => impl_Cost_l8 p.2 a i) a
    (fun p x => some (sumK (addI p.1 1) x.Kids, sumK p.2 x.Kids)) (fun p x => some (sumK (addI p.1 1) x.Kids, sumK p.2 x.Kids)) (fun p => some p.1) (fun p => some p.2)
    (fun p i => by rw [sp]; rfl) (fun p i => by rw [im]; rfl) la (fun p rest => p.2 = addI p.1 rest.length ∧ addI p.1 0 = p.1)
    (fun p x rest hx ⟨e1, e2⟩ => ⟨_, rfl, rfl, by
      refine ⟨?_, ?_⟩
      · show sumK p.2 x.Kids = addI (sumK (addI p.1 1) x.Kids) rest.length
        rw [e1, ← sumK_add, addI_assoc]
        simp only [List.length_cons]
        congr 2; omega
      · exact sumK_fix _ _ (by rw [addI_assoc]; rfl)⟩)
    a [] (0, lenL a) rfl ⟨by rw [maxLen_eq] at la; rw [addI_eq (by omega) (by omega)]; simp [lenL], rfl⟩
  refine ⟨r.1, h1, ?_⟩
  have e : r.2 = r.1 := by rw [h3.1]; exact h3.2
  rw [← e]
  exact h2
end TT
