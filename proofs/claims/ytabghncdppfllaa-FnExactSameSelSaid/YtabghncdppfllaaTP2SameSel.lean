import Derived.Test.YtabghncdppfllaaTP00
import Derived.Test.YtabghncdppfllaaTP1
set_option linter.unusedVariables false
set_option linter.unusedSimpArgs false
namespace TT
open Go

/-! ### SameSel -/
def predEq (x y : GPred) : Bool := eqI x.Kind y.Kind && (eqI x.N y.N && (eqS x.Pre y.Pre && (eqS x.Local y.Local && eqS x.Val y.Val)))
def stepEq (x y : GStp) : Bool := eqB x.Deep y.Deep && (eqI x.Kind y.Kind && (eqS x.Pre y.Pre && (eqS x.Local y.Local && (decide (x.Preds.length = y.Preds.length) && all2 predEq x.Preds y.Preds))))
theorem slices_Equal_Pred_eq (a b : List GPred) (hl : a.length ≤ maxLen) : slices_Equal_Pred a b = some (decide (a.length = b.length) && all2 predEq a b) := by
  rw [slices_Equal_Pred]
  by_cases h : a.length = b.length
  · rw [neI_len' h]
    have h1 := all2_same (fun i => slices_Equal_Pred_l14 a b i) a b (fun x y => some (predEq x y)) predEq (some true) (some false) (fun i => by rw [slices_Equal_Pred_l14]; rfl) hl h (fun _ _ _ _ => rfl)
    simp only [Bool.false_eq_true, if_false]
    rw [h1]
    simp only [h, decide_true, Bool.true_and]
    cases all2 predEq a b <;> rfl
  · rw [neI_len h]; simp [h]
theorem impl_SameSel_1_eq (x y : GStp) (hl : x.Preds.length ≤ maxLen) : impl_SameSel_1 x y = some (stepEq x y) := by
  rw [impl_SameSel_1, slices_Equal_Pred_eq _ _ hl]
  unfold stepEq
  cases eqB x.Deep y.Deep <;> cases eqI x.Kind y.Kind <;> cases eqS x.Pre y.Pre <;> cases eqS x.Local y.Local <;> simp
theorem same_SameSel (a b : GSel) (ha : a.ok) (hb : b.ok) (_ : a.sz ≤ 1048576) (_ : b.sz ≤ 1048576) : ∃ r, spec_SameSel a b = some r ∧ impl_SameSel a b = some r := by
  obtain ⟨_, hst, hst2⟩ := (GSel.ok_iff a).1 ha
  have hpl : ∀ x ∈ a.Steps, x.Preds.length ≤ maxLen := fun x hx => by have := (GStp.ok_iff x).1 (hst2 x hx); exact this.2.2.2.1
  rw [spec_SameSel, impl_SameSel, slices_EqualFunc_Step_SameSel_1, neS_eq]
  cases eqS a.Id b.Id with
  | false => exact ⟨_, rfl, rfl⟩
  | true =>
    simp only [Bool.not_true, Bool.false_eq_true, if_false, if_true]
    by_cases hl : a.Steps.length = b.Steps.length
    · rw [neI_len' hl]
      have hin : ∀ i x y, x ∈ a.Steps → x.Preds.length = y.Preds.length → spec_SameSel_l38 i 0 a b x y = if all2 predEq x.Preds y.Preds then spec_SameSel_l14 (addI i 1) a b else some false := fun i x y hx hxy =>
        all2_same (fun k => spec_SameSel_l38 i k a b x y) x.Preds y.Preds (fun x y => some (predEq x y)) predEq _ (some false) (fun k => by rw [spec_SameSel_l38]; rfl) (hpl x hx) hxy (fun _ _ _ _ => rfl)
      have h2 := all2_same (fun i => slices_EqualFunc_Step_SameSel_1_l14 b.Steps a.Steps i) a.Steps b.Steps impl_SameSel_1 stepEq (some true) (some false) (fun i => by rw [slices_EqualFunc_Step_SameSel_1_l14]) hst hl (fun x hx y _ => impl_SameSel_1_eq x y (hpl x hx))
      have h1 : ∀ rest rest' pre pre', pre ++ rest = a.Steps → pre' ++ rest' = b.Steps → pre.length = pre'.length → rest.length = rest'.length → spec_SameSel_l14 pre.length a b = if all2 stepEq rest rest' then some true else some false := by
        intro rest
        induction rest with
        | nil =>
          intro rest' pre pre' hp hp' e1 e2
          cases rest' with
          | nil => rw [spec_SameSel_l14, end_at hp]; rfl
          | cons y ys => simp at e2
        | cons x rest ih =>
          intro rest' pre pre' hp hp' e1 e2
          cases rest' with
          | nil => simp at e2
          | cons y ys =>
            have h3 : getI b.Steps (pre.length : Int) = some y := by rw [e1]; exact getI_at hp'
            rw [spec_SameSel_l14, more_at hp, getI_at hp, h3]
            simp only [some_bnd, if_true, neB_eq, neI_eq, neS_eq]
            have hx : x ∈ a.Steps := by rw [← hp]; simp
            have i1 := ih ys (pre ++ [x]) (pre' ++ [y]) (step_at hp) (step_at hp') (by simp [e1]) (by simpa using e2)
            rw [← next_at hp hst] at i1
            have hll : eqI (lenL x.Preds) (lenL y.Preds) = decide (x.Preds.length = y.Preds.length) := by
              by_cases h : x.Preds.length = y.Preds.length
              · simp [h, eqI, lenL]
              · have : ¬ ((x.Preds.length : Int) = y.Preds.length) := by omega
                simp [h, eqI, lenL, this]
            simp only [hll]
            by_cases hq : x.Preds.length = y.Preds.length
            · rw [hin _ x y hx hq, i1]
              simp only [all2, stepEq, hq, decide_true, Bool.true_and]
              cases eqB x.Deep y.Deep <;> cases eqI x.Kind y.Kind <;> cases eqS x.Pre y.Pre <;> cases eqS x.Local y.Local <;> cases all2 predEq x.Preds y.Preds <;> simp
            · simp only [all2, stepEq, hq, decide_false, Bool.false_and, Bool.and_false]
              cases eqB x.Deep y.Deep <;> cases eqI x.Kind y.Kind <;> cases eqS x.Pre y.Pre <;> cases eqS x.Local y.Local <;> simp
      have h1' := h1 a.Steps b.Steps [] [] rfl rfl rfl hl
      simp only [List.length_nil] at h1'
      simp only [Bool.false_eq_true, if_false]
      rw [h2]
      show ∃ r, spec_SameSel_l14 ((0 : Nat) : Int) a b = some r ∧ _
      rw [h1']
      cases all2 stepEq a.Steps b.Steps <;> exact ⟨_, rfl, rfl⟩
    · rw [neI_len hl]; exact ⟨_, rfl, rfl⟩
end TT
