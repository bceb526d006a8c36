/- The program's CodeName and the reference's CodeName give the same text at every whole number. No condition. -/
import Derived.Test.YtabghncdppfllaaPFnExactCodeNamex1
namespace Go.Proofs.Ytabghncdppfllaa.Pure
open Go.RowKit Go.Proofs.Ytabghncdppfllaa.PFnExactCodeName Go.Proofs.YtabghncdppfllaaW.PrintWords Go.Proofs.YtabghncdppfllaaW.PrintLast

theorem FnExactCodeName : laws_FnExactCodeName.Pure := by
  intro a0 _
  have e : spec_CodeName.f a0 = impl_CodeName.f a0 := by
    unfold spec_CodeName.f impl_CodeName.f spec_l1In.f impl_in.f
    by_cases h0 : a0 ≥ 0
    · by_cases h8 : a0 ≤ 8
      · simp [h0, h8]
      · simp [h0, h8]
    · simp [h0]
  have s : ∃ t, spec_CodeName.f a0 = some t := by
    unfold spec_CodeName.f spec_l1In.f
    by_cases h0 : a0 ≥ 0
    · by_cases h8 : a0 ≤ 8
      · have h9 : a0 < 9 := by omega
        have h0' : 0 ≤ a0 := h0
        simp [h0', h8, h9]
      · simp [h0, h8]
    · simp [h0]
  obtain ⟨t, ht⟩ := s
  unfold laws_FnExactCodeName.f
  rw [← e, ht]
  simp

end Go.Proofs.Ytabghncdppfllaa.Pure
