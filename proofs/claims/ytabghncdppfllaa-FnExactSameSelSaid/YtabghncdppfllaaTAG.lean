import Derived.Test.YtabghncdppfllaaTKK
import Derived.Test.YtabghncdppfllaaTD26
import Derived.Test.YtabghncdppfllaaTG2
import Derived.Test.YtabghncdppfllaaProg
import Derived.KernelRfl
namespace TT
open Go Go.Proofs
set_option maxRecDepth 100000
theorem ag_laws_FnExactSameSel : agF Try.prog 5 k_laws_FnExactSameSel = true := by kernel_rfl
theorem ag_laws_szSel : agF Try.prog 21 k_laws_szSel = true := by kernel_rfl
theorem ag_spec_SameSel : agF Try.prog 22 k_spec_SameSel = true := by kernel_rfl
theorem ag_laws_toSel : agF Try.prog 23 k_laws_toSel = true := by kernel_rfl
theorem ag_impl_SameSel : agF Try.prog 24 k_impl_SameSel = true := by kernel_rfl
theorem ag_laws_eqSel : agF Try.prog 25 k_laws_eqSel = true := by kernel_rfl
theorem ag_laws_szStepS : agF Try.prog 61 k_laws_szStepS = true := by kernel_rfl
theorem ag_laws_toStepS : agF Try.prog 62 k_laws_toStepS = true := by kernel_rfl
theorem ag_slices_EqualFunc_Step : agF Try.prog 63 k_slices_EqualFunc_Step = true := by kernel_rfl
theorem ag_impl_SameSel_1 : agF Try.prog 64 k_impl_SameSel_1 = true := by kernel_rfl
theorem ag_slices_Equal_Pred : agF Try.prog 65 k_slices_Equal_Pred = true := by kernel_rfl
theorem ag_laws_eqStepS : agF Try.prog 66 k_laws_eqStepS = true := by kernel_rfl
theorem ag_laws_szStep : agF Try.prog 95 k_laws_szStep = true := by kernel_rfl
theorem ag_laws_toStep : agF Try.prog 96 k_laws_toStep = true := by kernel_rfl
theorem ag_laws_eqStep : agF Try.prog 97 k_laws_eqStep = true := by kernel_rfl
theorem ag_laws_szPredS : agF Try.prog 110 k_laws_szPredS = true := by kernel_rfl
theorem ag_laws_toPredS : agF Try.prog 111 k_laws_toPredS = true := by kernel_rfl
theorem ag_laws_eqPredS : agF Try.prog 112 k_laws_eqPredS = true := by kernel_rfl
theorem ag_laws_szPred : agF Try.prog 115 k_laws_szPred = true := by kernel_rfl
theorem ag_laws_toPred : agF Try.prog 116 k_laws_toPred = true := by kernel_rfl
theorem ag_laws_eqPred : agF Try.prog 117 k_laws_eqPred = true := by kernel_rfl
theorem FTT_ag (f : FuncId) (fn : F) (h : FTT f = some fn) : agF Try.prog f fn = true := by
  unfold FTT at h
  split at h <;> cases h
  · exact ag_laws_FnExactSameSel
  · exact ag_laws_szSel
  · exact ag_spec_SameSel
  · exact ag_laws_toSel
  · exact ag_impl_SameSel
  · exact ag_laws_eqSel
  · exact ag_laws_szStepS
  · exact ag_laws_toStepS
  · exact ag_slices_EqualFunc_Step
  · exact ag_impl_SameSel_1
  · exact ag_slices_Equal_Pred
  · exact ag_laws_eqStepS
  · exact ag_laws_szStep
  · exact ag_laws_toStep
  · exact ag_laws_eqStep
  · exact ag_laws_szPredS
  · exact ag_laws_toPredS
  · exact ag_laws_eqPredS
  · exact ag_laws_szPred
  · exact ag_laws_toPred
  · exact ag_laws_eqPred
theorem sound0 : Sound Try.prog (den FTT (cloneX [])) := den_sound (fun f args res h => by cases h) (by kernel_rfl) FTT_ag
theorem soundA : Sound Try.prog (dn FTA) := sound0
end TT
