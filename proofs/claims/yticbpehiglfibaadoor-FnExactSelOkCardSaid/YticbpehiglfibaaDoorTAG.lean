import Derived.Test.YticbpehiglfibaaDoorTKK
import Derived.Test.YticbpehiglfibaaDoorTD26
import Derived.Test.YticbpehiglfibaaDoorTG2
import Derived.Test.YticbpehiglfibaaDoorProg
import Derived.KernelRfl
import Derived.Test.YticbpehiglfibaaDoorTFnExactSelOkLib
namespace TT
open Go Go.Proofs
set_option maxRecDepth 100000
theorem ag_laws_FnExactSelOk : agF Tryd.prog 4 k_laws_FnExactSelOk = true := by kernel_rfl
theorem ag_impl_IsPart : agF Tryd.prog 11 k_impl_IsPart = true := by kernel_rfl
theorem ag_spec_IsPart : agF Tryd.prog 12 k_spec_IsPart = true := by kernel_rfl
theorem ag_impl_IsStart : agF Tryd.prog 13 k_impl_IsStart = true := by kernel_rfl
theorem ag_spec_IsStart : agF Tryd.prog 14 k_spec_IsStart = true := by kernel_rfl
theorem ag_impl_IsSign : agF Tryd.prog 15 k_impl_IsSign = true := by kernel_rfl
theorem ag_spec_IsSign : agF Tryd.prog 16 k_spec_IsSign = true := by kernel_rfl
theorem ag_impl_TextOk : agF Tryd.prog 18 k_impl_TextOk = true := by kernel_rfl
theorem ag_spec_TextOk : agF Tryd.prog 19 k_spec_TextOk = true := by kernel_rfl
theorem ag_laws_szSel : agF Tryd.prog 24 k_laws_szSel = true := by kernel_rfl
theorem ag_spec_SelOk : agF Tryd.prog 25 k_spec_SelOk = true := by kernel_rfl
theorem ag_laws_toSel : agF Tryd.prog 26 k_laws_toSel = true := by kernel_rfl
theorem ag_impl_SelOk : agF Tryd.prog 27 k_impl_SelOk = true := by kernel_rfl
theorem ag_laws_eqSel : agF Tryd.prog 28 k_laws_eqSel = true := by kernel_rfl
theorem ag_impl_inAny : agF Tryd.prog 36 k_impl_inAny = true := by kernel_rfl
theorem ag_spec_l1Ranges : agF Tryd.prog 37 k_spec_l1Ranges = true := by kernel_rfl
theorem ag_spec_l1In : agF Tryd.prog 38 k_spec_l1In = true := by kernel_rfl
theorem ag_impl_signsOk : agF Tryd.prog 39 k_impl_signsOk = true := by kernel_rfl
theorem ag_spec_l1Signs : agF Tryd.prog 40 k_spec_l1Signs = true := by kernel_rfl
theorem ag_laws_szStepS : agF Tryd.prog 42 k_laws_szStepS = true := by kernel_rfl
theorem ag_spec_l11StepOk : agF Tryd.prog 43 k_spec_l11StepOk = true := by kernel_rfl
theorem ag_spec_l11Val : agF Tryd.prog 44 k_spec_l11Val = true := by kernel_rfl
theorem ag_laws_toStepS : agF Tryd.prog 45 k_laws_toStepS = true := by kernel_rfl
theorem ag_impl_stepOk : agF Tryd.prog 46 k_impl_stepOk = true := by kernel_rfl
theorem ag_impl_valOk : agF Tryd.prog 47 k_impl_valOk = true := by kernel_rfl
theorem ag_laws_eqStepS : agF Tryd.prog 48 k_laws_eqStepS = true := by kernel_rfl
theorem ag_slices_ContainsFunc_A2int : agF Tryd.prog 51 k_slices_ContainsFunc_A2int = true := by kernel_rfl
theorem ag_impl_inAny_1 : agF Tryd.prog 52 k_impl_inAny_1 = true := by kernel_rfl
theorem ag_impl_in : agF Tryd.prog 53 k_impl_in = true := by kernel_rfl
theorem ag_impl_SignAt : agF Tryd.prog 54 k_impl_SignAt = true := by kernel_rfl
theorem ag_spec_SignAt : agF Tryd.prog 55 k_spec_SignAt = true := by kernel_rfl
theorem ag_laws_szStep : agF Tryd.prog 56 k_laws_szStep = true := by kernel_rfl
theorem ag_spec_l11PredOk : agF Tryd.prog 57 k_spec_l11PredOk = true := by kernel_rfl
theorem ag_spec_JoinName : agF Tryd.prog 58 k_spec_JoinName = true := by kernel_rfl
theorem ag_spec_PlainOk : agF Tryd.prog 59 k_spec_PlainOk = true := by kernel_rfl
theorem ag_spec_l5Has : agF Tryd.prog 60 k_spec_l5Has = true := by kernel_rfl
theorem ag_laws_toStep : agF Tryd.prog 61 k_laws_toStep = true := by kernel_rfl
theorem ag_slices_ContainsFunc_Pred : agF Tryd.prog 62 k_slices_ContainsFunc_Pred = true := by kernel_rfl
theorem ag_impl_stepOk_1 : agF Tryd.prog 63 k_impl_stepOk_1 = true := by kernel_rfl
theorem ag_impl_predOk : agF Tryd.prog 64 k_impl_predOk = true := by kernel_rfl
theorem ag_impl_nameOk : agF Tryd.prog 65 k_impl_nameOk = true := by kernel_rfl
theorem ag_impl_PlainOk : agF Tryd.prog 66 k_impl_PlainOk = true := by kernel_rfl
theorem ag_laws_eqStep : agF Tryd.prog 68 k_laws_eqStep = true := by kernel_rfl
theorem ag_slices_IndexFunc_A2int : agF Tryd.prog 69 k_slices_IndexFunc_A2int = true := by kernel_rfl
theorem ag_laws_szPredS : agF Tryd.prog 71 k_laws_szPredS = true := by kernel_rfl
theorem ag_spec_SplitName : agF Tryd.prog 72 k_spec_SplitName = true := by kernel_rfl
theorem ag_laws_toPredS : agF Tryd.prog 73 k_laws_toPredS = true := by kernel_rfl
theorem ag_slices_IndexFunc_Pred : agF Tryd.prog 74 k_slices_IndexFunc_Pred = true := by kernel_rfl
theorem ag_laws_eqPredS : agF Tryd.prog 76 k_laws_eqPredS = true := by kernel_rfl
theorem ag_laws_szPred : agF Tryd.prog 78 k_laws_szPred = true := by kernel_rfl
theorem ag_laws_toPred : agF Tryd.prog 79 k_laws_toPred = true := by kernel_rfl
theorem ag_laws_eqPred : agF Tryd.prog 81 k_laws_eqPred = true := by kernel_rfl
theorem FTT_ag (f : FuncId) (fn : F) (h : FTT f = some fn) : agF Tryd.prog f fn = true := by
  unfold FTT at h
  split at h <;> cases h
  · exact ag_laws_FnExactSelOk
  · exact ag_impl_IsPart
  · exact ag_spec_IsPart
  · exact ag_impl_IsStart
  · exact ag_spec_IsStart
  · exact ag_impl_IsSign
  · exact ag_spec_IsSign
  · exact ag_impl_TextOk
  · exact ag_spec_TextOk
  · exact ag_laws_szSel
  · exact ag_spec_SelOk
  · exact ag_laws_toSel
  · exact ag_impl_SelOk
  · exact ag_laws_eqSel
  · exact ag_impl_inAny
  · exact ag_spec_l1Ranges
  · exact ag_spec_l1In
  · exact ag_impl_signsOk
  · exact ag_spec_l1Signs
  · exact ag_laws_szStepS
  · exact ag_spec_l11StepOk
  · exact ag_spec_l11Val
  · exact ag_laws_toStepS
  · exact ag_impl_stepOk
  · exact ag_impl_valOk
  · exact ag_laws_eqStepS
  · exact ag_slices_ContainsFunc_A2int
  · exact ag_impl_inAny_1
  · exact ag_impl_in
  · exact ag_impl_SignAt
  · exact ag_spec_SignAt
  · exact ag_laws_szStep
  · exact ag_spec_l11PredOk
  · exact ag_spec_JoinName
  · exact ag_spec_PlainOk
  · exact ag_spec_l5Has
  · exact ag_laws_toStep
  · exact ag_slices_ContainsFunc_Pred
  · exact ag_impl_stepOk_1
  · exact ag_impl_predOk
  · exact ag_impl_nameOk
  · exact ag_impl_PlainOk
  · exact ag_laws_eqStep
  · exact ag_slices_IndexFunc_A2int
  · exact ag_laws_szPredS
  · exact ag_spec_SplitName
  · exact ag_laws_toPredS
  · exact ag_slices_IndexFunc_Pred
  · exact ag_laws_eqPredS
  · exact ag_laws_szPred
  · exact ag_laws_toPred
  · exact ag_laws_eqPred
theorem sound0 : Sound GG Tryd.prog (dn ⟨FTT, [], []⟩) := den_sound xOf0_sound (by kernel_rfl) FTT_ag
theorem soundA : Sound GG Tryd.prog (dn FTA) := den_sound (xOf_sound (fun f args res h => by simp [FTA, cloneX] at h) soundL) (by kernel_rfl) FTT_ag
end TT
