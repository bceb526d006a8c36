import Derived.Test.YtknfhlnfombmgaaDoorTKK
import Derived.Test.YtknfhlnfombmgaaDoorTD26
import Derived.Test.YtknfhlnfombmgaaDoorTG2
import Derived.Test.YtknfhlnfombmgaaDoorProg
import Derived.KernelRfl
import Derived.Test.YtknfhlnfombmgaaDoorTFnExactSelTextLib
import Derived.Test.YtknfhlnfombmgaaDoorTHX
namespace TT
open Go Go.Proofs
set_option maxRecDepth 100000
set_option linter.unusedSimpArgs false
set_option linter.unusedVariables false
theorem ag_laws_FnExactSelText : agF Tryd.prog 3 k_laws_FnExactSelText = true := by kernel_rfl
theorem ag_laws_szSel : agF Tryd.prog 4 k_laws_szSel = true := by kernel_rfl
theorem ag_spec_SelText : agF Tryd.prog 5 k_spec_SelText = true := by kernel_rfl
theorem ag_laws_toSel : agF Tryd.prog 6 k_laws_toSel = true := by kernel_rfl
theorem ag_impl_SelText : agF Tryd.prog 7 k_impl_SelText = true := by kernel_rfl
theorem ag_laws_eqSel : agF Tryd.prog 8 k_laws_eqSel = true := by kernel_rfl
theorem ag_laws_szStepS : agF Tryd.prog 9 k_laws_szStepS = true := by kernel_rfl
theorem ag_spec_SelOk : agF Tryd.prog 10 k_spec_SelOk = true := by kernel_rfl
theorem ag_spec_l11Quote : agF Tryd.prog 11 k_spec_l11Quote = true := by kernel_rfl
theorem ag_spec_l11Step : agF Tryd.prog 12 k_spec_l11Step = true := by kernel_rfl
theorem ag_laws_toStepS : agF Tryd.prog 13 k_laws_toStepS = true := by kernel_rfl
theorem ag_impl_SelOk : agF Tryd.prog 14 k_impl_SelOk = true := by kernel_rfl
theorem ag_impl_quotedVal : agF Tryd.prog 15 k_impl_quotedVal = true := by kernel_rfl
theorem ag_impl_stepText : agF Tryd.prog 16 k_impl_stepText = true := by kernel_rfl
theorem ag_impl_predText : agF Tryd.prog 17 k_impl_predText = true := by kernel_rfl
theorem ag_laws_eqStepS : agF Tryd.prog 18 k_laws_eqStepS = true := by kernel_rfl
theorem ag_laws_szStep : agF Tryd.prog 19 k_laws_szStep = true := by kernel_rfl
theorem ag_spec_l11StepOk : agF Tryd.prog 20 k_spec_l11StepOk = true := by kernel_rfl
theorem ag_spec_l11Val : agF Tryd.prog 21 k_spec_l11Val = true := by kernel_rfl
theorem ag_spec_l5Has : agF Tryd.prog 22 k_spec_l5Has = true := by kernel_rfl
theorem ag_spec_JoinName : agF Tryd.prog 23 k_spec_JoinName = true := by kernel_rfl
theorem ag_spec_l11Pred : agF Tryd.prog 24 k_spec_l11Pred = true := by kernel_rfl
theorem ag_laws_toStep : agF Tryd.prog 25 k_laws_toStep = true := by kernel_rfl
theorem ag_impl_stepOk : agF Tryd.prog 26 k_impl_stepOk = true := by kernel_rfl
theorem ag_impl_valOk : agF Tryd.prog 27 k_impl_valOk = true := by kernel_rfl
theorem ag_impl_JoinName : agF Tryd.prog 29 k_impl_JoinName = true := by kernel_rfl
theorem ag_laws_eqStep : agF Tryd.prog 31 k_laws_eqStep = true := by kernel_rfl
theorem ag_laws_szPredS : agF Tryd.prog 32 k_laws_szPredS = true := by kernel_rfl
theorem ag_spec_l11PredOk : agF Tryd.prog 33 k_spec_l11PredOk = true := by kernel_rfl
theorem ag_spec_PlainOk : agF Tryd.prog 34 k_spec_PlainOk = true := by kernel_rfl
theorem ag_spec_TextOk : agF Tryd.prog 35 k_spec_TextOk = true := by kernel_rfl
theorem ag_spec_SplitName : agF Tryd.prog 36 k_spec_SplitName = true := by kernel_rfl
theorem ag_spec_l11Num : agF Tryd.prog 37 k_spec_l11Num = true := by kernel_rfl
theorem ag_laws_toPredS : agF Tryd.prog 38 k_laws_toPredS = true := by kernel_rfl
theorem ag_slices_ContainsFunc_Pred : agF Tryd.prog 39 k_slices_ContainsFunc_Pred = true := by kernel_rfl
theorem ag_impl_stepOk_1 : agF Tryd.prog 40 k_impl_stepOk_1 = true := by kernel_rfl
theorem ag_impl_predOk : agF Tryd.prog 41 k_impl_predOk = true := by kernel_rfl
theorem ag_impl_nameOk : agF Tryd.prog 42 k_impl_nameOk = true := by kernel_rfl
theorem ag_impl_PlainOk : agF Tryd.prog 43 k_impl_PlainOk = true := by kernel_rfl
theorem ag_impl_TextOk : agF Tryd.prog 44 k_impl_TextOk = true := by kernel_rfl
theorem ag_impl_SplitName : agF Tryd.prog 46 k_impl_SplitName = true := by kernel_rfl
theorem ag_laws_eqPredS : agF Tryd.prog 48 k_laws_eqPredS = true := by kernel_rfl
theorem ag_laws_szPred : agF Tryd.prog 49 k_laws_szPred = true := by kernel_rfl
theorem ag_spec_l1In : agF Tryd.prog 50 k_spec_l1In = true := by kernel_rfl
theorem ag_spec_SignAt : agF Tryd.prog 51 k_spec_SignAt = true := by kernel_rfl
theorem ag_spec_IsStart : agF Tryd.prog 52 k_spec_IsStart = true := by kernel_rfl
theorem ag_spec_IsPart : agF Tryd.prog 53 k_spec_IsPart = true := by kernel_rfl
theorem ag_spec_l1Signs : agF Tryd.prog 54 k_spec_l1Signs = true := by kernel_rfl
theorem ag_laws_toPred : agF Tryd.prog 55 k_laws_toPred = true := by kernel_rfl
theorem ag_slices_IndexFunc_Pred : agF Tryd.prog 56 k_slices_IndexFunc_Pred = true := by kernel_rfl
theorem ag_impl_in : agF Tryd.prog 57 k_impl_in = true := by kernel_rfl
theorem ag_impl_SignAt : agF Tryd.prog 58 k_impl_SignAt = true := by kernel_rfl
theorem ag_impl_IsStart : agF Tryd.prog 59 k_impl_IsStart = true := by kernel_rfl
theorem ag_impl_IsPart : agF Tryd.prog 60 k_impl_IsPart = true := by kernel_rfl
theorem ag_impl_signsOk : agF Tryd.prog 61 k_impl_signsOk = true := by kernel_rfl
theorem ag_laws_eqPred : agF Tryd.prog 65 k_laws_eqPred = true := by kernel_rfl
theorem ag_spec_l1Ranges : agF Tryd.prog 66 k_spec_l1Ranges = true := by kernel_rfl
theorem ag_spec_IsSign : agF Tryd.prog 67 k_spec_IsSign = true := by kernel_rfl
theorem ag_impl_inAny : agF Tryd.prog 69 k_impl_inAny = true := by kernel_rfl
theorem ag_impl_IsSign : agF Tryd.prog 70 k_impl_IsSign = true := by kernel_rfl
theorem ag_slices_ContainsFunc_A2int : agF Tryd.prog 81 k_slices_ContainsFunc_A2int = true := by kernel_rfl
theorem ag_impl_inAny_1 : agF Tryd.prog 82 k_impl_inAny_1 = true := by kernel_rfl
theorem ag_slices_IndexFunc_A2int : agF Tryd.prog 90 k_slices_IndexFunc_A2int = true := by kernel_rfl
theorem FTT_ag (f : FuncId) (fn : F) (h : FTT f = some fn) : agF Tryd.prog f fn = true := by
  unfold FTT at h
  split at h <;> cases h
  · exact ag_laws_FnExactSelText
  · exact ag_laws_szSel
  · exact ag_spec_SelText
  · exact ag_laws_toSel
  · exact ag_impl_SelText
  · exact ag_laws_eqSel
  · exact ag_laws_szStepS
  · exact ag_spec_SelOk
  · exact ag_spec_l11Quote
  · exact ag_spec_l11Step
  · exact ag_laws_toStepS
  · exact ag_impl_SelOk
  · exact ag_impl_quotedVal
  · exact ag_impl_stepText
  · exact ag_impl_predText
  · exact ag_laws_eqStepS
  · exact ag_laws_szStep
  · exact ag_spec_l11StepOk
  · exact ag_spec_l11Val
  · exact ag_spec_l5Has
  · exact ag_spec_JoinName
  · exact ag_spec_l11Pred
  · exact ag_laws_toStep
  · exact ag_impl_stepOk
  · exact ag_impl_valOk
  · exact ag_impl_JoinName
  · exact ag_laws_eqStep
  · exact ag_laws_szPredS
  · exact ag_spec_l11PredOk
  · exact ag_spec_PlainOk
  · exact ag_spec_TextOk
  · exact ag_spec_SplitName
  · exact ag_spec_l11Num
  · exact ag_laws_toPredS
  · exact ag_slices_ContainsFunc_Pred
  · exact ag_impl_stepOk_1
  · exact ag_impl_predOk
  · exact ag_impl_nameOk
  · exact ag_impl_PlainOk
  · exact ag_impl_TextOk
  · exact ag_impl_SplitName
  · exact ag_laws_eqPredS
  · exact ag_laws_szPred
  · exact ag_spec_l1In
  · exact ag_spec_SignAt
  · exact ag_spec_IsStart
  · exact ag_spec_IsPart
  · exact ag_spec_l1Signs
  · exact ag_laws_toPred
  · exact ag_slices_IndexFunc_Pred
  · exact ag_impl_in
  · exact ag_impl_SignAt
  · exact ag_impl_IsStart
  · exact ag_impl_IsPart
  · exact ag_impl_signsOk
  · exact ag_laws_eqPred
  · exact ag_spec_l1Ranges
  · exact ag_spec_IsSign
  · exact ag_impl_inAny
  · exact ag_impl_IsSign
  · exact ag_slices_ContainsFunc_A2int
  · exact ag_impl_inAny_1
  · exact ag_slices_IndexFunc_A2int
theorem sound0 : Sound GG Tryd.prog (dn ⟨FTT, [], []⟩) := den_sound xOf0_sound (by kernel_rfl) FTT_ag
theorem soundA : Sound GG Tryd.prog (dn FTA) := den_sound (xOf_sound (fun f args res h => by simp [FTA, cloneX] at h) soundL) (by kernel_rfl) FTT_ag
end TT
