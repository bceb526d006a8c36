import Derived.Test.YtibchlpljlcebaaTKK
import Derived.Test.YtibchlpljlcebaaTD26
import Derived.Test.YtibchlpljlcebaaTG2
import Derived.Test.YtibchlpljlcebaaProg
import Derived.KernelRfl
namespace TT
open Go Go.Proofs
set_option maxRecDepth 100000
theorem ag_laws_FnExactCost : agF Try.prog 4 k_laws_FnExactCost = true := by kernel_rfl
theorem ag_laws_szOpS : agF Try.prog 14 k_laws_szOpS = true := by kernel_rfl
theorem ag_spec_Cost : agF Try.prog 15 k_spec_Cost = true := by kernel_rfl
theorem ag_laws_toOpS : agF Try.prog 16 k_laws_toOpS = true := by kernel_rfl
theorem ag_impl_Cost : agF Try.prog 17 k_impl_Cost = true := by kernel_rfl
theorem ag_laws_eqOpS : agF Try.prog 18 k_laws_eqOpS = true := by kernel_rfl
theorem ag_impl_CountOf : agF Try.prog 32 k_impl_CountOf = true := by kernel_rfl
theorem ag_laws_szNode : agF Try.prog 41 k_laws_szNode = true := by kernel_rfl
theorem ag_laws_szNodeS : agF Try.prog 42 k_laws_szNodeS = true := by kernel_rfl
theorem ag_laws_toNode : agF Try.prog 44 k_laws_toNode = true := by kernel_rfl
theorem ag_laws_toNodeS : agF Try.prog 46 k_laws_toNodeS = true := by kernel_rfl
theorem ag_laws_eqNode : agF Try.prog 48 k_laws_eqNode = true := by kernel_rfl
theorem ag_laws_eqNodeS : agF Try.prog 50 k_laws_eqNodeS = true := by kernel_rfl
theorem ag_laws_eqSel : agF Try.prog 61 k_laws_eqSel = true := by kernel_rfl
theorem ag_laws_szOp : agF Try.prog 74 k_laws_szOp = true := by kernel_rfl
theorem ag_spec_CountOf : agF Try.prog 75 k_spec_CountOf = true := by kernel_rfl
theorem ag_laws_toOp : agF Try.prog 76 k_laws_toOp = true := by kernel_rfl
theorem ag_laws_eqOp : agF Try.prog 77 k_laws_eqOp = true := by kernel_rfl
theorem ag_laws_szDeclS : agF Try.prog 94 k_laws_szDeclS = true := by kernel_rfl
theorem ag_laws_szAttrS : agF Try.prog 95 k_laws_szAttrS = true := by kernel_rfl
theorem ag_laws_toDeclS : agF Try.prog 97 k_laws_toDeclS = true := by kernel_rfl
theorem ag_laws_toAttrS : agF Try.prog 98 k_laws_toAttrS = true := by kernel_rfl
theorem ag_laws_eqDeclS : agF Try.prog 102 k_laws_eqDeclS = true := by kernel_rfl
theorem ag_laws_eqAttrS : agF Try.prog 103 k_laws_eqAttrS = true := by kernel_rfl
theorem ag_laws_eqStepS : agF Try.prog 116 k_laws_eqStepS = true := by kernel_rfl
theorem ag_laws_szSel : agF Try.prog 125 k_laws_szSel = true := by kernel_rfl
theorem ag_laws_toSel : agF Try.prog 126 k_laws_toSel = true := by kernel_rfl
theorem ag_laws_szDecl : agF Try.prog 142 k_laws_szDecl = true := by kernel_rfl
theorem ag_laws_szAttr : agF Try.prog 143 k_laws_szAttr = true := by kernel_rfl
theorem ag_laws_toDecl : agF Try.prog 144 k_laws_toDecl = true := by kernel_rfl
theorem ag_laws_toAttr : agF Try.prog 145 k_laws_toAttr = true := by kernel_rfl
theorem ag_laws_eqDecl : agF Try.prog 148 k_laws_eqDecl = true := by kernel_rfl
theorem ag_laws_eqAttr : agF Try.prog 149 k_laws_eqAttr = true := by kernel_rfl
theorem ag_laws_eqStep : agF Try.prog 150 k_laws_eqStep = true := by kernel_rfl
theorem ag_laws_szStepS : agF Try.prog 153 k_laws_szStepS = true := by kernel_rfl
theorem ag_laws_toStepS : agF Try.prog 154 k_laws_toStepS = true := by kernel_rfl
theorem ag_laws_eqPredS : agF Try.prog 160 k_laws_eqPredS = true := by kernel_rfl
theorem ag_laws_szStep : agF Try.prog 161 k_laws_szStep = true := by kernel_rfl
theorem ag_laws_toStep : agF Try.prog 162 k_laws_toStep = true := by kernel_rfl
theorem ag_laws_eqPred : agF Try.prog 165 k_laws_eqPred = true := by kernel_rfl
theorem ag_laws_szPredS : agF Try.prog 166 k_laws_szPredS = true := by kernel_rfl
theorem ag_laws_toPredS : agF Try.prog 167 k_laws_toPredS = true := by kernel_rfl
theorem ag_laws_szPred : agF Try.prog 169 k_laws_szPred = true := by kernel_rfl
theorem ag_laws_toPred : agF Try.prog 170 k_laws_toPred = true := by kernel_rfl
theorem FTT_ag (f : FuncId) (fn : F) (h : FTT f = some fn) : agF Try.prog f fn = true := by
  unfold FTT at h
  split at h <;> cases h
  · exact ag_laws_FnExactCost
  · exact ag_laws_szOpS
  · exact ag_spec_Cost
  · exact ag_laws_toOpS
  · exact ag_impl_Cost
  · exact ag_laws_eqOpS
  · exact ag_impl_CountOf
  · exact ag_laws_szNode
  · exact ag_laws_szNodeS
  · exact ag_laws_toNode
  · exact ag_laws_toNodeS
  · exact ag_laws_eqNode
  · exact ag_laws_eqNodeS
  · exact ag_laws_eqSel
  · exact ag_laws_szOp
  · exact ag_spec_CountOf
  · exact ag_laws_toOp
  · exact ag_laws_eqOp
  · exact ag_laws_szDeclS
  · exact ag_laws_szAttrS
  · exact ag_laws_toDeclS
  · exact ag_laws_toAttrS
  · exact ag_laws_eqDeclS
  · exact ag_laws_eqAttrS
  · exact ag_laws_eqStepS
  · exact ag_laws_szSel
  · exact ag_laws_toSel
  · exact ag_laws_szDecl
  · exact ag_laws_szAttr
  · exact ag_laws_toDecl
  · exact ag_laws_toAttr
  · exact ag_laws_eqDecl
  · exact ag_laws_eqAttr
  · exact ag_laws_eqStep
  · exact ag_laws_szStepS
  · exact ag_laws_toStepS
  · exact ag_laws_eqPredS
  · exact ag_laws_szStep
  · exact ag_laws_toStep
  · exact ag_laws_eqPred
  · exact ag_laws_szPredS
  · exact ag_laws_toPredS
  · exact ag_laws_szPred
  · exact ag_laws_toPred
theorem sound0 : Sound Try.prog (den FTT (cloneX [])) := den_sound (fun f args res h => by cases h) (by kernel_rfl) FTT_ag
theorem soundA : Sound Try.prog (dn FTA) := sound0
end TT
