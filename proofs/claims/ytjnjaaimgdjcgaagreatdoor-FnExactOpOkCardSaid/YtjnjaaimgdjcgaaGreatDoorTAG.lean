import Derived.Test.YtjnjaaimgdjcgaaGreatDoorTKK
import Derived.Test.YtjnjaaimgdjcgaaGreatDoorTD25
import Derived.Test.YtjnjaaimgdjcgaaGreatDoorTE
import Derived.Test.YtjnjaaimgdjcgaaGreatDoorProg
import Derived.KernelRfl
import Derived.Test.YtjnjaaimgdjcgaaGreatDoorTFnExactOpOkLib
import Derived.Test.YtjnjaaimgdjcgaaGreatDoorTHX4
namespace TT
open Go Go.Proofs
set_option maxRecDepth 100000
set_option linter.unusedSimpArgs false
set_option linter.unusedVariables false
theorem ag_laws_FnExactOpOk : agF Tryz.prog 13 k_laws_FnExactOpOk = true := by kernel_rfl
theorem ag_laws_szNode : agF Tryz.prog 22 k_laws_szNode = true := by kernel_rfl
theorem ag_laws_toNode : agF Tryz.prog 24 k_laws_toNode = true := by kernel_rfl
theorem ag_laws_eqNode : agF Tryz.prog 26 k_laws_eqNode = true := by kernel_rfl
theorem ag_laws_szOp : agF Tryz.prog 45 k_laws_szOp = true := by kernel_rfl
theorem ag_spec_OpOk : agF Tryz.prog 46 k_spec_OpOk = true := by kernel_rfl
theorem ag_laws_toOp : agF Tryz.prog 47 k_laws_toOp = true := by kernel_rfl
theorem ag_impl_OpOk : agF Tryz.prog 48 k_impl_OpOk = true := by kernel_rfl
theorem ag_laws_eqOp : agF Tryz.prog 49 k_laws_eqOp = true := by kernel_rfl
theorem ag_laws_szDeclS : agF Tryz.prog 59 k_laws_szDeclS = true := by kernel_rfl
theorem ag_laws_szAttrS : agF Tryz.prog 60 k_laws_szAttrS = true := by kernel_rfl
theorem ag_laws_szNodeS : agF Tryz.prog 61 k_laws_szNodeS = true := by kernel_rfl
theorem ag_laws_toDeclS : agF Tryz.prog 63 k_laws_toDeclS = true := by kernel_rfl
theorem ag_laws_toAttrS : agF Tryz.prog 64 k_laws_toAttrS = true := by kernel_rfl
theorem ag_laws_toNodeS : agF Tryz.prog 65 k_laws_toNodeS = true := by kernel_rfl
theorem ag_laws_eqDeclS : agF Tryz.prog 67 k_laws_eqDeclS = true := by kernel_rfl
theorem ag_laws_eqAttrS : agF Tryz.prog 68 k_laws_eqAttrS = true := by kernel_rfl
theorem ag_laws_eqNodeS : agF Tryz.prog 69 k_laws_eqNodeS = true := by kernel_rfl
theorem ag_laws_szSel : agF Tryz.prog 88 k_laws_szSel = true := by kernel_rfl
theorem ag_spec_l1In : agF Tryz.prog 89 k_spec_l1In = true := by kernel_rfl
theorem ag_spec_SelOk : agF Tryz.prog 90 k_spec_SelOk = true := by kernel_rfl
theorem ag_spec_DeclOk : agF Tryz.prog 91 k_spec_DeclOk = true := by kernel_rfl
theorem ag_spec_CountOf : agF Tryz.prog 92 k_spec_CountOf = true := by kernel_rfl
theorem ag_spec_NodeOk : agF Tryz.prog 93 k_spec_NodeOk = true := by kernel_rfl
theorem ag_spec_FitsIn : agF Tryz.prog 94 k_spec_FitsIn = true := by kernel_rfl
theorem ag_spec_JoinName : agF Tryz.prog 95 k_spec_JoinName = true := by kernel_rfl
theorem ag_spec_l4Xml : agF Tryz.prog 96 k_spec_l4Xml = true := by kernel_rfl
theorem ag_laws_toSel : agF Tryz.prog 97 k_laws_toSel = true := by kernel_rfl
theorem ag_impl_SelOk : agF Tryz.prog 98 k_impl_SelOk = true := by kernel_rfl
theorem ag_impl_twicePre : agF Tryz.prog 99 k_impl_twicePre = true := by kernel_rfl
theorem ag_slices_ContainsFunc_Decl : agF Tryz.prog 100 k_slices_ContainsFunc_Decl = true := by kernel_rfl
theorem ag_impl_OpOk_1 : agF Tryz.prog 101 k_impl_OpOk_1 = true := by kernel_rfl
theorem ag_impl_DeclOk : agF Tryz.prog 102 k_impl_DeclOk = true := by kernel_rfl
theorem ag_impl_opKidsOk : agF Tryz.prog 103 k_impl_opKidsOk = true := by kernel_rfl
theorem ag_impl_in : agF Tryz.prog 104 k_impl_in = true := by kernel_rfl
theorem ag_impl_typeOk : agF Tryz.prog 105 k_impl_typeOk = true := by kernel_rfl
theorem ag_laws_eqSel : agF Tryz.prog 106 k_laws_eqSel = true := by kernel_rfl
theorem ag_impl_NodeOk : agF Tryz.prog 108 k_impl_NodeOk = true := by kernel_rfl
theorem ag_laws_szDecl : agF Tryz.prog 111 k_laws_szDecl = true := by kernel_rfl
theorem ag_laws_szAttr : agF Tryz.prog 112 k_laws_szAttr = true := by kernel_rfl
theorem ag_laws_toDecl : agF Tryz.prog 114 k_laws_toDecl = true := by kernel_rfl
theorem ag_laws_toAttr : agF Tryz.prog 115 k_laws_toAttr = true := by kernel_rfl
theorem ag_laws_eqDecl : agF Tryz.prog 119 k_laws_eqDecl = true := by kernel_rfl
theorem ag_laws_eqAttr : agF Tryz.prog 120 k_laws_eqAttr = true := by kernel_rfl
theorem ag_laws_szStepS : agF Tryz.prog 130 k_laws_szStepS = true := by kernel_rfl
theorem ag_spec_l11StepOk : agF Tryz.prog 131 k_spec_l11StepOk = true := by kernel_rfl
theorem ag_spec_l11Val : agF Tryz.prog 132 k_spec_l11Val = true := by kernel_rfl
theorem ag_spec_PlainOk : agF Tryz.prog 133 k_spec_PlainOk = true := by kernel_rfl
theorem ag_spec_TextOk : agF Tryz.prog 134 k_spec_TextOk = true := by kernel_rfl
theorem ag_spec_l5Kids : agF Tryz.prog 135 k_spec_l5Kids = true := by kernel_rfl
theorem ag_spec_Inner : agF Tryz.prog 136 k_spec_Inner = true := by kernel_rfl
theorem ag_spec_SpaceOf : agF Tryz.prog 137 k_spec_SpaceOf = true := by kernel_rfl
theorem ag_spec_SplitName : agF Tryz.prog 138 k_spec_SplitName = true := by kernel_rfl
theorem ag_laws_toStepS : agF Tryz.prog 139 k_laws_toStepS = true := by kernel_rfl
theorem ag_impl_stepOk : agF Tryz.prog 140 k_impl_stepOk = true := by kernel_rfl
theorem ag_impl_valOk : agF Tryz.prog 141 k_impl_valOk = true := by kernel_rfl
theorem ag_impl_twicePre_1 : agF Tryz.prog 142 k_impl_twicePre_1 = true := by kernel_rfl
theorem ag_slices_IndexFunc_Decl : agF Tryz.prog 143 k_slices_IndexFunc_Decl = true := by kernel_rfl
theorem ag_impl_preOk : agF Tryz.prog 144 k_impl_preOk = true := by kernel_rfl
theorem ag_impl_uriOk : agF Tryz.prog 145 k_impl_uriOk = true := by kernel_rfl
theorem ag_impl_CountOf : agF Tryz.prog 146 k_impl_CountOf = true := by kernel_rfl
theorem ag_impl_noTwoTexts : agF Tryz.prog 147 k_impl_noTwoTexts = true := by kernel_rfl
theorem ag_impl_JoinName : agF Tryz.prog 148 k_impl_JoinName = true := by kernel_rfl
theorem ag_strings_HasPrefix : agF Tryz.prog 149 k_strings_HasPrefix = true := by kernel_rfl
theorem ag_laws_eqStepS : agF Tryz.prog 150 k_laws_eqStepS = true := by kernel_rfl
theorem ag_impl_partOk : agF Tryz.prog 152 k_impl_partOk = true := by kernel_rfl
theorem ag_impl_ofKind : agF Tryz.prog 153 k_impl_ofKind = true := by kernel_rfl
theorem ag_impl_kidsOk : agF Tryz.prog 154 k_impl_kidsOk = true := by kernel_rfl
theorem ag_slices_ContainsFunc_Node : agF Tryz.prog 163 k_slices_ContainsFunc_Node = true := by kernel_rfl
theorem ag_laws_szStep : agF Tryz.prog 170 k_laws_szStep = true := by kernel_rfl
theorem ag_spec_l11PredOk : agF Tryz.prog 171 k_spec_l11PredOk = true := by kernel_rfl
theorem ag_spec_l5Has : agF Tryz.prog 172 k_spec_l5Has = true := by kernel_rfl
theorem ag_spec_SignAt : agF Tryz.prog 173 k_spec_SignAt = true := by kernel_rfl
theorem ag_spec_IsStart : agF Tryz.prog 174 k_spec_IsStart = true := by kernel_rfl
theorem ag_spec_IsPart : agF Tryz.prog 175 k_spec_IsPart = true := by kernel_rfl
theorem ag_spec_l1Signs : agF Tryz.prog 176 k_spec_l1Signs = true := by kernel_rfl
theorem ag_spec_l5One : agF Tryz.prog 177 k_spec_l5One = true := by kernel_rfl
theorem ag_laws_toStep : agF Tryz.prog 178 k_laws_toStep = true := by kernel_rfl
theorem ag_slices_ContainsFunc_Pred : agF Tryz.prog 179 k_slices_ContainsFunc_Pred = true := by kernel_rfl
theorem ag_impl_stepOk_1 : agF Tryz.prog 180 k_impl_stepOk_1 = true := by kernel_rfl
theorem ag_impl_predOk : agF Tryz.prog 181 k_impl_predOk = true := by kernel_rfl
theorem ag_impl_nameOk : agF Tryz.prog 182 k_impl_nameOk = true := by kernel_rfl
theorem ag_impl_PlainOk : agF Tryz.prog 183 k_impl_PlainOk = true := by kernel_rfl
theorem ag_impl_TextOk : agF Tryz.prog 184 k_impl_TextOk = true := by kernel_rfl
theorem ag_impl_SplitName : agF Tryz.prog 186 k_impl_SplitName = true := by kernel_rfl
theorem ag_internal_stringslite_HasPrefix : agF Tryz.prog 187 k_internal_stringslite_HasPrefix = true := by kernel_rfl
theorem ag_laws_eqStep : agF Tryz.prog 188 k_laws_eqStep = true := by kernel_rfl
theorem ag_impl_leafOk : agF Tryz.prog 190 k_impl_leafOk = true := by kernel_rfl
theorem ag_impl_DeclsOk : agF Tryz.prog 191 k_impl_DeclsOk = true := by kernel_rfl
theorem ag_impl_attrsOk : agF Tryz.prog 192 k_impl_attrsOk = true := by kernel_rfl
theorem ag_impl_kidsOk_1 : agF Tryz.prog 193 k_impl_kidsOk_1 = true := by kernel_rfl
theorem ag_slices_IndexFunc_Node : agF Tryz.prog 199 k_slices_IndexFunc_Node = true := by kernel_rfl
theorem ag_laws_szPredS : agF Tryz.prog 200 k_laws_szPredS = true := by kernel_rfl
theorem ag_spec_l1Ranges : agF Tryz.prog 201 k_spec_l1Ranges = true := by kernel_rfl
theorem ag_spec_IsSign : agF Tryz.prog 202 k_spec_IsSign = true := by kernel_rfl
theorem ag_spec_l5Pre : agF Tryz.prog 203 k_spec_l5Pre = true := by kernel_rfl
theorem ag_spec_DeclsOk : agF Tryz.prog 204 k_spec_DeclsOk = true := by kernel_rfl
theorem ag_spec_l5AttrOk : agF Tryz.prog 205 k_spec_l5AttrOk = true := by kernel_rfl
theorem ag_spec_l5Less : agF Tryz.prog 206 k_spec_l5Less = true := by kernel_rfl
theorem ag_spec_l5Bare : agF Tryz.prog 207 k_spec_l5Bare = true := by kernel_rfl
theorem ag_spec_l5Xml : agF Tryz.prog 208 k_spec_l5Xml = true := by kernel_rfl
theorem ag_spec_IsBlank : agF Tryz.prog 209 k_spec_IsBlank = true := by kernel_rfl
theorem ag_laws_toPredS : agF Tryz.prog 210 k_laws_toPredS = true := by kernel_rfl
theorem ag_slices_IndexFunc_Pred : agF Tryz.prog 211 k_slices_IndexFunc_Pred = true := by kernel_rfl
theorem ag_impl_SignAt : agF Tryz.prog 212 k_impl_SignAt = true := by kernel_rfl
theorem ag_impl_IsStart : agF Tryz.prog 213 k_impl_IsStart = true := by kernel_rfl
theorem ag_impl_IsPart : agF Tryz.prog 214 k_impl_IsPart = true := by kernel_rfl
theorem ag_impl_signsOk : agF Tryz.prog 215 k_impl_signsOk = true := by kernel_rfl
theorem ag_laws_eqPredS : agF Tryz.prog 218 k_laws_eqPredS = true := by kernel_rfl
theorem ag_impl_noteOk : agF Tryz.prog 219 k_impl_noteOk = true := by kernel_rfl
theorem ag_impl_toldOk : agF Tryz.prog 220 k_impl_toldOk = true := by kernel_rfl
theorem ag_impl_attrOk : agF Tryz.prog 221 k_impl_attrOk = true := by kernel_rfl
theorem ag_impl_compareAttrs : agF Tryz.prog 222 k_impl_compareAttrs = true := by kernel_rfl
theorem ag_laws_szPred : agF Tryz.prog 226 k_laws_szPred = true := by kernel_rfl
theorem ag_laws_toPred : agF Tryz.prog 227 k_laws_toPred = true := by kernel_rfl
theorem ag_impl_inAny : agF Tryz.prog 229 k_impl_inAny = true := by kernel_rfl
theorem ag_impl_IsSign : agF Tryz.prog 230 k_impl_IsSign = true := by kernel_rfl
theorem ag_laws_eqPred : agF Tryz.prog 233 k_laws_eqPred = true := by kernel_rfl
theorem ag_strings_HasSuffix : agF Tryz.prog 234 k_strings_HasSuffix = true := by kernel_rfl
theorem ag_impl_IsBlank : agF Tryz.prog 236 k_impl_IsBlank = true := by kernel_rfl
theorem ag_slices_ContainsFunc_A2int : agF Tryz.prog 239 k_slices_ContainsFunc_A2int = true := by kernel_rfl
theorem ag_impl_inAny_1 : agF Tryz.prog 240 k_impl_inAny_1 = true := by kernel_rfl
theorem ag_internal_stringslite_HasSuffix : agF Tryz.prog 245 k_internal_stringslite_HasSuffix = true := by kernel_rfl
theorem ag_slices_IndexFunc_A2int : agF Tryz.prog 248 k_slices_IndexFunc_A2int = true := by kernel_rfl
theorem FTT_ag (f : FuncId) (fn : F) (h : FTT f = some fn) : agF Tryz.prog f fn = true := by
 unfold FTT at h
 split at h <;> cases h
 ·exact ag_laws_FnExactOpOk
 ·exact ag_laws_szNode
 ·exact ag_laws_toNode
 ·exact ag_laws_eqNode
 ·exact ag_laws_szOp
 ·exact ag_spec_OpOk
 ·exact ag_laws_toOp
 ·exact ag_impl_OpOk
 ·exact ag_laws_eqOp
 ·exact ag_laws_szDeclS
 ·exact ag_laws_szAttrS
 ·exact ag_laws_szNodeS
 ·exact ag_laws_toDeclS
 ·exact ag_laws_toAttrS
 ·exact ag_laws_toNodeS
 ·exact ag_laws_eqDeclS
 ·exact ag_laws_eqAttrS
 ·exact ag_laws_eqNodeS
 ·exact ag_laws_szSel
 ·exact ag_spec_l1In
 ·exact ag_spec_SelOk
 ·exact ag_spec_DeclOk
 ·exact ag_spec_CountOf
 ·exact ag_spec_NodeOk
 ·exact ag_spec_FitsIn
 ·exact ag_spec_JoinName
 ·exact ag_spec_l4Xml
 ·exact ag_laws_toSel
 ·exact ag_impl_SelOk
 ·exact ag_impl_twicePre
 ·exact ag_slices_ContainsFunc_Decl
 ·exact ag_impl_OpOk_1
 ·exact ag_impl_DeclOk
 ·exact ag_impl_opKidsOk
 ·exact ag_impl_in
 ·exact ag_impl_typeOk
 ·exact ag_laws_eqSel
 ·exact ag_impl_NodeOk
 ·exact ag_laws_szDecl
 ·exact ag_laws_szAttr
 ·exact ag_laws_toDecl
 ·exact ag_laws_toAttr
 ·exact ag_laws_eqDecl
 ·exact ag_laws_eqAttr
 ·exact ag_laws_szStepS
 ·exact ag_spec_l11StepOk
 ·exact ag_spec_l11Val
 ·exact ag_spec_PlainOk
 ·exact ag_spec_TextOk
 ·exact ag_spec_l5Kids
 ·exact ag_spec_Inner
 ·exact ag_spec_SpaceOf
 ·exact ag_spec_SplitName
 ·exact ag_laws_toStepS
 ·exact ag_impl_stepOk
 ·exact ag_impl_valOk
 ·exact ag_impl_twicePre_1
 ·exact ag_slices_IndexFunc_Decl
 ·exact ag_impl_preOk
 ·exact ag_impl_uriOk
 ·exact ag_impl_CountOf
 ·exact ag_impl_noTwoTexts
 ·exact ag_impl_JoinName
 ·exact ag_strings_HasPrefix
 ·exact ag_laws_eqStepS
 ·exact ag_impl_partOk
 ·exact ag_impl_ofKind
 ·exact ag_impl_kidsOk
 ·exact ag_slices_ContainsFunc_Node
 ·exact ag_laws_szStep
 ·exact ag_spec_l11PredOk
 ·exact ag_spec_l5Has
 ·exact ag_spec_SignAt
 ·exact ag_spec_IsStart
 ·exact ag_spec_IsPart
 ·exact ag_spec_l1Signs
 ·exact ag_spec_l5One
 ·exact ag_laws_toStep
 ·exact ag_slices_ContainsFunc_Pred
 ·exact ag_impl_stepOk_1
 ·exact ag_impl_predOk
 ·exact ag_impl_nameOk
 ·exact ag_impl_PlainOk
 ·exact ag_impl_TextOk
 ·exact ag_impl_SplitName
 ·exact ag_internal_stringslite_HasPrefix
 ·exact ag_laws_eqStep
 ·exact ag_impl_leafOk
 ·exact ag_impl_DeclsOk
 ·exact ag_impl_attrsOk
 ·exact ag_impl_kidsOk_1
 ·exact ag_slices_IndexFunc_Node
 ·exact ag_laws_szPredS
 ·exact ag_spec_l1Ranges
 ·exact ag_spec_IsSign
 ·exact ag_spec_l5Pre
 ·exact ag_spec_DeclsOk
 ·exact ag_spec_l5AttrOk
 ·exact ag_spec_l5Less
 ·exact ag_spec_l5Bare
 ·exact ag_spec_l5Xml
 ·exact ag_spec_IsBlank
 ·exact ag_laws_toPredS
 ·exact ag_slices_IndexFunc_Pred
 ·exact ag_impl_SignAt
 ·exact ag_impl_IsStart
 ·exact ag_impl_IsPart
 ·exact ag_impl_signsOk
 ·exact ag_laws_eqPredS
 ·exact ag_impl_noteOk
 ·exact ag_impl_toldOk
 ·exact ag_impl_attrOk
 ·exact ag_impl_compareAttrs
 ·exact ag_laws_szPred
 ·exact ag_laws_toPred
 ·exact ag_impl_inAny
 ·exact ag_impl_IsSign
 ·exact ag_laws_eqPred
 ·exact ag_strings_HasSuffix
 ·exact ag_impl_IsBlank
 ·exact ag_slices_ContainsFunc_A2int
 ·exact ag_impl_inAny_1
 ·exact ag_internal_stringslite_HasSuffix
 ·exact ag_slices_IndexFunc_A2int
theorem sound0 : Sound GG Tryz.prog (dn ⟨FTT, [], []⟩) := den_sound xOf0_sound (by kernel_rfl) FTT_ag
theorem soundA : Sound GG Tryz.prog (dn FTA) := den_sound (xOf_sound (fun f args res h => by simp [FTA, cloneX] at h) soundL) (by kernel_rfl) FTT_ag
end TT
