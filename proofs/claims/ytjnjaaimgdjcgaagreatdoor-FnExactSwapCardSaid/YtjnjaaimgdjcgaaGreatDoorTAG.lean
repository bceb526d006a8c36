import Derived.Test.YtjnjaaimgdjcgaaGreatDoorTKK
import Derived.Test.YtjnjaaimgdjcgaaGreatDoorTD25
import Derived.Test.YtjnjaaimgdjcgaaGreatDoorTE
import Derived.Test.YtjnjaaimgdjcgaaGreatDoorProg
import Derived.KernelRfl
import Derived.Test.YtjnjaaimgdjcgaaGreatDoorTFnExactSwapLib
import Derived.Test.YtjnjaaimgdjcgaaGreatDoorTHX4
namespace TT
open Go Go.Proofs
set_option maxRecDepth 100000
set_option linter.unusedSimpArgs false
set_option linter.unusedVariables false
theorem ag_laws_FnExactSwap : agF Tryz.prog 14 k_laws_FnExactSwap = true := by kernel_rfl
theorem ag_laws_szWalk : agF Tryz.prog 15 k_laws_szWalk = true := by kernel_rfl
theorem ag_spec_WalkOk : agF Tryz.prog 16 k_spec_WalkOk = true := by kernel_rfl
theorem ag_laws_toWalk : agF Tryz.prog 17 k_laws_toWalk = true := by kernel_rfl
theorem ag_impl_WalkOk : agF Tryz.prog 18 k_impl_WalkOk = true := by kernel_rfl
theorem ag_laws_eqWalk : agF Tryz.prog 19 k_laws_eqWalk = true := by kernel_rfl
theorem ag_laws_szNode : agF Tryz.prog 22 k_laws_szNode = true := by kernel_rfl
theorem ag_laws_toNode : agF Tryz.prog 24 k_laws_toNode = true := by kernel_rfl
theorem ag_laws_eqNode : agF Tryz.prog 26 k_laws_eqNode = true := by kernel_rfl
theorem ag_laws_markNode : agF Tryz.prog 27 k_laws_markNode = true := by kernel_rfl
theorem ag_laws_markWalk : agF Tryz.prog 28 k_laws_markWalk = true := by kernel_rfl
theorem ag_laws_heldWalk : agF Tryz.prog 29 k_laws_heldWalk = true := by kernel_rfl
theorem ag_spec_Here : agF Tryz.prog 30 k_spec_Here = true := by kernel_rfl
theorem ag_impl_Here : agF Tryz.prog 31 k_impl_Here = true := by kernel_rfl
theorem ag_laws_heldNode : agF Tryz.prog 32 k_laws_heldNode = true := by kernel_rfl
theorem ag_spec_Swap : agF Tryz.prog 50 k_spec_Swap = true := by kernel_rfl
theorem ag_impl_Swap : agF Tryz.prog 51 k_impl_Swap = true := by kernel_rfl
theorem ag_laws_szIntS : agF Tryz.prog 52 k_laws_szIntS = true := by kernel_rfl
theorem ag_spec_NodeAt : agF Tryz.prog 53 k_spec_NodeAt = true := by kernel_rfl
theorem ag_spec_TreeOk : agF Tryz.prog 54 k_spec_TreeOk = true := by kernel_rfl
theorem ag_laws_toIntS : agF Tryz.prog 55 k_laws_toIntS = true := by kernel_rfl
theorem ag_impl_NodeAt : agF Tryz.prog 56 k_impl_NodeAt = true := by kernel_rfl
theorem ag_impl_TreeOk : agF Tryz.prog 57 k_impl_TreeOk = true := by kernel_rfl
theorem ag_laws_eqIntS : agF Tryz.prog 58 k_laws_eqIntS = true := by kernel_rfl
theorem ag_laws_szDeclS : agF Tryz.prog 59 k_laws_szDeclS = true := by kernel_rfl
theorem ag_laws_szAttrS : agF Tryz.prog 60 k_laws_szAttrS = true := by kernel_rfl
theorem ag_laws_szNodeS : agF Tryz.prog 61 k_laws_szNodeS = true := by kernel_rfl
theorem ag_spec_l5Copy : agF Tryz.prog 62 k_spec_l5Copy = true := by kernel_rfl
theorem ag_laws_toDeclS : agF Tryz.prog 63 k_laws_toDeclS = true := by kernel_rfl
theorem ag_laws_toAttrS : agF Tryz.prog 64 k_laws_toAttrS = true := by kernel_rfl
theorem ag_laws_toNodeS : agF Tryz.prog 65 k_laws_toNodeS = true := by kernel_rfl
theorem ag_impl_cloneNode : agF Tryz.prog 66 k_impl_cloneNode = true := by kernel_rfl
theorem ag_laws_eqDeclS : agF Tryz.prog 67 k_laws_eqDeclS = true := by kernel_rfl
theorem ag_laws_eqAttrS : agF Tryz.prog 68 k_laws_eqAttrS = true := by kernel_rfl
theorem ag_laws_eqNodeS : agF Tryz.prog 69 k_laws_eqNodeS = true := by kernel_rfl
theorem ag_laws_markDeclS : agF Tryz.prog 70 k_laws_markDeclS = true := by kernel_rfl
theorem ag_laws_markAttrS : agF Tryz.prog 71 k_laws_markAttrS = true := by kernel_rfl
theorem ag_laws_markNodeS : agF Tryz.prog 72 k_laws_markNodeS = true := by kernel_rfl
theorem ag_laws_markIntS : agF Tryz.prog 73 k_laws_markIntS = true := by kernel_rfl
theorem ag_laws_heldIntS : agF Tryz.prog 74 k_laws_heldIntS = true := by kernel_rfl
theorem ag_laws_heldDeclS : agF Tryz.prog 75 k_laws_heldDeclS = true := by kernel_rfl
theorem ag_laws_heldAttrS : agF Tryz.prog 76 k_laws_heldAttrS = true := by kernel_rfl
theorem ag_laws_heldNodeS : agF Tryz.prog 77 k_laws_heldNodeS = true := by kernel_rfl
theorem ag_spec_l22Copy : agF Tryz.prog 82 k_spec_l22Copy = true := by kernel_rfl
theorem ag_impl_cloneWalk : agF Tryz.prog 83 k_impl_cloneWalk = true := by kernel_rfl
theorem ag_spec_l1In : agF Tryz.prog 89 k_spec_l1In = true := by kernel_rfl
theorem ag_spec_DeclOk : agF Tryz.prog 91 k_spec_DeclOk = true := by kernel_rfl
theorem ag_spec_CountOf : agF Tryz.prog 92 k_spec_CountOf = true := by kernel_rfl
theorem ag_spec_NodeOk : agF Tryz.prog 93 k_spec_NodeOk = true := by kernel_rfl
theorem ag_spec_FitsIn : agF Tryz.prog 94 k_spec_FitsIn = true := by kernel_rfl
theorem ag_spec_l4Xml : agF Tryz.prog 96 k_spec_l4Xml = true := by kernel_rfl
theorem ag_impl_DeclOk : agF Tryz.prog 102 k_impl_DeclOk = true := by kernel_rfl
theorem ag_impl_in : agF Tryz.prog 104 k_impl_in = true := by kernel_rfl
theorem ag_spec_PutAt : agF Tryz.prog 107 k_spec_PutAt = true := by kernel_rfl
theorem ag_impl_NodeOk : agF Tryz.prog 108 k_impl_NodeOk = true := by kernel_rfl
theorem ag_impl_PutAt : agF Tryz.prog 109 k_impl_PutAt = true := by kernel_rfl
theorem ag_laws_szDecl : agF Tryz.prog 111 k_laws_szDecl = true := by kernel_rfl
theorem ag_laws_szAttr : agF Tryz.prog 112 k_laws_szAttr = true := by kernel_rfl
theorem ag_spec_l5All : agF Tryz.prog 113 k_spec_l5All = true := by kernel_rfl
theorem ag_laws_toDecl : agF Tryz.prog 114 k_laws_toDecl = true := by kernel_rfl
theorem ag_laws_toAttr : agF Tryz.prog 115 k_laws_toAttr = true := by kernel_rfl
theorem ag_slices_Clone_Decl : agF Tryz.prog 116 k_slices_Clone_Decl = true := by kernel_rfl
theorem ag_slices_Clone_Attr : agF Tryz.prog 117 k_slices_Clone_Attr = true := by kernel_rfl
theorem ag_impl_cloneNodes : agF Tryz.prog 118 k_impl_cloneNodes = true := by kernel_rfl
theorem ag_laws_eqDecl : agF Tryz.prog 119 k_laws_eqDecl = true := by kernel_rfl
theorem ag_laws_eqAttr : agF Tryz.prog 120 k_laws_eqAttr = true := by kernel_rfl
theorem ag_laws_markText : agF Tryz.prog 121 k_laws_markText = true := by kernel_rfl
theorem ag_slices_Clone_int : agF Tryz.prog 122 k_slices_Clone_int = true := by kernel_rfl
theorem ag_spec_PlainOk : agF Tryz.prog 133 k_spec_PlainOk = true := by kernel_rfl
theorem ag_spec_TextOk : agF Tryz.prog 134 k_spec_TextOk = true := by kernel_rfl
theorem ag_spec_l5Kids : agF Tryz.prog 135 k_spec_l5Kids = true := by kernel_rfl
theorem ag_spec_Inner : agF Tryz.prog 136 k_spec_Inner = true := by kernel_rfl
theorem ag_spec_SpaceOf : agF Tryz.prog 137 k_spec_SpaceOf = true := by kernel_rfl
theorem ag_impl_preOk : agF Tryz.prog 144 k_impl_preOk = true := by kernel_rfl
theorem ag_impl_uriOk : agF Tryz.prog 145 k_impl_uriOk = true := by kernel_rfl
theorem ag_impl_CountOf : agF Tryz.prog 146 k_impl_CountOf = true := by kernel_rfl
theorem ag_impl_noTwoTexts : agF Tryz.prog 147 k_impl_noTwoTexts = true := by kernel_rfl
theorem ag_strings_HasPrefix : agF Tryz.prog 149 k_strings_HasPrefix = true := by kernel_rfl
theorem ag_spec_l10Turn : agF Tryz.prog 151 k_spec_l10Turn = true := by kernel_rfl
theorem ag_impl_partOk : agF Tryz.prog 152 k_impl_partOk = true := by kernel_rfl
theorem ag_impl_ofKind : agF Tryz.prog 153 k_impl_ofKind = true := by kernel_rfl
theorem ag_impl_kidsOk : agF Tryz.prog 154 k_impl_kidsOk = true := by kernel_rfl
theorem ag_impl_turnedAt : agF Tryz.prog 155 k_impl_turnedAt = true := by kernel_rfl
theorem ag_impl_PutAt_1 : agF Tryz.prog 156 k_impl_PutAt_1 = true := by kernel_rfl
theorem ag_impl_spliced : agF Tryz.prog 157 k_impl_spliced = true := by kernel_rfl
theorem ag_slices_ContainsFunc_Node : agF Tryz.prog 163 k_slices_ContainsFunc_Node = true := by kernel_rfl
theorem ag_spec_l5Has : agF Tryz.prog 172 k_spec_l5Has = true := by kernel_rfl
theorem ag_spec_SignAt : agF Tryz.prog 173 k_spec_SignAt = true := by kernel_rfl
theorem ag_spec_IsStart : agF Tryz.prog 174 k_spec_IsStart = true := by kernel_rfl
theorem ag_spec_IsPart : agF Tryz.prog 175 k_spec_IsPart = true := by kernel_rfl
theorem ag_spec_l1Signs : agF Tryz.prog 176 k_spec_l1Signs = true := by kernel_rfl
theorem ag_spec_l5One : agF Tryz.prog 177 k_spec_l5One = true := by kernel_rfl
theorem ag_impl_PlainOk : agF Tryz.prog 183 k_impl_PlainOk = true := by kernel_rfl
theorem ag_impl_TextOk : agF Tryz.prog 184 k_impl_TextOk = true := by kernel_rfl
theorem ag_internal_stringslite_HasPrefix : agF Tryz.prog 187 k_internal_stringslite_HasPrefix = true := by kernel_rfl
theorem ag_spec_Merge : agF Tryz.prog 189 k_spec_Merge = true := by kernel_rfl
theorem ag_impl_leafOk : agF Tryz.prog 190 k_impl_leafOk = true := by kernel_rfl
theorem ag_impl_DeclsOk : agF Tryz.prog 191 k_impl_DeclsOk = true := by kernel_rfl
theorem ag_impl_attrsOk : agF Tryz.prog 192 k_impl_attrsOk = true := by kernel_rfl
theorem ag_impl_kidsOk_1 : agF Tryz.prog 193 k_impl_kidsOk_1 = true := by kernel_rfl
theorem ag_impl_Merge : agF Tryz.prog 194 k_impl_Merge = true := by kernel_rfl
theorem ag_slices_IndexFunc_Node : agF Tryz.prog 199 k_slices_IndexFunc_Node = true := by kernel_rfl
theorem ag_spec_l1Ranges : agF Tryz.prog 201 k_spec_l1Ranges = true := by kernel_rfl
theorem ag_spec_IsSign : agF Tryz.prog 202 k_spec_IsSign = true := by kernel_rfl
theorem ag_spec_l5Pre : agF Tryz.prog 203 k_spec_l5Pre = true := by kernel_rfl
theorem ag_spec_DeclsOk : agF Tryz.prog 204 k_spec_DeclsOk = true := by kernel_rfl
theorem ag_spec_l5AttrOk : agF Tryz.prog 205 k_spec_l5AttrOk = true := by kernel_rfl
theorem ag_spec_l5Less : agF Tryz.prog 206 k_spec_l5Less = true := by kernel_rfl
theorem ag_spec_l5Bare : agF Tryz.prog 207 k_spec_l5Bare = true := by kernel_rfl
theorem ag_spec_l5Xml : agF Tryz.prog 208 k_spec_l5Xml = true := by kernel_rfl
theorem ag_spec_IsBlank : agF Tryz.prog 209 k_spec_IsBlank = true := by kernel_rfl
theorem ag_impl_SignAt : agF Tryz.prog 212 k_impl_SignAt = true := by kernel_rfl
theorem ag_impl_IsStart : agF Tryz.prog 213 k_impl_IsStart = true := by kernel_rfl
theorem ag_impl_IsPart : agF Tryz.prog 214 k_impl_IsPart = true := by kernel_rfl
theorem ag_impl_signsOk : agF Tryz.prog 215 k_impl_signsOk = true := by kernel_rfl
theorem ag_impl_noteOk : agF Tryz.prog 219 k_impl_noteOk = true := by kernel_rfl
theorem ag_impl_toldOk : agF Tryz.prog 220 k_impl_toldOk = true := by kernel_rfl
theorem ag_impl_attrOk : agF Tryz.prog 221 k_impl_attrOk = true := by kernel_rfl
theorem ag_impl_compareAttrs : agF Tryz.prog 222 k_impl_compareAttrs = true := by kernel_rfl
theorem ag_impl_inAny : agF Tryz.prog 229 k_impl_inAny = true := by kernel_rfl
theorem ag_impl_IsSign : agF Tryz.prog 230 k_impl_IsSign = true := by kernel_rfl
theorem ag_strings_HasSuffix : agF Tryz.prog 234 k_strings_HasSuffix = true := by kernel_rfl
theorem ag_impl_IsBlank : agF Tryz.prog 236 k_impl_IsBlank = true := by kernel_rfl
theorem ag_slices_ContainsFunc_A2int : agF Tryz.prog 239 k_slices_ContainsFunc_A2int = true := by kernel_rfl
theorem ag_impl_inAny_1 : agF Tryz.prog 240 k_impl_inAny_1 = true := by kernel_rfl
theorem ag_internal_stringslite_HasSuffix : agF Tryz.prog 245 k_internal_stringslite_HasSuffix = true := by kernel_rfl
theorem ag_slices_IndexFunc_A2int : agF Tryz.prog 248 k_slices_IndexFunc_A2int = true := by kernel_rfl
theorem FTT_ag (f : FuncId) (fn : F) (h : FTT f = some fn) : agF Tryz.prog f fn = true := by
 unfold FTT at h
 split at h <;> cases h
 ·exact ag_laws_FnExactSwap
 ·exact ag_laws_szWalk
 ·exact ag_spec_WalkOk
 ·exact ag_laws_toWalk
 ·exact ag_impl_WalkOk
 ·exact ag_laws_eqWalk
 ·exact ag_laws_szNode
 ·exact ag_laws_toNode
 ·exact ag_laws_eqNode
 ·exact ag_laws_markNode
 ·exact ag_laws_markWalk
 ·exact ag_laws_heldWalk
 ·exact ag_spec_Here
 ·exact ag_impl_Here
 ·exact ag_laws_heldNode
 ·exact ag_spec_Swap
 ·exact ag_impl_Swap
 ·exact ag_laws_szIntS
 ·exact ag_spec_NodeAt
 ·exact ag_spec_TreeOk
 ·exact ag_laws_toIntS
 ·exact ag_impl_NodeAt
 ·exact ag_impl_TreeOk
 ·exact ag_laws_eqIntS
 ·exact ag_laws_szDeclS
 ·exact ag_laws_szAttrS
 ·exact ag_laws_szNodeS
 ·exact ag_spec_l5Copy
 ·exact ag_laws_toDeclS
 ·exact ag_laws_toAttrS
 ·exact ag_laws_toNodeS
 ·exact ag_impl_cloneNode
 ·exact ag_laws_eqDeclS
 ·exact ag_laws_eqAttrS
 ·exact ag_laws_eqNodeS
 ·exact ag_laws_markDeclS
 ·exact ag_laws_markAttrS
 ·exact ag_laws_markNodeS
 ·exact ag_laws_markIntS
 ·exact ag_laws_heldIntS
 ·exact ag_laws_heldDeclS
 ·exact ag_laws_heldAttrS
 ·exact ag_laws_heldNodeS
 ·exact ag_spec_l22Copy
 ·exact ag_impl_cloneWalk
 ·exact ag_spec_l1In
 ·exact ag_spec_DeclOk
 ·exact ag_spec_CountOf
 ·exact ag_spec_NodeOk
 ·exact ag_spec_FitsIn
 ·exact ag_spec_l4Xml
 ·exact ag_impl_DeclOk
 ·exact ag_impl_in
 ·exact ag_spec_PutAt
 ·exact ag_impl_NodeOk
 ·exact ag_impl_PutAt
 ·exact ag_laws_szDecl
 ·exact ag_laws_szAttr
 ·exact ag_spec_l5All
 ·exact ag_laws_toDecl
 ·exact ag_laws_toAttr
 ·exact ag_slices_Clone_Decl
 ·exact ag_slices_Clone_Attr
 ·exact ag_impl_cloneNodes
 ·exact ag_laws_eqDecl
 ·exact ag_laws_eqAttr
 ·exact ag_laws_markText
 ·exact ag_slices_Clone_int
 ·exact ag_spec_PlainOk
 ·exact ag_spec_TextOk
 ·exact ag_spec_l5Kids
 ·exact ag_spec_Inner
 ·exact ag_spec_SpaceOf
 ·exact ag_impl_preOk
 ·exact ag_impl_uriOk
 ·exact ag_impl_CountOf
 ·exact ag_impl_noTwoTexts
 ·exact ag_strings_HasPrefix
 ·exact ag_spec_l10Turn
 ·exact ag_impl_partOk
 ·exact ag_impl_ofKind
 ·exact ag_impl_kidsOk
 ·exact ag_impl_turnedAt
 ·exact ag_impl_PutAt_1
 ·exact ag_impl_spliced
 ·exact ag_slices_ContainsFunc_Node
 ·exact ag_spec_l5Has
 ·exact ag_spec_SignAt
 ·exact ag_spec_IsStart
 ·exact ag_spec_IsPart
 ·exact ag_spec_l1Signs
 ·exact ag_spec_l5One
 ·exact ag_impl_PlainOk
 ·exact ag_impl_TextOk
 ·exact ag_internal_stringslite_HasPrefix
 ·exact ag_spec_Merge
 ·exact ag_impl_leafOk
 ·exact ag_impl_DeclsOk
 ·exact ag_impl_attrsOk
 ·exact ag_impl_kidsOk_1
 ·exact ag_impl_Merge
 ·exact ag_slices_IndexFunc_Node
 ·exact ag_spec_l1Ranges
 ·exact ag_spec_IsSign
 ·exact ag_spec_l5Pre
 ·exact ag_spec_DeclsOk
 ·exact ag_spec_l5AttrOk
 ·exact ag_spec_l5Less
 ·exact ag_spec_l5Bare
 ·exact ag_spec_l5Xml
 ·exact ag_spec_IsBlank
 ·exact ag_impl_SignAt
 ·exact ag_impl_IsStart
 ·exact ag_impl_IsPart
 ·exact ag_impl_signsOk
 ·exact ag_impl_noteOk
 ·exact ag_impl_toldOk
 ·exact ag_impl_attrOk
 ·exact ag_impl_compareAttrs
 ·exact ag_impl_inAny
 ·exact ag_impl_IsSign
 ·exact ag_strings_HasSuffix
 ·exact ag_impl_IsBlank
 ·exact ag_slices_ContainsFunc_A2int
 ·exact ag_impl_inAny_1
 ·exact ag_internal_stringslite_HasSuffix
 ·exact ag_slices_IndexFunc_A2int
theorem sound0 : Sound GG Tryz.prog (dn ⟨FTT, [], []⟩) := den_sound xOf0_sound (by kernel_rfl) FTT_ag
theorem nil_slices_Clone_int (q : Option Addr) (cap : Nat) : dn ⟨FTT, [], []⟩ n_slices_Clone_int [.t (.v (.slice q 0 cap))] = some ⟨[.t (.sl true [])], []⟩ := by
 show dn ⟨FTT, [], []⟩ _ _ = _
 rw [den_ev ⟨FTT, [], []⟩ (fn := k_slices_Clone_int) rfl rfl (Nat.le_of_ble_eq_true rfl)]
 cases q <;> simp only [SS ⟨FTT, [], []⟩, S3, k_slices_Clone_int, Option.isNone, show room 0 8 = some () from by unfold room; rw [if_pos ⟨by simp, by decide⟩], oneM_some, Nat.reduceAdd, Nat.reduceSub, Nat.reduceMul, Nat.reduceLeDiff, Nat.reduceLT, Nat.reduceEqDiff, Nat.reduceBEq, ↓reduceIte, reduceCtorEq] <;> rfl
theorem nil_slices_Clone_Decl (q : Option Addr) (cap : Nat) : dn ⟨FTT, [], []⟩ n_slices_Clone_Decl [.t (.v (.slice q 0 cap))] = some ⟨[.t (.sl true [])], []⟩ := by
 show dn ⟨FTT, [], []⟩ _ _ = _
 rw [den_ev ⟨FTT, [], []⟩ (fn := k_slices_Clone_Decl) rfl rfl (Nat.le_of_ble_eq_true rfl)]
 cases q <;> simp only [SS ⟨FTT, [], []⟩, S3, k_slices_Clone_Decl, Option.isNone, show room 0 32 = some () from by unfold room; rw [if_pos ⟨by simp, by decide⟩], oneM_some, Nat.reduceAdd, Nat.reduceSub, Nat.reduceMul, Nat.reduceLeDiff, Nat.reduceLT, Nat.reduceEqDiff, Nat.reduceBEq, ↓reduceIte, reduceCtorEq] <;> rfl
theorem nil_slices_Clone_Attr (q : Option Addr) (cap : Nat) : dn ⟨FTT, [], []⟩ n_slices_Clone_Attr [.t (.v (.slice q 0 cap))] = some ⟨[.t (.sl true [])], []⟩ := by
 show dn ⟨FTT, [], []⟩ _ _ = _
 rw [den_ev ⟨FTT, [], []⟩ (fn := k_slices_Clone_Attr) rfl rfl (Nat.le_of_ble_eq_true rfl)]
 cases q <;> simp only [SS ⟨FTT, [], []⟩, S3, k_slices_Clone_Attr, Option.isNone, show room 0 64 = some () from by unfold room; rw [if_pos ⟨by simp, by decide⟩], oneM_some, Nat.reduceAdd, Nat.reduceSub, Nat.reduceMul, Nat.reduceLeDiff, Nat.reduceLT, Nat.reduceEqDiff, Nat.reduceBEq, ↓reduceIte, reduceCtorEq] <;> rfl
theorem soundA : Sound GG Tryz.prog (dn FTA) := den_sound (xOf_sound (cloneX_sound sound0 (fun f hf q cap => by
 simp only [FTA, List.contains_cons, List.contains_nil, Bool.or_false, Bool.or_eq_true, beq_iff_eq] at hf
 rcases hf with rfl | rfl | rfl
 ·exact nil_slices_Clone_int q cap
 ·exact nil_slices_Clone_Decl q cap
 ·exact nil_slices_Clone_Attr q cap
)) soundL) (by kernel_rfl) FTT_ag
end TT
