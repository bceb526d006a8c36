import Derived.Test.YtjljocncnibofaaGreatDoorTKK
import Derived.Test.YtjljocncnibofaaGreatDoorTD25
import Derived.Test.YtjljocncnibofaaGreatDoorTE
import Derived.Test.YtjljocncnibofaaGreatDoorProg
import Derived.KernelRfl
import Derived.Test.YtjljocncnibofaaGreatDoorTFnExactRenameLib
import Derived.Test.YtjljocncnibofaaGreatDoorTHX4
namespace TT
open Go Go.Proofs
set_option maxRecDepth 100000
set_option linter.unusedSimpArgs false
set_option linter.unusedVariables false
theorem ag_laws_FnExactRename : agF Tryz.prog 3 k_laws_FnExactRename = true := by kernel_rfl
theorem ag_laws_szNode : agF Tryz.prog 5 k_laws_szNode = true := by kernel_rfl
theorem ag_laws_szDeclS : agF Tryz.prog 6 k_laws_szDeclS = true := by kernel_rfl
theorem ag_spec_Rename : agF Tryz.prog 7 k_spec_Rename = true := by kernel_rfl
theorem ag_laws_toNode : agF Tryz.prog 8 k_laws_toNode = true := by kernel_rfl
theorem ag_laws_toDeclS : agF Tryz.prog 9 k_laws_toDeclS = true := by kernel_rfl
theorem ag_impl_Rename : agF Tryz.prog 10 k_impl_Rename = true := by kernel_rfl
theorem ag_laws_eqNode : agF Tryz.prog 11 k_laws_eqNode = true := by kernel_rfl
theorem ag_laws_eqDeclS : agF Tryz.prog 12 k_laws_eqDeclS = true := by kernel_rfl
theorem ag_laws_markNode : agF Tryz.prog 13 k_laws_markNode = true := by kernel_rfl
theorem ag_laws_markDeclS : agF Tryz.prog 14 k_laws_markDeclS = true := by kernel_rfl
theorem ag_laws_heldNode : agF Tryz.prog 15 k_laws_heldNode = true := by kernel_rfl
theorem ag_laws_szAttrS : agF Tryz.prog 18 k_laws_szAttrS = true := by kernel_rfl
theorem ag_laws_szNodeS : agF Tryz.prog 19 k_laws_szNodeS = true := by kernel_rfl
theorem ag_laws_szDecl : agF Tryz.prog 20 k_laws_szDecl = true := by kernel_rfl
theorem ag_spec_l14Rename : agF Tryz.prog 21 k_spec_l14Rename = true := by kernel_rfl
theorem ag_spec_NodeOk : agF Tryz.prog 22 k_spec_NodeOk = true := by kernel_rfl
theorem ag_spec_l5Copy : agF Tryz.prog 23 k_spec_l5Copy = true := by kernel_rfl
theorem ag_laws_toAttrS : agF Tryz.prog 24 k_laws_toAttrS = true := by kernel_rfl
theorem ag_laws_toNodeS : agF Tryz.prog 25 k_laws_toNodeS = true := by kernel_rfl
theorem ag_laws_toDecl : agF Tryz.prog 26 k_laws_toDecl = true := by kernel_rfl
theorem ag_impl_renamed : agF Tryz.prog 27 k_impl_renamed = true := by kernel_rfl
theorem ag_impl_NodeOk : agF Tryz.prog 28 k_impl_NodeOk = true := by kernel_rfl
theorem ag_impl_cloneNode : agF Tryz.prog 29 k_impl_cloneNode = true := by kernel_rfl
theorem ag_laws_eqAttrS : agF Tryz.prog 30 k_laws_eqAttrS = true := by kernel_rfl
theorem ag_laws_eqNodeS : agF Tryz.prog 31 k_laws_eqNodeS = true := by kernel_rfl
theorem ag_laws_eqDecl : agF Tryz.prog 32 k_laws_eqDecl = true := by kernel_rfl
theorem ag_laws_markAttrS : agF Tryz.prog 33 k_laws_markAttrS = true := by kernel_rfl
theorem ag_laws_markNodeS : agF Tryz.prog 34 k_laws_markNodeS = true := by kernel_rfl
theorem ag_laws_markText : agF Tryz.prog 35 k_laws_markText = true := by kernel_rfl
theorem ag_laws_heldDeclS : agF Tryz.prog 36 k_laws_heldDeclS = true := by kernel_rfl
theorem ag_laws_heldAttrS : agF Tryz.prog 37 k_laws_heldAttrS = true := by kernel_rfl
theorem ag_laws_heldNodeS : agF Tryz.prog 38 k_laws_heldNodeS = true := by kernel_rfl
theorem ag_laws_szAttr : agF Tryz.prog 43 k_laws_szAttr = true := by kernel_rfl
theorem ag_spec_Inner : agF Tryz.prog 44 k_spec_Inner = true := by kernel_rfl
theorem ag_spec_SpaceOf : agF Tryz.prog 45 k_spec_SpaceOf = true := by kernel_rfl
theorem ag_spec_l8Attrs : agF Tryz.prog 46 k_spec_l8Attrs = true := by kernel_rfl
theorem ag_spec_CountOf : agF Tryz.prog 47 k_spec_CountOf = true := by kernel_rfl
theorem ag_spec_l5Kids : agF Tryz.prog 48 k_spec_l5Kids = true := by kernel_rfl
theorem ag_spec_l5All : agF Tryz.prog 49 k_spec_l5All = true := by kernel_rfl
theorem ag_laws_toAttr : agF Tryz.prog 50 k_laws_toAttr = true := by kernel_rfl
theorem ag_impl_Inner : agF Tryz.prog 51 k_impl_Inner = true := by kernel_rfl
theorem ag_slices_SortStableFunc_Attr : agF Tryz.prog 53 k_slices_SortStableFunc_Attr = true := by kernel_rfl
theorem ag_impl_compareAttrs : agF Tryz.prog 54 k_impl_compareAttrs = true := by kernel_rfl
theorem ag_impl_CountOf : agF Tryz.prog 55 k_impl_CountOf = true := by kernel_rfl
theorem ag_impl_partOk : agF Tryz.prog 56 k_impl_partOk = true := by kernel_rfl
theorem ag_impl_ofKind : agF Tryz.prog 57 k_impl_ofKind = true := by kernel_rfl
theorem ag_impl_kidsOk : agF Tryz.prog 58 k_impl_kidsOk = true := by kernel_rfl
theorem ag_slices_Clone_Decl : agF Tryz.prog 59 k_slices_Clone_Decl = true := by kernel_rfl
theorem ag_slices_Clone_Attr : agF Tryz.prog 60 k_slices_Clone_Attr = true := by kernel_rfl
theorem ag_impl_cloneNodes : agF Tryz.prog 61 k_impl_cloneNodes = true := by kernel_rfl
theorem ag_laws_eqAttr : agF Tryz.prog 62 k_laws_eqAttr = true := by kernel_rfl
theorem ag_slices_ContainsFunc_Node : agF Tryz.prog 68 k_slices_ContainsFunc_Node = true := by kernel_rfl
theorem ag_spec_l5Less : agF Tryz.prog 70 k_spec_l5Less = true := by kernel_rfl
theorem ag_spec_l5One : agF Tryz.prog 71 k_spec_l5One = true := by kernel_rfl
theorem ag_slices_stableCmpFunc_Attr : agF Tryz.prog 74 k_slices_stableCmpFunc_Attr = true := by kernel_rfl
theorem ag_impl_leafOk : agF Tryz.prog 76 k_impl_leafOk = true := by kernel_rfl
theorem ag_impl_preOk : agF Tryz.prog 77 k_impl_preOk = true := by kernel_rfl
theorem ag_impl_uriOk : agF Tryz.prog 78 k_impl_uriOk = true := by kernel_rfl
theorem ag_impl_PlainOk : agF Tryz.prog 79 k_impl_PlainOk = true := by kernel_rfl
theorem ag_impl_DeclsOk : agF Tryz.prog 80 k_impl_DeclsOk = true := by kernel_rfl
theorem ag_impl_attrsOk : agF Tryz.prog 81 k_impl_attrsOk = true := by kernel_rfl
theorem ag_impl_noTwoTexts : agF Tryz.prog 82 k_impl_noTwoTexts = true := by kernel_rfl
theorem ag_impl_kidsOk_1 : agF Tryz.prog 83 k_impl_kidsOk_1 = true := by kernel_rfl
theorem ag_slices_IndexFunc_Node : agF Tryz.prog 87 k_slices_IndexFunc_Node = true := by kernel_rfl
theorem ag_spec_l5Pre : agF Tryz.prog 88 k_spec_l5Pre = true := by kernel_rfl
theorem ag_spec_PlainOk : agF Tryz.prog 89 k_spec_PlainOk = true := by kernel_rfl
theorem ag_spec_TextOk : agF Tryz.prog 90 k_spec_TextOk = true := by kernel_rfl
theorem ag_spec_DeclsOk : agF Tryz.prog 91 k_spec_DeclsOk = true := by kernel_rfl
theorem ag_spec_l5AttrOk : agF Tryz.prog 92 k_spec_l5AttrOk = true := by kernel_rfl
theorem ag_spec_l5Bare : agF Tryz.prog 93 k_spec_l5Bare = true := by kernel_rfl
theorem ag_spec_l5Has : agF Tryz.prog 94 k_spec_l5Has = true := by kernel_rfl
theorem ag_spec_l5Xml : agF Tryz.prog 95 k_spec_l5Xml = true := by kernel_rfl
theorem ag_spec_IsBlank : agF Tryz.prog 96 k_spec_IsBlank = true := by kernel_rfl
theorem ag_slices_insertionSortCmpFunc_Attr : agF Tryz.prog 99 k_slices_insertionSortCmpFunc_Attr = true := by kernel_rfl
theorem ag_slices_symMergeCmpFunc_Attr : agF Tryz.prog 100 k_slices_symMergeCmpFunc_Attr = true := by kernel_rfl
theorem ag_impl_TextOk : agF Tryz.prog 102 k_impl_TextOk = true := by kernel_rfl
theorem ag_impl_noteOk : agF Tryz.prog 103 k_impl_noteOk = true := by kernel_rfl
theorem ag_impl_toldOk : agF Tryz.prog 104 k_impl_toldOk = true := by kernel_rfl
theorem ag_strings_HasPrefix : agF Tryz.prog 105 k_strings_HasPrefix = true := by kernel_rfl
theorem ag_impl_SignAt : agF Tryz.prog 106 k_impl_SignAt = true := by kernel_rfl
theorem ag_impl_IsStart : agF Tryz.prog 107 k_impl_IsStart = true := by kernel_rfl
theorem ag_impl_IsPart : agF Tryz.prog 108 k_impl_IsPart = true := by kernel_rfl
theorem ag_impl_in : agF Tryz.prog 109 k_impl_in = true := by kernel_rfl
theorem ag_impl_DeclOk : agF Tryz.prog 110 k_impl_DeclOk = true := by kernel_rfl
theorem ag_impl_attrOk : agF Tryz.prog 111 k_impl_attrOk = true := by kernel_rfl
theorem ag_spec_l4Xml : agF Tryz.prog 114 k_spec_l4Xml = true := by kernel_rfl
theorem ag_spec_l1In : agF Tryz.prog 115 k_spec_l1In = true := by kernel_rfl
theorem ag_spec_SignAt : agF Tryz.prog 116 k_spec_SignAt = true := by kernel_rfl
theorem ag_spec_IsStart : agF Tryz.prog 117 k_spec_IsStart = true := by kernel_rfl
theorem ag_spec_IsPart : agF Tryz.prog 118 k_spec_IsPart = true := by kernel_rfl
theorem ag_spec_l1Signs : agF Tryz.prog 119 k_spec_l1Signs = true := by kernel_rfl
theorem ag_spec_DeclOk : agF Tryz.prog 120 k_spec_DeclOk = true := by kernel_rfl
theorem ag_slices_rotateCmpFunc_Attr : agF Tryz.prog 121 k_slices_rotateCmpFunc_Attr = true := by kernel_rfl
theorem ag_impl_signsOk : agF Tryz.prog 123 k_impl_signsOk = true := by kernel_rfl
theorem ag_strings_HasSuffix : agF Tryz.prog 125 k_strings_HasSuffix = true := by kernel_rfl
theorem ag_impl_IsBlank : agF Tryz.prog 127 k_impl_IsBlank = true := by kernel_rfl
theorem ag_internal_stringslite_HasPrefix : agF Tryz.prog 128 k_internal_stringslite_HasPrefix = true := by kernel_rfl
theorem ag_impl_inAny : agF Tryz.prog 130 k_impl_inAny = true := by kernel_rfl
theorem ag_spec_l1Ranges : agF Tryz.prog 132 k_spec_l1Ranges = true := by kernel_rfl
theorem ag_spec_IsSign : agF Tryz.prog 133 k_spec_IsSign = true := by kernel_rfl
theorem ag_slices_swapRangeCmpFunc_Attr : agF Tryz.prog 134 k_slices_swapRangeCmpFunc_Attr = true := by kernel_rfl
theorem ag_impl_IsSign : agF Tryz.prog 135 k_impl_IsSign = true := by kernel_rfl
theorem ag_internal_stringslite_HasSuffix : agF Tryz.prog 137 k_internal_stringslite_HasSuffix = true := by kernel_rfl
theorem ag_slices_ContainsFunc_A2int : agF Tryz.prog 140 k_slices_ContainsFunc_A2int = true := by kernel_rfl
theorem ag_impl_inAny_1 : agF Tryz.prog 141 k_impl_inAny_1 = true := by kernel_rfl
theorem ag_slices_IndexFunc_A2int : agF Tryz.prog 146 k_slices_IndexFunc_A2int = true := by kernel_rfl
theorem FTT_ag (f : FuncId) (fn : F) (h : FTT f = some fn) : agF Tryz.prog f fn = true := by
 unfold FTT at h
 split at h <;> cases h
 ·exact ag_laws_FnExactRename
 ·exact ag_laws_szNode
 ·exact ag_laws_szDeclS
 ·exact ag_spec_Rename
 ·exact ag_laws_toNode
 ·exact ag_laws_toDeclS
 ·exact ag_impl_Rename
 ·exact ag_laws_eqNode
 ·exact ag_laws_eqDeclS
 ·exact ag_laws_markNode
 ·exact ag_laws_markDeclS
 ·exact ag_laws_heldNode
 ·exact ag_laws_szAttrS
 ·exact ag_laws_szNodeS
 ·exact ag_laws_szDecl
 ·exact ag_spec_l14Rename
 ·exact ag_spec_NodeOk
 ·exact ag_spec_l5Copy
 ·exact ag_laws_toAttrS
 ·exact ag_laws_toNodeS
 ·exact ag_laws_toDecl
 ·exact ag_impl_renamed
 ·exact ag_impl_NodeOk
 ·exact ag_impl_cloneNode
 ·exact ag_laws_eqAttrS
 ·exact ag_laws_eqNodeS
 ·exact ag_laws_eqDecl
 ·exact ag_laws_markAttrS
 ·exact ag_laws_markNodeS
 ·exact ag_laws_markText
 ·exact ag_laws_heldDeclS
 ·exact ag_laws_heldAttrS
 ·exact ag_laws_heldNodeS
 ·exact ag_laws_szAttr
 ·exact ag_spec_Inner
 ·exact ag_spec_SpaceOf
 ·exact ag_spec_l8Attrs
 ·exact ag_spec_CountOf
 ·exact ag_spec_l5Kids
 ·exact ag_spec_l5All
 ·exact ag_laws_toAttr
 ·exact ag_impl_Inner
 ·exact ag_slices_SortStableFunc_Attr
 ·exact ag_impl_compareAttrs
 ·exact ag_impl_CountOf
 ·exact ag_impl_partOk
 ·exact ag_impl_ofKind
 ·exact ag_impl_kidsOk
 ·exact ag_slices_Clone_Decl
 ·exact ag_slices_Clone_Attr
 ·exact ag_impl_cloneNodes
 ·exact ag_laws_eqAttr
 ·exact ag_slices_ContainsFunc_Node
 ·exact ag_spec_l5Less
 ·exact ag_spec_l5One
 ·exact ag_slices_stableCmpFunc_Attr
 ·exact ag_impl_leafOk
 ·exact ag_impl_preOk
 ·exact ag_impl_uriOk
 ·exact ag_impl_PlainOk
 ·exact ag_impl_DeclsOk
 ·exact ag_impl_attrsOk
 ·exact ag_impl_noTwoTexts
 ·exact ag_impl_kidsOk_1
 ·exact ag_slices_IndexFunc_Node
 ·exact ag_spec_l5Pre
 ·exact ag_spec_PlainOk
 ·exact ag_spec_TextOk
 ·exact ag_spec_DeclsOk
 ·exact ag_spec_l5AttrOk
 ·exact ag_spec_l5Bare
 ·exact ag_spec_l5Has
 ·exact ag_spec_l5Xml
 ·exact ag_spec_IsBlank
 ·exact ag_slices_insertionSortCmpFunc_Attr
 ·exact ag_slices_symMergeCmpFunc_Attr
 ·exact ag_impl_TextOk
 ·exact ag_impl_noteOk
 ·exact ag_impl_toldOk
 ·exact ag_strings_HasPrefix
 ·exact ag_impl_SignAt
 ·exact ag_impl_IsStart
 ·exact ag_impl_IsPart
 ·exact ag_impl_in
 ·exact ag_impl_DeclOk
 ·exact ag_impl_attrOk
 ·exact ag_spec_l4Xml
 ·exact ag_spec_l1In
 ·exact ag_spec_SignAt
 ·exact ag_spec_IsStart
 ·exact ag_spec_IsPart
 ·exact ag_spec_l1Signs
 ·exact ag_spec_DeclOk
 ·exact ag_slices_rotateCmpFunc_Attr
 ·exact ag_impl_signsOk
 ·exact ag_strings_HasSuffix
 ·exact ag_impl_IsBlank
 ·exact ag_internal_stringslite_HasPrefix
 ·exact ag_impl_inAny
 ·exact ag_spec_l1Ranges
 ·exact ag_spec_IsSign
 ·exact ag_slices_swapRangeCmpFunc_Attr
 ·exact ag_impl_IsSign
 ·exact ag_internal_stringslite_HasSuffix
 ·exact ag_slices_ContainsFunc_A2int
 ·exact ag_impl_inAny_1
 ·exact ag_slices_IndexFunc_A2int
theorem sound0 : Sound GG Tryz.prog (dn ⟨FTT, [], []⟩) := den_sound xOf0_sound (by kernel_rfl) FTT_ag
theorem nil_slices_Clone_Decl (q : Option Addr) (cap : Nat) : dn ⟨FTT, [], []⟩ n_slices_Clone_Decl [.t (.v (.slice q 0 cap))] = some ⟨[.t (.sl true [])], []⟩ := by
 show dn ⟨FTT, [], []⟩ _ _ = _
 rw [den_ev ⟨FTT, [], []⟩ (fn := k_slices_Clone_Decl) rfl rfl (Nat.le_of_ble_eq_true rfl)]
 cases q <;> simp only [SS ⟨FTT, [], []⟩, S3, k_slices_Clone_Decl, Option.isNone, show room 0 32 = some () from by unfold room; rw [if_pos ⟨by simp, by decide⟩], oneM_some, Nat.reduceAdd, Nat.reduceSub, Nat.reduceMul, Nat.reduceLeDiff, Nat.reduceLT, Nat.reduceEqDiff, Nat.reduceBEq, ↓reduceIte, reduceCtorEq] <;> rfl
theorem nil_slices_Clone_Attr (q : Option Addr) (cap : Nat) : dn ⟨FTT, [], []⟩ n_slices_Clone_Attr [.t (.v (.slice q 0 cap))] = some ⟨[.t (.sl true [])], []⟩ := by
 show dn ⟨FTT, [], []⟩ _ _ = _
 rw [den_ev ⟨FTT, [], []⟩ (fn := k_slices_Clone_Attr) rfl rfl (Nat.le_of_ble_eq_true rfl)]
 cases q <;> simp only [SS ⟨FTT, [], []⟩, S3, k_slices_Clone_Attr, Option.isNone, show room 0 64 = some () from by unfold room; rw [if_pos ⟨by simp, by decide⟩], oneM_some, Nat.reduceAdd, Nat.reduceSub, Nat.reduceMul, Nat.reduceLeDiff, Nat.reduceLT, Nat.reduceEqDiff, Nat.reduceBEq, ↓reduceIte, reduceCtorEq] <;> rfl
theorem soundA : Sound GG Tryz.prog (dn FTA) := den_sound (xOf_sound (cloneX_sound sound0 (fun f hf q cap => by
 simp only [FTA, List.contains_cons, List.contains_nil, Bool.or_false, Bool.or_eq_true, beq_iff_eq] at hf
 rcases hf with rfl | rfl
 ·exact nil_slices_Clone_Decl q cap
 ·exact nil_slices_Clone_Attr q cap
)) soundL) (by kernel_rfl) FTT_ag
end TT
