import Derived.Test.YtabghncdppfllaaTKK
import Derived.Test.YtabghncdppfllaaTD26
import Derived.Test.YtabghncdppfllaaTG2
import Derived.Test.YtabghncdppfllaaProg
import Derived.KernelRfl
namespace TT
open Go Go.Proofs
set_option maxRecDepth 100000
theorem ag_laws_FnExactAlign : agF Try.prog 13 k_laws_FnExactAlign = true := by kernel_rfl
theorem ag_laws_eqIntS : agF Try.prog 20 k_laws_eqIntS = true := by kernel_rfl
theorem ag_laws_szNode : agF Try.prog 26 k_laws_szNode = true := by kernel_rfl
theorem ag_laws_toNode : agF Try.prog 28 k_laws_toNode = true := by kernel_rfl
theorem ag_laws_eqNode : agF Try.prog 30 k_laws_eqNode = true := by kernel_rfl
theorem ag_laws_szNodeS : agF Try.prog 37 k_laws_szNodeS = true := by kernel_rfl
theorem ag_laws_toNodeS : agF Try.prog 39 k_laws_toNodeS = true := by kernel_rfl
theorem ag_laws_eqNodeS : agF Try.prog 41 k_laws_eqNodeS = true := by kernel_rfl
theorem ag_laws_eqDeclS : agF Try.prog 44 k_laws_eqDeclS = true := by kernel_rfl
theorem ag_laws_markIntS : agF Try.prog 46 k_laws_markIntS = true := by kernel_rfl
theorem ag_laws_markDeclS : agF Try.prog 47 k_laws_markDeclS = true := by kernel_rfl
theorem ag_spec_Align : agF Try.prog 52 k_spec_Align = true := by kernel_rfl
theorem ag_impl_Align : agF Try.prog 53 k_impl_Align = true := by kernel_rfl
theorem ag_laws_markNodeS : agF Try.prog 54 k_laws_markNodeS = true := by kernel_rfl
theorem ag_laws_heldIntS : agF Try.prog 55 k_laws_heldIntS = true := by kernel_rfl
theorem ag_laws_szDeclS : agF Try.prog 67 k_laws_szDeclS = true := by kernel_rfl
theorem ag_laws_szAttrS : agF Try.prog 68 k_laws_szAttrS = true := by kernel_rfl
theorem ag_laws_toDeclS : agF Try.prog 69 k_laws_toDeclS = true := by kernel_rfl
theorem ag_laws_toAttrS : agF Try.prog 70 k_laws_toAttrS = true := by kernel_rfl
theorem ag_laws_eqAttrS : agF Try.prog 71 k_laws_eqAttrS = true := by kernel_rfl
theorem ag_spec_l17Table : agF Try.prog 74 k_spec_l17Table = true := by kernel_rfl
theorem ag_impl_longest : agF Try.prog 75 k_impl_longest = true := by kernel_rfl
theorem ag_laws_eqDecl : agF Try.prog 80 k_laws_eqDecl = true := by kernel_rfl
theorem ag_laws_markAttrS : agF Try.prog 81 k_laws_markAttrS = true := by kernel_rfl
theorem ag_laws_markText : agF Try.prog 82 k_laws_markText = true := by kernel_rfl
theorem ag_spec_SameNode : agF Try.prog 87 k_spec_SameNode = true := by kernel_rfl
theorem ag_impl_SameNode : agF Try.prog 88 k_impl_SameNode = true := by kernel_rfl
theorem ag_laws_szDecl : agF Try.prog 98 k_laws_szDecl = true := by kernel_rfl
theorem ag_laws_szAttr : agF Try.prog 99 k_laws_szAttr = true := by kernel_rfl
theorem ag_laws_toDecl : agF Try.prog 100 k_laws_toDecl = true := by kernel_rfl
theorem ag_laws_toAttr : agF Try.prog 101 k_laws_toAttr = true := by kernel_rfl
theorem ag_laws_eqAttr : agF Try.prog 102 k_laws_eqAttr = true := by kernel_rfl
theorem ag_impl_sameAlone : agF Try.prog 106 k_impl_sameAlone = true := by kernel_rfl
theorem ag_slices_EqualFunc_Node : agF Try.prog 107 k_slices_EqualFunc_Node = true := by kernel_rfl
theorem ag_slices_Equal_Decl : agF Try.prog 113 k_slices_Equal_Decl = true := by kernel_rfl
theorem ag_slices_Equal_Attr : agF Try.prog 114 k_slices_Equal_Attr = true := by kernel_rfl
theorem FTT_ag (f : FuncId) (fn : F) (h : FTT f = some fn) : agF Try.prog f fn = true := by
  unfold FTT at h
  split at h <;> cases h
  · exact ag_laws_FnExactAlign
  · exact ag_laws_eqIntS
  · exact ag_laws_szNode
  · exact ag_laws_toNode
  · exact ag_laws_eqNode
  · exact ag_laws_szNodeS
  · exact ag_laws_toNodeS
  · exact ag_laws_eqNodeS
  · exact ag_laws_eqDeclS
  · exact ag_laws_markIntS
  · exact ag_laws_markDeclS
  · exact ag_spec_Align
  · exact ag_impl_Align
  · exact ag_laws_markNodeS
  · exact ag_laws_heldIntS
  · exact ag_laws_szDeclS
  · exact ag_laws_szAttrS
  · exact ag_laws_toDeclS
  · exact ag_laws_toAttrS
  · exact ag_laws_eqAttrS
  · exact ag_spec_l17Table
  · exact ag_impl_longest
  · exact ag_laws_eqDecl
  · exact ag_laws_markAttrS
  · exact ag_laws_markText
  · exact ag_spec_SameNode
  · exact ag_impl_SameNode
  · exact ag_laws_szDecl
  · exact ag_laws_szAttr
  · exact ag_laws_toDecl
  · exact ag_laws_toAttr
  · exact ag_laws_eqAttr
  · exact ag_impl_sameAlone
  · exact ag_slices_EqualFunc_Node
  · exact ag_slices_Equal_Decl
  · exact ag_slices_Equal_Attr
theorem sound0 : Sound Try.prog (den FTT (cloneX [])) := den_sound (fun f args res h => by cases h) (by kernel_rfl) FTT_ag
theorem soundA : Sound Try.prog (dn FTA) := sound0
end TT
