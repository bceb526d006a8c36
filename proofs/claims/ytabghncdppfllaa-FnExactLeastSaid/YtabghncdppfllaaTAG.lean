import Derived.Test.YtabghncdppfllaaTKK
import Derived.Test.YtabghncdppfllaaTD26
import Derived.Test.YtabghncdppfllaaTG2
import Derived.Test.YtabghncdppfllaaProg
import Derived.KernelRfl
namespace TT
open Go Go.Proofs
set_option maxRecDepth 100000
theorem ag_laws_FnExactLeast : agF Try.prog 7 k_laws_FnExactLeast = true := by kernel_rfl
theorem ag_laws_szNode : agF Try.prog 26 k_laws_szNode = true := by kernel_rfl
theorem ag_laws_toNode : agF Try.prog 28 k_laws_toNode = true := by kernel_rfl
theorem ag_laws_eqNode : agF Try.prog 30 k_laws_eqNode = true := by kernel_rfl
theorem ag_spec_Least : agF Try.prog 31 k_spec_Least = true := by kernel_rfl
theorem ag_impl_Least : agF Try.prog 32 k_impl_Least = true := by kernel_rfl
theorem ag_laws_szNodeS : agF Try.prog 37 k_laws_szNodeS = true := by kernel_rfl
theorem ag_laws_toNodeS : agF Try.prog 39 k_laws_toNodeS = true := by kernel_rfl
theorem ag_laws_eqNodeS : agF Try.prog 41 k_laws_eqNodeS = true := by kernel_rfl
theorem ag_laws_eqDeclS : agF Try.prog 44 k_laws_eqDeclS = true := by kernel_rfl
theorem ag_laws_szDeclS : agF Try.prog 67 k_laws_szDeclS = true := by kernel_rfl
theorem ag_laws_szAttrS : agF Try.prog 68 k_laws_szAttrS = true := by kernel_rfl
theorem ag_laws_toDeclS : agF Try.prog 69 k_laws_toDeclS = true := by kernel_rfl
theorem ag_laws_toAttrS : agF Try.prog 70 k_laws_toAttrS = true := by kernel_rfl
theorem ag_laws_eqAttrS : agF Try.prog 71 k_laws_eqAttrS = true := by kernel_rfl
theorem ag_spec_CountOf : agF Try.prog 72 k_spec_CountOf = true := by kernel_rfl
theorem ag_impl_CountOf : agF Try.prog 73 k_impl_CountOf = true := by kernel_rfl
theorem ag_laws_eqDecl : agF Try.prog 80 k_laws_eqDecl = true := by kernel_rfl
theorem ag_laws_szDecl : agF Try.prog 98 k_laws_szDecl = true := by kernel_rfl
theorem ag_laws_szAttr : agF Try.prog 99 k_laws_szAttr = true := by kernel_rfl
theorem ag_laws_toDecl : agF Try.prog 100 k_laws_toDecl = true := by kernel_rfl
theorem ag_laws_toAttr : agF Try.prog 101 k_laws_toAttr = true := by kernel_rfl
theorem ag_laws_eqAttr : agF Try.prog 102 k_laws_eqAttr = true := by kernel_rfl
theorem FTT_ag (f : FuncId) (fn : F) (h : FTT f = some fn) : agF Try.prog f fn = true := by
  unfold FTT at h
  split at h <;> cases h
  · exact ag_laws_FnExactLeast
  · exact ag_laws_szNode
  · exact ag_laws_toNode
  · exact ag_laws_eqNode
  · exact ag_spec_Least
  · exact ag_impl_Least
  · exact ag_laws_szNodeS
  · exact ag_laws_toNodeS
  · exact ag_laws_eqNodeS
  · exact ag_laws_eqDeclS
  · exact ag_laws_szDeclS
  · exact ag_laws_szAttrS
  · exact ag_laws_toDeclS
  · exact ag_laws_toAttrS
  · exact ag_laws_eqAttrS
  · exact ag_spec_CountOf
  · exact ag_impl_CountOf
  · exact ag_laws_eqDecl
  · exact ag_laws_szDecl
  · exact ag_laws_szAttr
  · exact ag_laws_toDecl
  · exact ag_laws_toAttr
  · exact ag_laws_eqAttr
theorem sound0 : Sound Try.prog (den FTT (cloneX [])) := den_sound (fun f args res h => by cases h) (by kernel_rfl) FTT_ag
theorem soundA : Sound Try.prog (dn FTA) := sound0
end TT
