import Derived.Test.YtabghncdppfllaaTKK
import Derived.Test.YtabghncdppfllaaTD26
import Derived.Test.YtabghncdppfllaaTG2
import Derived.Test.YtabghncdppfllaaProg
import Derived.KernelRfl
namespace TT
open Go Go.Proofs
set_option maxRecDepth 100000
theorem ag_laws_FnExactHolds : agF Try.prog 11 k_laws_FnExactHolds = true := by kernel_rfl
theorem ag_laws_toIntS : agF Try.prog 18 k_laws_toIntS = true := by kernel_rfl
theorem ag_laws_eqIntS : agF Try.prog 20 k_laws_eqIntS = true := by kernel_rfl
theorem ag_laws_szNode : agF Try.prog 26 k_laws_szNode = true := by kernel_rfl
theorem ag_laws_toNode : agF Try.prog 28 k_laws_toNode = true := by kernel_rfl
theorem ag_laws_eqNode : agF Try.prog 30 k_laws_eqNode = true := by kernel_rfl
theorem ag_laws_szNodeS : agF Try.prog 37 k_laws_szNodeS = true := by kernel_rfl
theorem ag_laws_toNodeS : agF Try.prog 39 k_laws_toNodeS = true := by kernel_rfl
theorem ag_laws_eqNodeS : agF Try.prog 41 k_laws_eqNodeS = true := by kernel_rfl
theorem ag_spec_Holds : agF Try.prog 42 k_spec_Holds = true := by kernel_rfl
theorem ag_impl_Holds : agF Try.prog 43 k_impl_Holds = true := by kernel_rfl
theorem ag_laws_eqDeclS : agF Try.prog 44 k_laws_eqDeclS = true := by kernel_rfl
theorem ag_laws_markNode : agF Try.prog 45 k_laws_markNode = true := by kernel_rfl
theorem ag_laws_markIntS : agF Try.prog 46 k_laws_markIntS = true := by kernel_rfl
theorem ag_laws_markDeclS : agF Try.prog 47 k_laws_markDeclS = true := by kernel_rfl
theorem ag_laws_heldDeclS : agF Try.prog 48 k_laws_heldDeclS = true := by kernel_rfl
theorem ag_laws_markNodeS : agF Try.prog 54 k_laws_markNodeS = true := by kernel_rfl
theorem ag_spec_l1In : agF Try.prog 58 k_spec_l1In = true := by kernel_rfl
theorem ag_impl_in : agF Try.prog 59 k_impl_in = true := by kernel_rfl
theorem ag_laws_szDeclS : agF Try.prog 67 k_laws_szDeclS = true := by kernel_rfl
theorem ag_laws_szAttrS : agF Try.prog 68 k_laws_szAttrS = true := by kernel_rfl
theorem ag_laws_toDeclS : agF Try.prog 69 k_laws_toDeclS = true := by kernel_rfl
theorem ag_laws_toAttrS : agF Try.prog 70 k_laws_toAttrS = true := by kernel_rfl
theorem ag_laws_eqAttrS : agF Try.prog 71 k_laws_eqAttrS = true := by kernel_rfl
theorem ag_spec_NodeAt : agF Try.prog 76 k_spec_NodeAt = true := by kernel_rfl
theorem ag_spec_Inner : agF Try.prog 77 k_spec_Inner = true := by kernel_rfl
theorem ag_impl_NodeAt : agF Try.prog 78 k_impl_NodeAt = true := by kernel_rfl
theorem ag_slices_Clone_Decl : agF Try.prog 79 k_slices_Clone_Decl = true := by kernel_rfl
theorem ag_laws_eqDecl : agF Try.prog 80 k_laws_eqDecl = true := by kernel_rfl
theorem ag_laws_markAttrS : agF Try.prog 81 k_laws_markAttrS = true := by kernel_rfl
theorem ag_laws_markText : agF Try.prog 82 k_laws_markText = true := by kernel_rfl
theorem ag_spec_l5Copy : agF Try.prog 83 k_spec_l5Copy = true := by kernel_rfl
theorem ag_impl_cloneNode : agF Try.prog 84 k_impl_cloneNode = true := by kernel_rfl
theorem ag_laws_szDecl : agF Try.prog 98 k_laws_szDecl = true := by kernel_rfl
theorem ag_laws_szAttr : agF Try.prog 99 k_laws_szAttr = true := by kernel_rfl
theorem ag_laws_toDecl : agF Try.prog 100 k_laws_toDecl = true := by kernel_rfl
theorem ag_laws_toAttr : agF Try.prog 101 k_laws_toAttr = true := by kernel_rfl
theorem ag_laws_eqAttr : agF Try.prog 102 k_laws_eqAttr = true := by kernel_rfl
theorem ag_spec_l5All : agF Try.prog 103 k_spec_l5All = true := by kernel_rfl
theorem ag_slices_Clone_Attr : agF Try.prog 104 k_slices_Clone_Attr = true := by kernel_rfl
theorem ag_impl_cloneNodes : agF Try.prog 105 k_impl_cloneNodes = true := by kernel_rfl
theorem FTT_ag (f : FuncId) (fn : F) (h : FTT f = some fn) : agF Try.prog f fn = true := by
  unfold FTT at h
  split at h <;> cases h
  · exact ag_laws_FnExactHolds
  · exact ag_laws_toIntS
  · exact ag_laws_eqIntS
  · exact ag_laws_szNode
  · exact ag_laws_toNode
  · exact ag_laws_eqNode
  · exact ag_laws_szNodeS
  · exact ag_laws_toNodeS
  · exact ag_laws_eqNodeS
  · exact ag_spec_Holds
  · exact ag_impl_Holds
  · exact ag_laws_eqDeclS
  · exact ag_laws_markNode
  · exact ag_laws_markIntS
  · exact ag_laws_markDeclS
  · exact ag_laws_heldDeclS
  · exact ag_laws_markNodeS
  · exact ag_spec_l1In
  · exact ag_impl_in
  · exact ag_laws_szDeclS
  · exact ag_laws_szAttrS
  · exact ag_laws_toDeclS
  · exact ag_laws_toAttrS
  · exact ag_laws_eqAttrS
  · exact ag_spec_NodeAt
  · exact ag_spec_Inner
  · exact ag_impl_NodeAt
  · exact ag_slices_Clone_Decl
  · exact ag_laws_eqDecl
  · exact ag_laws_markAttrS
  · exact ag_laws_markText
  · exact ag_spec_l5Copy
  · exact ag_impl_cloneNode
  · exact ag_laws_szDecl
  · exact ag_laws_szAttr
  · exact ag_laws_toDecl
  · exact ag_laws_toAttr
  · exact ag_laws_eqAttr
  · exact ag_spec_l5All
  · exact ag_slices_Clone_Attr
  · exact ag_impl_cloneNodes
theorem sound0 : Sound Try.prog (den FTT (cloneX [])) := den_sound (fun f args res h => by cases h) (by kernel_rfl) FTT_ag
theorem nil_slices_Clone_Decl (q : Option Addr) (cap : Nat) : den FTT (cloneX []) n_slices_Clone_Decl [.t (.v (.slice q 0 cap))] = some ⟨[.t (.sl true [])], []⟩ := by
  show dn ⟨FTT, []⟩ _ _ = _
  rw [den_ev ⟨FTT, []⟩ (fn := k_slices_Clone_Decl) rfl rfl (Nat.le_of_ble_eq_true rfl)]
  cases q <;> simp only [SS ⟨FTT, []⟩, S3, k_slices_Clone_Decl, Option.isNone, show room 0 32 = some () from by unfold room; rw [if_pos ⟨by simp, by decide⟩], oneM_some, Nat.reduceAdd, Nat.reduceSub, Nat.reduceMul, Nat.reduceLeDiff, Nat.reduceLT, Nat.reduceEqDiff, Nat.reduceBEq, ↓reduceIte, reduceCtorEq] <;> rfl
theorem nil_slices_Clone_Attr (q : Option Addr) (cap : Nat) : den FTT (cloneX []) n_slices_Clone_Attr [.t (.v (.slice q 0 cap))] = some ⟨[.t (.sl true [])], []⟩ := by
  show dn ⟨FTT, []⟩ _ _ = _
  rw [den_ev ⟨FTT, []⟩ (fn := k_slices_Clone_Attr) rfl rfl (Nat.le_of_ble_eq_true rfl)]
  cases q <;> simp only [SS ⟨FTT, []⟩, S3, k_slices_Clone_Attr, Option.isNone, show room 0 64 = some () from by unfold room; rw [if_pos ⟨by simp, by decide⟩], oneM_some, Nat.reduceAdd, Nat.reduceSub, Nat.reduceMul, Nat.reduceLeDiff, Nat.reduceLT, Nat.reduceEqDiff, Nat.reduceBEq, ↓reduceIte, reduceCtorEq] <;> rfl
theorem soundA : Sound Try.prog (dn FTA) := den_sound (cloneX_sound sound0 (fun f hf q cap => by
  simp only [FTA, List.contains_cons, List.contains_nil, Bool.or_false, Bool.or_eq_true, beq_iff_eq] at hf
  rcases hf with rfl | rfl
  · exact nil_slices_Clone_Decl q cap
  · exact nil_slices_Clone_Attr q cap
)) (by kernel_rfl) FTT_ag
end TT
