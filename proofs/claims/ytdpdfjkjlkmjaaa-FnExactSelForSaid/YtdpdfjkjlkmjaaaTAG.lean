import Derived.Test.YtdpdfjkjlkmjaaaTKK
import Derived.Test.YtdpdfjkjlkmjaaaTD26
import Derived.Test.YtdpdfjkjlkmjaaaTG2
import Derived.Test.YtdpdfjkjlkmjaaaProg
import Derived.KernelRfl
namespace TT
open Go Go.Proofs
set_option maxRecDepth 100000
theorem ag_laws_FnExactSelFor : agF Try.prog 8 k_laws_FnExactSelFor = true := by kernel_rfl
theorem ag_impl_NodeAt : agF Try.prog 17 k_impl_NodeAt = true := by kernel_rfl
theorem ag_spec_NodeAt : agF Try.prog 18 k_spec_NodeAt = true := by kernel_rfl
theorem ag_laws_szNode : agF Try.prog 36 k_laws_szNode = true := by kernel_rfl
theorem ag_laws_szNodeS : agF Try.prog 37 k_laws_szNodeS = true := by kernel_rfl
theorem ag_laws_toNode : agF Try.prog 39 k_laws_toNode = true := by kernel_rfl
theorem ag_laws_toIntS : agF Try.prog 40 k_laws_toIntS = true := by kernel_rfl
theorem ag_laws_toNodeS : agF Try.prog 41 k_laws_toNodeS = true := by kernel_rfl
theorem ag_laws_eqNode : agF Try.prog 43 k_laws_eqNode = true := by kernel_rfl
theorem ag_laws_eqIntS : agF Try.prog 44 k_laws_eqIntS = true := by kernel_rfl
theorem ag_laws_eqNodeS : agF Try.prog 45 k_laws_eqNodeS = true := by kernel_rfl
theorem ag_laws_markNode : agF Try.prog 46 k_laws_markNode = true := by kernel_rfl
theorem ag_laws_markIntS : agF Try.prog 47 k_laws_markIntS = true := by kernel_rfl
theorem ag_laws_markNodeS : agF Try.prog 48 k_laws_markNodeS = true := by kernel_rfl
theorem ag_spec_SelFor : agF Try.prog 54 k_spec_SelFor = true := by kernel_rfl
theorem ag_impl_SelFor : agF Try.prog 55 k_impl_SelFor = true := by kernel_rfl
theorem ag_laws_eqSel : agF Try.prog 56 k_laws_eqSel = true := by kernel_rfl
theorem ag_laws_markSel : agF Try.prog 57 k_laws_markSel = true := by kernel_rfl
theorem ag_laws_heldSel : agF Try.prog 58 k_laws_heldSel = true := by kernel_rfl
theorem ag_impl_in : agF Try.prog 74 k_impl_in = true := by kernel_rfl
theorem ag_impl_cloneNode : agF Try.prog 75 k_impl_cloneNode = true := by kernel_rfl
theorem ag_spec_l1In : agF Try.prog 76 k_spec_l1In = true := by kernel_rfl
theorem ag_spec_l5Copy : agF Try.prog 77 k_spec_l5Copy = true := by kernel_rfl
theorem ag_laws_szDeclS : agF Try.prog 87 k_laws_szDeclS = true := by kernel_rfl
theorem ag_laws_szAttrS : agF Try.prog 88 k_laws_szAttrS = true := by kernel_rfl
theorem ag_laws_toDeclS : agF Try.prog 90 k_laws_toDeclS = true := by kernel_rfl
theorem ag_laws_toAttrS : agF Try.prog 91 k_laws_toAttrS = true := by kernel_rfl
theorem ag_laws_eqDeclS : agF Try.prog 95 k_laws_eqDeclS = true := by kernel_rfl
theorem ag_laws_eqAttrS : agF Try.prog 96 k_laws_eqAttrS = true := by kernel_rfl
theorem ag_laws_markDeclS : agF Try.prog 97 k_laws_markDeclS = true := by kernel_rfl
theorem ag_laws_markAttrS : agF Try.prog 98 k_laws_markAttrS = true := by kernel_rfl
theorem ag_laws_markText : agF Try.prog 99 k_laws_markText = true := by kernel_rfl
theorem ag_spec_l19Step : agF Try.prog 106 k_spec_l19Step = true := by kernel_rfl
theorem ag_impl_ofKind : agF Try.prog 107 k_impl_ofKind = true := by kernel_rfl
theorem ag_impl_stepKind : agF Try.prog 108 k_impl_stepKind = true := by kernel_rfl
theorem ag_laws_eqStepS : agF Try.prog 109 k_laws_eqStepS = true := by kernel_rfl
theorem ag_laws_markStepS : agF Try.prog 110 k_laws_markStepS = true := by kernel_rfl
theorem ag_laws_heldStepS : agF Try.prog 111 k_laws_heldStepS = true := by kernel_rfl
theorem ag_slices_Clone_Decl : agF Try.prog 120 k_slices_Clone_Decl = true := by kernel_rfl
theorem ag_slices_Clone_Attr : agF Try.prog 121 k_slices_Clone_Attr = true := by kernel_rfl
theorem ag_impl_cloneNodes : agF Try.prog 122 k_impl_cloneNodes = true := by kernel_rfl
theorem ag_spec_l5All : agF Try.prog 123 k_spec_l5All = true := by kernel_rfl
theorem ag_laws_szDecl : agF Try.prog 132 k_laws_szDecl = true := by kernel_rfl
theorem ag_laws_szAttr : agF Try.prog 133 k_laws_szAttr = true := by kernel_rfl
theorem ag_laws_toDecl : agF Try.prog 134 k_laws_toDecl = true := by kernel_rfl
theorem ag_laws_toAttr : agF Try.prog 135 k_laws_toAttr = true := by kernel_rfl
theorem ag_laws_eqDecl : agF Try.prog 138 k_laws_eqDecl = true := by kernel_rfl
theorem ag_laws_eqAttr : agF Try.prog 139 k_laws_eqAttr = true := by kernel_rfl
theorem ag_laws_eqStep : agF Try.prog 140 k_laws_eqStep = true := by kernel_rfl
theorem ag_laws_markPredS : agF Try.prog 141 k_laws_markPredS = true := by kernel_rfl
theorem ag_laws_heldPredS : agF Try.prog 142 k_laws_heldPredS = true := by kernel_rfl
theorem ag_laws_eqPredS : agF Try.prog 148 k_laws_eqPredS = true := by kernel_rfl
theorem ag_laws_eqPred : agF Try.prog 152 k_laws_eqPred = true := by kernel_rfl
theorem FTT_ag (f : FuncId) (fn : F) (h : FTT f = some fn) : agF Try.prog f fn = true := by
  unfold FTT at h
  split at h <;> cases h
  · exact ag_laws_FnExactSelFor
  · exact ag_impl_NodeAt
  · exact ag_spec_NodeAt
  · exact ag_laws_szNode
  · exact ag_laws_szNodeS
  · exact ag_laws_toNode
  · exact ag_laws_toIntS
  · exact ag_laws_toNodeS
  · exact ag_laws_eqNode
  · exact ag_laws_eqIntS
  · exact ag_laws_eqNodeS
  · exact ag_laws_markNode
  · exact ag_laws_markIntS
  · exact ag_laws_markNodeS
  · exact ag_spec_SelFor
  · exact ag_impl_SelFor
  · exact ag_laws_eqSel
  · exact ag_laws_markSel
  · exact ag_laws_heldSel
  · exact ag_impl_in
  · exact ag_impl_cloneNode
  · exact ag_spec_l1In
  · exact ag_spec_l5Copy
  · exact ag_laws_szDeclS
  · exact ag_laws_szAttrS
  · exact ag_laws_toDeclS
  · exact ag_laws_toAttrS
  · exact ag_laws_eqDeclS
  · exact ag_laws_eqAttrS
  · exact ag_laws_markDeclS
  · exact ag_laws_markAttrS
  · exact ag_laws_markText
  · exact ag_spec_l19Step
  · exact ag_impl_ofKind
  · exact ag_impl_stepKind
  · exact ag_laws_eqStepS
  · exact ag_laws_markStepS
  · exact ag_laws_heldStepS
  · exact ag_slices_Clone_Decl
  · exact ag_slices_Clone_Attr
  · exact ag_impl_cloneNodes
  · exact ag_spec_l5All
  · exact ag_laws_szDecl
  · exact ag_laws_szAttr
  · exact ag_laws_toDecl
  · exact ag_laws_toAttr
  · exact ag_laws_eqDecl
  · exact ag_laws_eqAttr
  · exact ag_laws_eqStep
  · exact ag_laws_markPredS
  · exact ag_laws_heldPredS
  · exact ag_laws_eqPredS
  · exact ag_laws_eqPred
theorem sound0 : Sound Try.prog (den FTT (cloneX [])) := den_sound (fun f args res h => by cases h) (by kernel_rfl) FTT_ag
theorem nil_slices_Clone_Decl (q : Option Addr) (cap : Nat) : den FTT (cloneX []) n_slices_Clone_Decl [.t (.v (.slice q 0 cap))] = some ⟨[.t (.sl true [])], []⟩ := by
  show dn ⟨FTT, []⟩ _ _ = _
  rw [den_ev ⟨FTT, []⟩ (fn := k_slices_Clone_Decl) rfl rfl (Nat.le_of_ble_eq_true rfl)]
  cases q <;> simp only [SS ⟨FTT, []⟩, S3, k_slices_Clone_Decl, Option.isNone, show room 0 32 = some () from by unfold room; rw [if_pos ⟨by simp, by decide⟩], oneM_some, Nat.reduceAdd, Nat.reduceSub, Nat.reduceMul, Nat.reduceLeDiff, Nat.reduceLT, Nat.reduceEqDiff, Nat.reduceBEq, ↓reduceIte, reduceCtorEq] <;> rfl
theorem nil_slices_Clone_Attr (q : Option Addr) (cap : Nat) : den FTT (cloneX []) n_slices_Clone_Attr [.t (.v (.slice q 0 cap))] = some ⟨[.t (.sl true [])], []⟩ := by
  show dn ⟨FTT, []⟩ _ _ = _
  rw [den_ev ⟨FTT, []⟩ (fn := k_slices_Clone_Attr) rfl rfl (Nat.le_of_ble_eq_true rfl)]
  cases q <;> simp only [SS ⟨FTT, []⟩, S3, k_slices_Clone_Attr, Option.isNone, show room 0 64 = some () from by unfold room; rw [if_pos ⟨by simp, by decide⟩], oneM_some, Nat.reduceAdd, Nat.reduceSub, Nat.reduceMul, Nat.reduceLeDiff, Nat.reduceLT, Nat.reduceEqDiff, Nat.reduceBEq, ↓reduceIte, reduceCtorEq] <;> rfl
theorem soundA : Sound Try.prog (dn FTA) := den_sound (cloneX_sound sound0 (fun f hf q cap => by
  simp only [FTA, List.contains_cons, List.contains_nil, Bool.or_false, Bool.or_eq_true, beq_iff_eq] at hf
  rcases hf with rfl | rfl
  · exact nil_slices_Clone_Decl q cap
  · exact nil_slices_Clone_Attr q cap
)) (by kernel_rfl) FTT_ag
end TT
