import Derived.Test.YtdpdfjkjlkmjaaaTKK
import Derived.Test.YtdpdfjkjlkmjaaaTD25
import Derived.Test.YtdpdfjkjlkmjaaaTE
import Derived.Test.YtdpdfjkjlkmjaaaProg
import Derived.KernelRfl
import Derived.Test.YtdpdfjkjlkmjaaaTFnExactPutAtLib
import Derived.Test.YtdpdfjkjlkmjaaaTHX4
namespace TT
open Go Go.Proofs
set_option maxRecDepth 100000
set_option linter.unusedSimpArgs false
set_option linter.unusedVariables false
theorem ag_laws_FnExactPutAt : agF Try.prog 6 k_laws_FnExactPutAt = true := by kernel_rfl
theorem ag_impl_NodeAt : agF Try.prog 17 k_impl_NodeAt = true := by kernel_rfl
theorem ag_spec_NodeAt : agF Try.prog 18 k_spec_NodeAt = true := by kernel_rfl
theorem ag_laws_szNode : agF Try.prog 36 k_laws_szNode = true := by kernel_rfl
theorem ag_laws_szNodeS : agF Try.prog 37 k_laws_szNodeS = true := by kernel_rfl
theorem ag_spec_PutAt : agF Try.prog 38 k_spec_PutAt = true := by kernel_rfl
theorem ag_laws_toNode : agF Try.prog 39 k_laws_toNode = true := by kernel_rfl
theorem ag_laws_toIntS : agF Try.prog 40 k_laws_toIntS = true := by kernel_rfl
theorem ag_laws_toNodeS : agF Try.prog 41 k_laws_toNodeS = true := by kernel_rfl
theorem ag_impl_PutAt : agF Try.prog 42 k_impl_PutAt = true := by kernel_rfl
theorem ag_laws_eqNode : agF Try.prog 43 k_laws_eqNode = true := by kernel_rfl
theorem ag_laws_eqIntS : agF Try.prog 44 k_laws_eqIntS = true := by kernel_rfl
theorem ag_laws_eqNodeS : agF Try.prog 45 k_laws_eqNodeS = true := by kernel_rfl
theorem ag_laws_markNode : agF Try.prog 46 k_laws_markNode = true := by kernel_rfl
theorem ag_laws_markIntS : agF Try.prog 47 k_laws_markIntS = true := by kernel_rfl
theorem ag_laws_markNodeS : agF Try.prog 48 k_laws_markNodeS = true := by kernel_rfl
theorem ag_laws_heldNode : agF Try.prog 49 k_laws_heldNode = true := by kernel_rfl
theorem ag_impl_in : agF Try.prog 74 k_impl_in = true := by kernel_rfl
theorem ag_impl_cloneNode : agF Try.prog 75 k_impl_cloneNode = true := by kernel_rfl
theorem ag_spec_l1In : agF Try.prog 76 k_spec_l1In = true := by kernel_rfl
theorem ag_spec_l5Copy : agF Try.prog 77 k_spec_l5Copy = true := by kernel_rfl
theorem ag_laws_szDeclS : agF Try.prog 87 k_laws_szDeclS = true := by kernel_rfl
theorem ag_laws_szAttrS : agF Try.prog 88 k_laws_szAttrS = true := by kernel_rfl
theorem ag_spec_l10Turn : agF Try.prog 89 k_spec_l10Turn = true := by kernel_rfl
theorem ag_laws_toDeclS : agF Try.prog 90 k_laws_toDeclS = true := by kernel_rfl
theorem ag_laws_toAttrS : agF Try.prog 91 k_laws_toAttrS = true := by kernel_rfl
theorem ag_impl_turnedAt : agF Try.prog 92 k_impl_turnedAt = true := by kernel_rfl
theorem ag_impl_PutAt_1 : agF Try.prog 93 k_impl_PutAt_1 = true := by kernel_rfl
theorem ag_impl_spliced : agF Try.prog 94 k_impl_spliced = true := by kernel_rfl
theorem ag_laws_eqDeclS : agF Try.prog 95 k_laws_eqDeclS = true := by kernel_rfl
theorem ag_laws_eqAttrS : agF Try.prog 96 k_laws_eqAttrS = true := by kernel_rfl
theorem ag_laws_markDeclS : agF Try.prog 97 k_laws_markDeclS = true := by kernel_rfl
theorem ag_laws_markAttrS : agF Try.prog 98 k_laws_markAttrS = true := by kernel_rfl
theorem ag_laws_markText : agF Try.prog 99 k_laws_markText = true := by kernel_rfl
theorem ag_laws_heldDeclS : agF Try.prog 100 k_laws_heldDeclS = true := by kernel_rfl
theorem ag_laws_heldAttrS : agF Try.prog 101 k_laws_heldAttrS = true := by kernel_rfl
theorem ag_laws_heldNodeS : agF Try.prog 102 k_laws_heldNodeS = true := by kernel_rfl
theorem ag_slices_Clone_Decl : agF Try.prog 120 k_slices_Clone_Decl = true := by kernel_rfl
theorem ag_slices_Clone_Attr : agF Try.prog 121 k_slices_Clone_Attr = true := by kernel_rfl
theorem ag_impl_cloneNodes : agF Try.prog 122 k_impl_cloneNodes = true := by kernel_rfl
theorem ag_spec_l5All : agF Try.prog 123 k_spec_l5All = true := by kernel_rfl
theorem ag_spec_Merge : agF Try.prog 131 k_spec_Merge = true := by kernel_rfl
theorem ag_laws_szDecl : agF Try.prog 132 k_laws_szDecl = true := by kernel_rfl
theorem ag_laws_szAttr : agF Try.prog 133 k_laws_szAttr = true := by kernel_rfl
theorem ag_laws_toDecl : agF Try.prog 134 k_laws_toDecl = true := by kernel_rfl
theorem ag_laws_toAttr : agF Try.prog 135 k_laws_toAttr = true := by kernel_rfl
theorem ag_impl_Merge : agF Try.prog 136 k_impl_Merge = true := by kernel_rfl
theorem ag_laws_eqDecl : agF Try.prog 138 k_laws_eqDecl = true := by kernel_rfl
theorem ag_laws_eqAttr : agF Try.prog 139 k_laws_eqAttr = true := by kernel_rfl
theorem FTT_ag (f : FuncId) (fn : F) (h : FTT f = some fn) : agF Try.prog f fn = true := by
 unfold FTT at h
 split at h <;> cases h
 ·exact ag_laws_FnExactPutAt
 ·exact ag_impl_NodeAt
 ·exact ag_spec_NodeAt
 ·exact ag_laws_szNode
 ·exact ag_laws_szNodeS
 ·exact ag_spec_PutAt
 ·exact ag_laws_toNode
 ·exact ag_laws_toIntS
 ·exact ag_laws_toNodeS
 ·exact ag_impl_PutAt
 ·exact ag_laws_eqNode
 ·exact ag_laws_eqIntS
 ·exact ag_laws_eqNodeS
 ·exact ag_laws_markNode
 ·exact ag_laws_markIntS
 ·exact ag_laws_markNodeS
 ·exact ag_laws_heldNode
 ·exact ag_impl_in
 ·exact ag_impl_cloneNode
 ·exact ag_spec_l1In
 ·exact ag_spec_l5Copy
 ·exact ag_laws_szDeclS
 ·exact ag_laws_szAttrS
 ·exact ag_spec_l10Turn
 ·exact ag_laws_toDeclS
 ·exact ag_laws_toAttrS
 ·exact ag_impl_turnedAt
 ·exact ag_impl_PutAt_1
 ·exact ag_impl_spliced
 ·exact ag_laws_eqDeclS
 ·exact ag_laws_eqAttrS
 ·exact ag_laws_markDeclS
 ·exact ag_laws_markAttrS
 ·exact ag_laws_markText
 ·exact ag_laws_heldDeclS
 ·exact ag_laws_heldAttrS
 ·exact ag_laws_heldNodeS
 ·exact ag_slices_Clone_Decl
 ·exact ag_slices_Clone_Attr
 ·exact ag_impl_cloneNodes
 ·exact ag_spec_l5All
 ·exact ag_spec_Merge
 ·exact ag_laws_szDecl
 ·exact ag_laws_szAttr
 ·exact ag_laws_toDecl
 ·exact ag_laws_toAttr
 ·exact ag_impl_Merge
 ·exact ag_laws_eqDecl
 ·exact ag_laws_eqAttr
theorem sound0 : Sound GG Try.prog (dn ⟨FTT, [], []⟩) := den_sound xOf0_sound (by kernel_rfl) FTT_ag
theorem nil_slices_Clone_Decl (q : Option Addr) (cap : Nat) : dn ⟨FTT, [], []⟩ n_slices_Clone_Decl [.t (.v (.slice q 0 cap))] = some ⟨[.t (.sl true [])], []⟩ := by
 show dn ⟨FTT, [], []⟩ _ _ = _
 rw [den_ev ⟨FTT, [], []⟩ (fn := k_slices_Clone_Decl) rfl rfl (Nat.le_of_ble_eq_true rfl)]
 cases q <;> simp only [SS ⟨FTT, [], []⟩, S3, k_slices_Clone_Decl, Option.isNone, show room 0 32 = some () from by unfold room; rw [if_pos ⟨by simp, by decide⟩], oneM_some, Nat.reduceAdd, Nat.reduceSub, Nat.reduceMul, Nat.reduceLeDiff, Nat.reduceLT, Nat.reduceEqDiff, Nat.reduceBEq, ↓reduceIte, reduceCtorEq] <;> rfl
theorem nil_slices_Clone_Attr (q : Option Addr) (cap : Nat) : dn ⟨FTT, [], []⟩ n_slices_Clone_Attr [.t (.v (.slice q 0 cap))] = some ⟨[.t (.sl true [])], []⟩ := by
 show dn ⟨FTT, [], []⟩ _ _ = _
 rw [den_ev ⟨FTT, [], []⟩ (fn := k_slices_Clone_Attr) rfl rfl (Nat.le_of_ble_eq_true rfl)]
 cases q <;> simp only [SS ⟨FTT, [], []⟩, S3, k_slices_Clone_Attr, Option.isNone, show room 0 64 = some () from by unfold room; rw [if_pos ⟨by simp, by decide⟩], oneM_some, Nat.reduceAdd, Nat.reduceSub, Nat.reduceMul, Nat.reduceLeDiff, Nat.reduceLT, Nat.reduceEqDiff, Nat.reduceBEq, ↓reduceIte, reduceCtorEq] <;> rfl
theorem soundA : Sound GG Try.prog (dn FTA) := den_sound (xOf_sound (cloneX_sound sound0 (fun f hf q cap => by
 simp only [FTA, List.contains_cons, List.contains_nil, Bool.or_false, Bool.or_eq_true, beq_iff_eq] at hf
 rcases hf with rfl | rfl
 ·exact nil_slices_Clone_Decl q cap
 ·exact nil_slices_Clone_Attr q cap
)) soundL) (by kernel_rfl) FTT_ag
end TT
