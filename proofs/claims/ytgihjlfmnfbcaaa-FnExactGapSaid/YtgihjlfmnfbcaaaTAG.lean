import Derived.Test.YtgihjlfmnfbcaaaTKK
import Derived.Test.YtgihjlfmnfbcaaaTD25
import Derived.Test.YtgihjlfmnfbcaaaTE
import Derived.Test.YtgihjlfmnfbcaaaProg
import Derived.KernelRfl
namespace TT
open Go Go.Proofs
set_option maxRecDepth 100000
set_option linter.unusedSimpArgs false
set_option linter.unusedVariables false
theorem ag_laws_FnExactGap : agF Try.prog 3 k_laws_FnExactGap = true := by kernel_rfl
theorem ag_laws_szNode : agF Try.prog 4 k_laws_szNode = true := by kernel_rfl
theorem ag_spec_Gap : agF Try.prog 5 k_spec_Gap = true := by kernel_rfl
theorem ag_laws_toNode : agF Try.prog 6 k_laws_toNode = true := by kernel_rfl
theorem ag_impl_Gap : agF Try.prog 7 k_impl_Gap = true := by kernel_rfl
theorem ag_laws_eqNode : agF Try.prog 8 k_laws_eqNode = true := by kernel_rfl
theorem ag_laws_szDeclS : agF Try.prog 9 k_laws_szDeclS = true := by kernel_rfl
theorem ag_laws_szAttrS : agF Try.prog 10 k_laws_szAttrS = true := by kernel_rfl
theorem ag_laws_szNodeS : agF Try.prog 11 k_laws_szNodeS = true := by kernel_rfl
theorem ag_spec_Nodes : agF Try.prog 12 k_spec_Nodes = true := by kernel_rfl
theorem ag_spec_l18Post : agF Try.prog 13 k_spec_l18Post = true := by kernel_rfl
theorem ag_spec_l18Grid : agF Try.prog 14 k_spec_l18Grid = true := by kernel_rfl
theorem ag_spec_l18Keys : agF Try.prog 15 k_spec_l18Keys = true := by kernel_rfl
theorem ag_spec_l18Forest : agF Try.prog 16 k_spec_l18Forest = true := by kernel_rfl
theorem ag_laws_toDeclS : agF Try.prog 17 k_laws_toDeclS = true := by kernel_rfl
theorem ag_laws_toAttrS : agF Try.prog 18 k_laws_toAttrS = true := by kernel_rfl
theorem ag_laws_toNodeS : agF Try.prog 19 k_laws_toNodeS = true := by kernel_rfl
theorem ag_impl_Nodes : agF Try.prog 20 k_impl_Nodes = true := by kernel_rfl
theorem ag_impl_row_put : agF Try.prog 21 k_impl_row_put = true := by kernel_rfl
theorem ag_impl_gaps_count : agF Try.prog 22 k_impl_gaps_count = true := by kernel_rfl
theorem ag_laws_eqDeclS : agF Try.prog 23 k_laws_eqDeclS = true := by kernel_rfl
theorem ag_laws_eqAttrS : agF Try.prog 24 k_laws_eqAttrS = true := by kernel_rfl
theorem ag_laws_eqNodeS : agF Try.prog 25 k_laws_eqNodeS = true := by kernel_rfl
theorem ag_laws_szDecl : agF Try.prog 26 k_laws_szDecl = true := by kernel_rfl
theorem ag_laws_szAttr : agF Try.prog 27 k_laws_szAttr = true := by kernel_rfl
theorem ag_spec_Alone : agF Try.prog 28 k_spec_Alone = true := by kernel_rfl
theorem ag_spec_l18Min : agF Try.prog 29 k_spec_l18Min = true := by kernel_rfl
theorem ag_spec_SameNode : agF Try.prog 30 k_spec_SameNode = true := by kernel_rfl
theorem ag_laws_toDecl : agF Try.prog 31 k_laws_toDecl = true := by kernel_rfl
theorem ag_laws_toAttr : agF Try.prog 32 k_laws_toAttr = true := by kernel_rfl
theorem ag_impl_Alone : agF Try.prog 33 k_impl_Alone = true := by kernel_rfl
theorem ag_impl_gaps_least : agF Try.prog 34 k_impl_gaps_least = true := by kernel_rfl
theorem ag_laws_eqDecl : agF Try.prog 35 k_laws_eqDecl = true := by kernel_rfl
theorem ag_laws_eqAttr : agF Try.prog 36 k_laws_eqAttr = true := by kernel_rfl
theorem ag_spec_l5Copy : agF Try.prog 37 k_spec_l5Copy = true := by kernel_rfl
theorem ag_impl_cloneNode : agF Try.prog 38 k_impl_cloneNode = true := by kernel_rfl
theorem ag_impl_sameAlone : agF Try.prog 39 k_impl_sameAlone = true := by kernel_rfl
theorem ag_spec_l5All : agF Try.prog 40 k_spec_l5All = true := by kernel_rfl
theorem ag_slices_Clone_Decl : agF Try.prog 41 k_slices_Clone_Decl = true := by kernel_rfl
theorem ag_slices_Clone_Attr : agF Try.prog 42 k_slices_Clone_Attr = true := by kernel_rfl
theorem ag_impl_cloneNodes : agF Try.prog 43 k_impl_cloneNodes = true := by kernel_rfl
theorem ag_slices_Equal_Decl : agF Try.prog 44 k_slices_Equal_Decl = true := by kernel_rfl
theorem ag_slices_Equal_Attr : agF Try.prog 45 k_slices_Equal_Attr = true := by kernel_rfl
theorem FTT_ag (f : FuncId) (fn : F) (h : FTT f = some fn) : agF Try.prog f fn = true := by
 unfold FTT at h
 split at h <;> cases h
 ·exact ag_laws_FnExactGap
 ·exact ag_laws_szNode
 ·exact ag_spec_Gap
 ·exact ag_laws_toNode
 ·exact ag_impl_Gap
 ·exact ag_laws_eqNode
 ·exact ag_laws_szDeclS
 ·exact ag_laws_szAttrS
 ·exact ag_laws_szNodeS
 ·exact ag_spec_Nodes
 ·exact ag_spec_l18Post
 ·exact ag_spec_l18Grid
 ·exact ag_spec_l18Keys
 ·exact ag_spec_l18Forest
 ·exact ag_laws_toDeclS
 ·exact ag_laws_toAttrS
 ·exact ag_laws_toNodeS
 ·exact ag_impl_Nodes
 ·exact ag_impl_row_put
 ·exact ag_impl_gaps_count
 ·exact ag_laws_eqDeclS
 ·exact ag_laws_eqAttrS
 ·exact ag_laws_eqNodeS
 ·exact ag_laws_szDecl
 ·exact ag_laws_szAttr
 ·exact ag_spec_Alone
 ·exact ag_spec_l18Min
 ·exact ag_spec_SameNode
 ·exact ag_laws_toDecl
 ·exact ag_laws_toAttr
 ·exact ag_impl_Alone
 ·exact ag_impl_gaps_least
 ·exact ag_laws_eqDecl
 ·exact ag_laws_eqAttr
 ·exact ag_spec_l5Copy
 ·exact ag_impl_cloneNode
 ·exact ag_impl_sameAlone
 ·exact ag_spec_l5All
 ·exact ag_slices_Clone_Decl
 ·exact ag_slices_Clone_Attr
 ·exact ag_impl_cloneNodes
 ·exact ag_slices_Equal_Decl
 ·exact ag_slices_Equal_Attr
abbrev GG : Gt := Gt.triv
theorem sound0 : Sound GG Try.prog (dn ⟨FTT, [], []⟩) := den_sound xOf0_sound (by kernel_rfl) FTT_ag
theorem soundL : ∀ p ∈ FTA.lb, Sound1 GG Try.prog p.1 p.2 := fun p hp => by cases hp
theorem nil_slices_Clone_Decl (q : Option Addr) (cap : Nat) : dn ⟨FTT, [], []⟩ n_slices_Clone_Decl [.t (.v (.slice q 0 cap))] = some ⟨[.t (.sl true [])], []⟩ := by
 show dn ⟨FTT, [], []⟩ _ _ = _
 rw [den_ev ⟨FTT, [], []⟩ (fn := k_slices_Clone_Decl) rfl rfl (Nat.le_of_ble_eq_true rfl)]
 cases q <;> simp only [SS ⟨FTT, [], []⟩, S3, k_slices_Clone_Decl, Option.isNone, show room 0 32 = some () from by unfold room; rw [if_pos ⟨by simp, by decide⟩], oneM_some, Nat.reduceAdd, Nat.reduceSub, Nat.reduceMul, Nat.reduceLeDiff, Nat.reduceLT, Nat.reduceEqDiff, Nat.reduceBEq, ↓reduceIte, reduceCtorEq] <;> rfl
theorem nil_slices_Clone_Attr (q : Option Addr) (cap : Nat) : dn ⟨FTT, [], []⟩ n_slices_Clone_Attr [.t (.v (.slice q 0 cap))] = some ⟨[.t (.sl true [])], []⟩ := by
 show dn ⟨FTT, [], []⟩ _ _ = _
 rw [den_ev ⟨FTT, [], []⟩ (fn := k_slices_Clone_Attr) rfl rfl (Nat.le_of_ble_eq_true rfl)]
 cases q <;> simp only [SS ⟨FTT, [], []⟩, S3, k_slices_Clone_Attr, Option.isNone, show room 0 64 = some () from by unfold room; rw [if_pos ⟨by simp, by decide⟩], oneM_some, Nat.reduceAdd, Nat.reduceSub, Nat.reduceMul, Nat.reduceLeDiff, Nat.reduceLT, Nat.reduceEqDiff, Nat.reduceBEq, ↓reduceIte, reduceCtorEq] <;> rfl
theorem soundA : Sound GG Try.prog (dn FTA) := den_sound (xOf_sound (cloneX_sound sound0 (fun f hf q cap => by
 simp only [FTA, List.contains_cons, List.contains_nil, Bool.or_false, Bool.or_eq_true, beq_iff_eq] at hf
 rcases hf with rfl | rfl
 ·exact nil_slices_Clone_Decl q cap
 ·exact nil_slices_Clone_Attr q cap
)) soundL) (by kernel_rfl) FTT_ag
end TT
