import Derived.Test.YtdpdfjkjlkmjaaaTKK
import Derived.Test.YtdpdfjkjlkmjaaaTD25
import Derived.Test.YtdpdfjkjlkmjaaaTE
import Derived.Test.YtdpdfjkjlkmjaaaProg
import Derived.KernelRfl
namespace TT
open Go Go.Proofs
set_option maxRecDepth 100000
set_option linter.unusedSimpArgs false
set_option linter.unusedVariables false
theorem ag_laws_FnWayRound : agF Try.prog 3 k_laws_FnWayRound = true := by kernel_rfl
theorem ag_laws_big : agF Try.prog 10 k_laws_big = true := by kernel_rfl
theorem ag_spec_DrawSmall : agF Try.prog 11 k_spec_DrawSmall = true := by kernel_rfl
theorem ag_impl_Gap : agF Try.prog 12 k_impl_Gap = true := by kernel_rfl
theorem ag_spec_Gap : agF Try.prog 13 k_spec_Gap = true := by kernel_rfl
theorem ag_spec_Nodes : agF Try.prog 26 k_spec_Nodes = true := by kernel_rfl
theorem ag_impl_Nodes : agF Try.prog 60 k_impl_Nodes = true := by kernel_rfl
theorem ag_impl_Alone : agF Try.prog 61 k_impl_Alone = true := by kernel_rfl
theorem ag_spec_l1New : agF Try.prog 62 k_spec_l1New = true := by kernel_rfl
theorem ag_spec_l1Below : agF Try.prog 63 k_spec_l1Below = true := by kernel_rfl
theorem ag_spec_l18Small : agF Try.prog 64 k_spec_l18Small = true := by kernel_rfl
theorem ag_impl_row_put : agF Try.prog 65 k_impl_row_put = true := by kernel_rfl
theorem ag_impl_gaps_count : agF Try.prog 66 k_impl_gaps_count = true := by kernel_rfl
theorem ag_spec_l18Post : agF Try.prog 67 k_spec_l18Post = true := by kernel_rfl
theorem ag_spec_l18Grid : agF Try.prog 68 k_spec_l18Grid = true := by kernel_rfl
theorem ag_spec_l18Keys : agF Try.prog 69 k_spec_l18Keys = true := by kernel_rfl
theorem ag_spec_l18Forest : agF Try.prog 70 k_spec_l18Forest = true := by kernel_rfl
theorem ag_impl_cloneNode : agF Try.prog 75 k_impl_cloneNode = true := by kernel_rfl
theorem ag_spec_l5Copy : agF Try.prog 77 k_spec_l5Copy = true := by kernel_rfl
theorem ag_impl_sameAlone : agF Try.prog 79 k_impl_sameAlone = true := by kernel_rfl
theorem ag_spec_SameNode : agF Try.prog 86 k_spec_SameNode = true := by kernel_rfl
theorem ag_spec_l1Byte : agF Try.prog 112 k_spec_l1Byte = true := by kernel_rfl
theorem ag_spec_l1Str : agF Try.prog 113 k_spec_l1Str = true := by kernel_rfl
theorem ag_impl_gaps_least : agF Try.prog 114 k_impl_gaps_least = true := by kernel_rfl
theorem ag_spec_Alone : agF Try.prog 115 k_spec_Alone = true := by kernel_rfl
theorem ag_spec_l18Min : agF Try.prog 116 k_spec_l18Min = true := by kernel_rfl
theorem ag_slices_Clone_Decl : agF Try.prog 120 k_slices_Clone_Decl = true := by kernel_rfl
theorem ag_slices_Clone_Attr : agF Try.prog 121 k_slices_Clone_Attr = true := by kernel_rfl
theorem ag_impl_cloneNodes : agF Try.prog 122 k_impl_cloneNodes = true := by kernel_rfl
theorem ag_spec_l5All : agF Try.prog 123 k_spec_l5All = true := by kernel_rfl
theorem ag_slices_Equal_Decl : agF Try.prog 124 k_slices_Equal_Decl = true := by kernel_rfl
theorem ag_slices_Equal_Attr : agF Try.prog 125 k_slices_Equal_Attr = true := by kernel_rfl
theorem FTT_ag (f : FuncId) (fn : F) (h : FTT f = some fn) : agF Try.prog f fn = true := by
 unfold FTT at h
 split at h <;> cases h
 ·exact ag_laws_FnWayRound
 ·exact ag_laws_big
 ·exact ag_spec_DrawSmall
 ·exact ag_impl_Gap
 ·exact ag_spec_Gap
 ·exact ag_spec_Nodes
 ·exact ag_impl_Nodes
 ·exact ag_impl_Alone
 ·exact ag_spec_l1New
 ·exact ag_spec_l1Below
 ·exact ag_spec_l18Small
 ·exact ag_impl_row_put
 ·exact ag_impl_gaps_count
 ·exact ag_spec_l18Post
 ·exact ag_spec_l18Grid
 ·exact ag_spec_l18Keys
 ·exact ag_spec_l18Forest
 ·exact ag_impl_cloneNode
 ·exact ag_spec_l5Copy
 ·exact ag_impl_sameAlone
 ·exact ag_spec_SameNode
 ·exact ag_spec_l1Byte
 ·exact ag_spec_l1Str
 ·exact ag_impl_gaps_least
 ·exact ag_spec_Alone
 ·exact ag_spec_l18Min
 ·exact ag_slices_Clone_Decl
 ·exact ag_slices_Clone_Attr
 ·exact ag_impl_cloneNodes
 ·exact ag_spec_l5All
 ·exact ag_slices_Equal_Decl
 ·exact ag_slices_Equal_Attr
abbrev GG : Gt := Gt.triv
theorem sound0 : Sound GG Try.prog (dn ⟨FTT, [], []⟩) := den_sound xOf0_sound (by kernel_rfl) FTT_ag
theorem soundL : ∀ p ∈ FTA.lb, Sound1 GG Try.prog p.1 p.2 := fun p hp => by cases hp
theorem nil_slices_Clone_Decl (q : Option Addr) (cap : Nat) : dn ⟨FTT, [], []⟩ n_slices_Clone_Decl [.t (.v (.slice q 0 cap))] = some ⟨[.t (.sl true [])], []⟩ := by
 show dn ⟨FTT, [], []⟩ _ _ = _
 rw [den_ev ⟨FTT, [], []⟩ (fn := k_slices_Clone_Decl) rfl rfl (Nat.le_of_ble_eq_true rfl)]
 cases q <;> simp only [SS ⟨FTT, [], []⟩, S3, k_slices_Clone_Decl, Option.isNone, show room 0 32 = some () from by unfold room; rw [if_pos ⟨by simp, by decide⟩], oneM_some, Nat.reduceAdd, Nat.reduceSub, Nat.reduceMul, Nat.reduceLeDiff, Nat.reduceLT, Nat.reduceEqDiff, Nat.reduceBEq, ↓reduceIte, reduceCtorEq] <;> rfl
theorem nil_slices_Clone_Attr (q : Option Addr) (cap : Nat) : dn ⟨FTT, [], []⟩ n_slices_Clone_Attr [.t (.v (.slice q 0 cap))] = some ⟨[.t (.sl true [])], []⟩ := by
 show dn ⟨FTT, [], []⟩ _ _ = _
 rw [den_ev ⟨FTT, [], []⟩ (fn := k_slices_Clone_Attr) rfl rfl (Nat.le_of_ble_eq_true rfl)]
 cases q <;> simp only [SS ⟨FTT, [], []⟩, S3, k_slices_Clone_Attr, Option.isNone, show room 0 64 = some () from by unfold room; rw [if_pos ⟨by simp, by decide⟩], oneM_some, Nat.reduceAdd, Nat.reduceSub, Nat.reduceMul, Nat.reduceLeDiff, Nat.reduceLT, Nat.reduceEqDiff, Nat.reduceBEq, ↓reduceIte, reduceCtorEq] <;> rfl
theorem soundA : Sound GG Try.prog (dn FTA) := den_sound (xOf_sound (cloneX_sound sound0 (fun f hf q cap => by
 simp only [FTA, List.contains_cons, List.contains_nil, Bool.or_false, Bool.or_eq_true, beq_iff_eq] at hf
 rcases hf with rfl | rfl
 ·exact nil_slices_Clone_Decl q cap
 ·exact nil_slices_Clone_Attr q cap
)) soundL) (by kernel_rfl) FTT_ag
end TT
