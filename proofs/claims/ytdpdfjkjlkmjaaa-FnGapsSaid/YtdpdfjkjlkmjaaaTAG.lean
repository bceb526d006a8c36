import Derived.Test.YtdpdfjkjlkmjaaaTKK
import Derived.Test.YtdpdfjkjlkmjaaaTD25
import Derived.Test.YtdpdfjkjlkmjaaaTE
import Derived.Test.YtdpdfjkjlkmjaaaProg
import Derived.KernelRfl
namespace TT
open Go Go.Proofs
set_option maxRecDepth 100000
set_option linter.unusedSimpArgs false
set_option linter.unusedVariables false
theorem ag_laws_FnGaps : agF Try.prog 9 k_laws_FnGaps = true := by kernel_rfl
theorem ag_laws_big : agF Try.prog 10 k_laws_big = true := by kernel_rfl
theorem ag_impl_Gap : agF Try.prog 12 k_impl_Gap = true := by kernel_rfl
theorem ag_spec_Gap : agF Try.prog 13 k_spec_Gap = true := by kernel_rfl
theorem ag_impl_SameNode : agF Try.prog 21 k_impl_SameNode = true := by kernel_rfl
theorem ag_spec_Nodes : agF Try.prog 26 k_spec_Nodes = true := by kernel_rfl
theorem ag_spec_DrawGap : agF Try.prog 59 k_spec_DrawGap = true := by kernel_rfl
theorem ag_impl_Nodes : agF Try.prog 60 k_impl_Nodes = true := by kernel_rfl
theorem ag_impl_Alone : agF Try.prog 61 k_impl_Alone = true := by kernel_rfl
theorem ag_spec_l1New : agF Try.prog 62 k_spec_l1New = true := by kernel_rfl
theorem ag_spec_l1Below : agF Try.prog 63 k_spec_l1Below = true := by kernel_rfl
theorem ag_spec_l18Small : agF Try.prog 64 k_spec_l18Small = true := by kernel_rfl
theorem ag_impl_row_put : agF Try.prog 65 k_impl_row_put = true := by kernel_rfl
theorem ag_impl_gaps_count : agF Try.prog 66 k_impl_gaps_count = true := by kernel_rfl
theorem ag_spec_l18Post : agF Try.prog 67 k_spec_l18Post = true := by kernel_rfl
theorem ag_spec_l18Grid : agF Try.prog 68 k_spec_l18Grid = true := by kernel_rfl
theorem ag_spec_l18Keys : agF Try.prog 69 k_spec_l18Keys = true := by kernel_rfl
theorem ag_spec_l18Forest : agF Try.prog 70 k_spec_l18Forest = true := by kernel_rfl
theorem ag_spec_l5Draw : agF Try.prog 71 k_spec_l5Draw = true := by kernel_rfl
theorem ag_impl_cloneNode : agF Try.prog 75 k_impl_cloneNode = true := by kernel_rfl
theorem ag_spec_l1In : agF Try.prog 76 k_spec_l1In = true := by kernel_rfl
theorem ag_spec_l5Copy : agF Try.prog 77 k_spec_l5Copy = true := by kernel_rfl
theorem ag_spec_l1Once : agF Try.prog 78 k_spec_l1Once = true := by kernel_rfl
theorem ag_impl_sameAlone : agF Try.prog 79 k_impl_sameAlone = true := by kernel_rfl
theorem ag_slices_EqualFunc_Node : agF Try.prog 80 k_slices_EqualFunc_Node = true := by kernel_rfl
theorem ag_spec_l5El : agF Try.prog 84 k_spec_l5El = true := by kernel_rfl
theorem ag_spec_SameNode : agF Try.prog 86 k_spec_SameNode = true := by kernel_rfl
theorem ag_spec_l1Byte : agF Try.prog 112 k_spec_l1Byte = true := by kernel_rfl
theorem ag_spec_l1Str : agF Try.prog 113 k_spec_l1Str = true := by kernel_rfl
theorem ag_impl_gaps_least : agF Try.prog 114 k_impl_gaps_least = true := by kernel_rfl
theorem ag_spec_Alone : agF Try.prog 115 k_spec_Alone = true := by kernel_rfl
theorem ag_spec_l18Min : agF Try.prog 116 k_spec_l18Min = true := by kernel_rfl
theorem ag_spec_TreeOk : agF Try.prog 117 k_spec_TreeOk = true := by kernel_rfl
theorem ag_slices_Clone_Decl : agF Try.prog 120 k_slices_Clone_Decl = true := by kernel_rfl
theorem ag_slices_Clone_Attr : agF Try.prog 121 k_slices_Clone_Attr = true := by kernel_rfl
theorem ag_impl_cloneNodes : agF Try.prog 122 k_impl_cloneNodes = true := by kernel_rfl
theorem ag_spec_l5All : agF Try.prog 123 k_spec_l5All = true := by kernel_rfl
theorem ag_slices_Equal_Decl : agF Try.prog 124 k_slices_Equal_Decl = true := by kernel_rfl
theorem ag_slices_Equal_Attr : agF Try.prog 125 k_slices_Equal_Attr = true := by kernel_rfl
theorem ag_spec_l4Draw : agF Try.prog 126 k_spec_l4Draw = true := by kernel_rfl
theorem ag_spec_Inner : agF Try.prog 127 k_spec_Inner = true := by kernel_rfl
theorem ag_spec_SpaceOf : agF Try.prog 128 k_spec_SpaceOf = true := by kernel_rfl
theorem ag_spec_l5Val : agF Try.prog 129 k_spec_l5Val = true := by kernel_rfl
theorem ag_spec_l5Less : agF Try.prog 130 k_spec_l5Less = true := by kernel_rfl
theorem ag_spec_Merge : agF Try.prog 131 k_spec_Merge = true := by kernel_rfl
theorem ag_spec_NodeOk : agF Try.prog 143 k_spec_NodeOk = true := by kernel_rfl
theorem ag_spec_FitsIn : agF Try.prog 144 k_spec_FitsIn = true := by kernel_rfl
theorem ag_spec_l4Decl : agF Try.prog 146 k_spec_l4Decl = true := by kernel_rfl
theorem ag_spec_CountOf : agF Try.prog 149 k_spec_CountOf = true := by kernel_rfl
theorem ag_spec_l5Kids : agF Try.prog 150 k_spec_l5Kids = true := by kernel_rfl
theorem ag_spec_l4Uri : agF Try.prog 151 k_spec_l4Uri = true := by kernel_rfl
theorem ag_spec_l5One : agF Try.prog 153 k_spec_l5One = true := by kernel_rfl
theorem ag_spec_l5Pre : agF Try.prog 154 k_spec_l5Pre = true := by kernel_rfl
theorem ag_spec_PlainOk : agF Try.prog 155 k_spec_PlainOk = true := by kernel_rfl
theorem ag_spec_TextOk : agF Try.prog 156 k_spec_TextOk = true := by kernel_rfl
theorem ag_spec_DeclsOk : agF Try.prog 157 k_spec_DeclsOk = true := by kernel_rfl
theorem ag_spec_l5AttrOk : agF Try.prog 158 k_spec_l5AttrOk = true := by kernel_rfl
theorem ag_spec_l5Bare : agF Try.prog 159 k_spec_l5Bare = true := by kernel_rfl
theorem ag_spec_l5Has : agF Try.prog 160 k_spec_l5Has = true := by kernel_rfl
theorem ag_spec_l5Xml : agF Try.prog 161 k_spec_l5Xml = true := by kernel_rfl
theorem ag_spec_IsBlank : agF Try.prog 162 k_spec_IsBlank = true := by kernel_rfl
theorem ag_spec_l4Xml : agF Try.prog 163 k_spec_l4Xml = true := by kernel_rfl
theorem ag_spec_SignAt : agF Try.prog 164 k_spec_SignAt = true := by kernel_rfl
theorem ag_spec_IsStart : agF Try.prog 165 k_spec_IsStart = true := by kernel_rfl
theorem ag_spec_IsPart : agF Try.prog 166 k_spec_IsPart = true := by kernel_rfl
theorem ag_spec_l1Signs : agF Try.prog 167 k_spec_l1Signs = true := by kernel_rfl
theorem ag_spec_DeclOk : agF Try.prog 168 k_spec_DeclOk = true := by kernel_rfl
theorem ag_spec_l1Ranges : agF Try.prog 169 k_spec_l1Ranges = true := by kernel_rfl
theorem ag_spec_IsSign : agF Try.prog 170 k_spec_IsSign = true := by kernel_rfl
theorem FTT_ag (f : FuncId) (fn : F) (h : FTT f = some fn) : agF Try.prog f fn = true := by
 unfold FTT at h
 split at h <;> cases h
 ·exact ag_laws_FnGaps
 ·exact ag_laws_big
 ·exact ag_impl_Gap
 ·exact ag_spec_Gap
 ·exact ag_impl_SameNode
 ·exact ag_spec_Nodes
 ·exact ag_spec_DrawGap
 ·exact ag_impl_Nodes
 ·exact ag_impl_Alone
 ·exact ag_spec_l1New
 ·exact ag_spec_l1Below
 ·exact ag_spec_l18Small
 ·exact ag_impl_row_put
 ·exact ag_impl_gaps_count
 ·exact ag_spec_l18Post
 ·exact ag_spec_l18Grid
 ·exact ag_spec_l18Keys
 ·exact ag_spec_l18Forest
 ·exact ag_spec_l5Draw
 ·exact ag_impl_cloneNode
 ·exact ag_spec_l1In
 ·exact ag_spec_l5Copy
 ·exact ag_spec_l1Once
 ·exact ag_impl_sameAlone
 ·exact ag_slices_EqualFunc_Node
 ·exact ag_spec_l5El
 ·exact ag_spec_SameNode
 ·exact ag_spec_l1Byte
 ·exact ag_spec_l1Str
 ·exact ag_impl_gaps_least
 ·exact ag_spec_Alone
 ·exact ag_spec_l18Min
 ·exact ag_spec_TreeOk
 ·exact ag_slices_Clone_Decl
 ·exact ag_slices_Clone_Attr
 ·exact ag_impl_cloneNodes
 ·exact ag_spec_l5All
 ·exact ag_slices_Equal_Decl
 ·exact ag_slices_Equal_Attr
 ·exact ag_spec_l4Draw
 ·exact ag_spec_Inner
 ·exact ag_spec_SpaceOf
 ·exact ag_spec_l5Val
 ·exact ag_spec_l5Less
 ·exact ag_spec_Merge
 ·exact ag_spec_NodeOk
 ·exact ag_spec_FitsIn
 ·exact ag_spec_l4Decl
 ·exact ag_spec_CountOf
 ·exact ag_spec_l5Kids
 ·exact ag_spec_l4Uri
 ·exact ag_spec_l5One
 ·exact ag_spec_l5Pre
 ·exact ag_spec_PlainOk
 ·exact ag_spec_TextOk
 ·exact ag_spec_DeclsOk
 ·exact ag_spec_l5AttrOk
 ·exact ag_spec_l5Bare
 ·exact ag_spec_l5Has
 ·exact ag_spec_l5Xml
 ·exact ag_spec_IsBlank
 ·exact ag_spec_l4Xml
 ·exact ag_spec_SignAt
 ·exact ag_spec_IsStart
 ·exact ag_spec_IsPart
 ·exact ag_spec_l1Signs
 ·exact ag_spec_DeclOk
 ·exact ag_spec_l1Ranges
 ·exact ag_spec_IsSign
abbrev GG : Gt := Gt.triv
theorem sound0 : Sound GG Try.prog (dn ⟨FTT, [], []⟩) := den_sound xOf0_sound (by kernel_rfl) FTT_ag
theorem soundL : ∀ p ∈ FTA.lb, Sound1 GG Try.prog p.1 p.2 := fun p hp => by cases hp
theorem nil_slices_Clone_Decl (q : Option Addr) (cap : Nat) : dn ⟨FTT, [], []⟩ n_slices_Clone_Decl [.t (.v (.slice q 0 cap))] = some ⟨[.t (.sl true [])], []⟩ := by
 show dn ⟨FTT, [], []⟩ _ _ = _
 rw [den_ev ⟨FTT, [], []⟩ (fn := k_slices_Clone_Decl) rfl rfl (Nat.le_of_ble_eq_true rfl)]
 cases q <;> simp only [SS ⟨FTT, [], []⟩, S3, k_slices_Clone_Decl, Option.isNone, show room 0 32 = some () from by unfold room; rw [if_pos ⟨by simp, by decide⟩], oneM_some, Nat.reduceAdd, Nat.reduceSub, Nat.reduceMul, Nat.reduceLeDiff, Nat.reduceLT, Nat.reduceEqDiff, Nat.reduceBEq, ↓reduceIte, reduceCtorEq] <;> rfl
theorem nil_slices_Clone_Attr (q : Option Addr) (cap : Nat) : dn ⟨FTT, [], []⟩ n_slices_Clone_Attr [.t (.v (.slice q 0 cap))] = some ⟨[.t (.sl true [])], []⟩ := by
 show dn ⟨FTT, [], []⟩ _ _ = _
 rw [den_ev ⟨FTT, [], []⟩ (fn := k_slices_Clone_Attr) rfl rfl (Nat.le_of_ble_eq_true rfl)]
 cases q <;> simp only [SS ⟨FTT, [], []⟩, S3, k_slices_Clone_Attr, Option.isNone, show room 0 64 = some () from by unfold room; rw [if_pos ⟨by simp, by decide⟩], oneM_some, Nat.reduceAdd, Nat.reduceSub, Nat.reduceMul, Nat.reduceLeDiff, Nat.reduceLT, Nat.reduceEqDiff, Nat.reduceBEq, ↓reduceIte, reduceCtorEq] <;> rfl
theorem soundA : Sound GG Try.prog (dn FTA) := den_sound (xOf_sound (cloneX_sound sound0 (fun f hf q cap => by
 simp only [FTA, List.contains_cons, List.contains_nil, Bool.or_false, Bool.or_eq_true, beq_iff_eq] at hf
 rcases hf with rfl | rfl
 ·exact nil_slices_Clone_Decl q cap
 ·exact nil_slices_Clone_Attr q cap
)) soundL) (by kernel_rfl) FTT_ag
end TT
