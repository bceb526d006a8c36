import Derived.Test.YtdpdfjkjlkmjaaaTKK
import Derived.Test.YtdpdfjkjlkmjaaaTD25
import Derived.Test.YtdpdfjkjlkmjaaaTE
import Derived.Test.YtdpdfjkjlkmjaaaProg
import Derived.KernelRfl
namespace TT
open Go Go.Proofs
set_option maxRecDepth 100000
set_option linter.unusedSimpArgs false
set_option linter.unusedVariables false
theorem ag_laws_FnAligns : agF Try.prog 5 k_laws_FnAligns = true := by kernel_rfl
theorem ag_laws_big : agF Try.prog 10 k_laws_big = true := by kernel_rfl
theorem ag_impl_SameNode : agF Try.prog 21 k_impl_SameNode = true := by kernel_rfl
theorem ag_spec_DrawAlign : agF Try.prog 28 k_spec_DrawAlign = true := by kernel_rfl
theorem ag_impl_Align : agF Try.prog 29 k_impl_Align = true := by kernel_rfl
theorem ag_spec_DrawSameName : agF Try.prog 30 k_spec_DrawSameName = true := by kernel_rfl
theorem ag_laws_sameInts : agF Try.prog 31 k_laws_sameInts = true := by kernel_rfl
theorem ag_spec_Align : agF Try.prog 32 k_spec_Align = true := by kernel_rfl
theorem ag_impl_SameName : agF Try.prog 33 k_impl_SameName = true := by kernel_rfl
theorem ag_spec_SameName : agF Try.prog 34 k_spec_SameName = true := by kernel_rfl
theorem ag_impl_Longest : agF Try.prog 35 k_impl_Longest = true := by kernel_rfl
theorem ag_spec_l1New : agF Try.prog 62 k_spec_l1New = true := by kernel_rfl
theorem ag_spec_l1Below : agF Try.prog 63 k_spec_l1Below = true := by kernel_rfl
theorem ag_spec_l5Draw : agF Try.prog 71 k_spec_l5Draw = true := by kernel_rfl
theorem ag_spec_l1In : agF Try.prog 76 k_spec_l1In = true := by kernel_rfl
theorem ag_spec_l5Copy : agF Try.prog 77 k_spec_l5Copy = true := by kernel_rfl
theorem ag_spec_l1Once : agF Try.prog 78 k_spec_l1Once = true := by kernel_rfl
theorem ag_impl_sameAlone : agF Try.prog 79 k_impl_sameAlone = true := by kernel_rfl
theorem ag_slices_EqualFunc_Node : agF Try.prog 80 k_slices_EqualFunc_Node = true := by kernel_rfl
theorem ag_spec_l17List : agF Try.prog 82 k_spec_l17List = true := by kernel_rfl
theorem ag_impl_longest : agF Try.prog 83 k_impl_longest = true := by kernel_rfl
theorem ag_spec_l5El : agF Try.prog 84 k_spec_l5El = true := by kernel_rfl
theorem ag_spec_l17Table : agF Try.prog 85 k_spec_l17Table = true := by kernel_rfl
theorem ag_spec_SameNode : agF Try.prog 86 k_spec_SameNode = true := by kernel_rfl
theorem ag_spec_l1Byte : agF Try.prog 112 k_spec_l1Byte = true := by kernel_rfl
theorem ag_spec_l1Str : agF Try.prog 113 k_spec_l1Str = true := by kernel_rfl
theorem ag_spec_TreeOk : agF Try.prog 117 k_spec_TreeOk = true := by kernel_rfl
theorem ag_spec_l5All : agF Try.prog 123 k_spec_l5All = true := by kernel_rfl
theorem ag_slices_Equal_Decl : agF Try.prog 124 k_slices_Equal_Decl = true := by kernel_rfl
theorem ag_slices_Equal_Attr : agF Try.prog 125 k_slices_Equal_Attr = true := by kernel_rfl
theorem ag_spec_l4Draw : agF Try.prog 126 k_spec_l4Draw = true := by kernel_rfl
theorem ag_spec_Inner : agF Try.prog 127 k_spec_Inner = true := by kernel_rfl
theorem ag_spec_SpaceOf : agF Try.prog 128 k_spec_SpaceOf = true := by kernel_rfl
theorem ag_spec_l5Val : agF Try.prog 129 k_spec_l5Val = true := by kernel_rfl
theorem ag_spec_l5Less : agF Try.prog 130 k_spec_l5Less = true := by kernel_rfl
theorem ag_spec_Merge : agF Try.prog 131 k_spec_Merge = true := by kernel_rfl
theorem ag_spec_NodeOk : agF Try.prog 143 k_spec_NodeOk = true := by kernel_rfl
theorem ag_spec_FitsIn : agF Try.prog 144 k_spec_FitsIn = true := by kernel_rfl
theorem ag_spec_l4Decl : agF Try.prog 146 k_spec_l4Decl = true := by kernel_rfl
theorem ag_spec_CountOf : agF Try.prog 149 k_spec_CountOf = true := by kernel_rfl
theorem ag_spec_l5Kids : agF Try.prog 150 k_spec_l5Kids = true := by kernel_rfl
theorem ag_spec_l4Uri : agF Try.prog 151 k_spec_l4Uri = true := by kernel_rfl
theorem ag_spec_l5One : agF Try.prog 153 k_spec_l5One = true := by kernel_rfl
theorem ag_spec_l5Pre : agF Try.prog 154 k_spec_l5Pre = true := by kernel_rfl
theorem ag_spec_PlainOk : agF Try.prog 155 k_spec_PlainOk = true := by kernel_rfl
theorem ag_spec_TextOk : agF Try.prog 156 k_spec_TextOk = true := by kernel_rfl
theorem ag_spec_DeclsOk : agF Try.prog 157 k_spec_DeclsOk = true := by kernel_rfl
theorem ag_spec_l5AttrOk : agF Try.prog 158 k_spec_l5AttrOk = true := by kernel_rfl
theorem ag_spec_l5Bare : agF Try.prog 159 k_spec_l5Bare = true := by kernel_rfl
theorem ag_spec_l5Has : agF Try.prog 160 k_spec_l5Has = true := by kernel_rfl
theorem ag_spec_l5Xml : agF Try.prog 161 k_spec_l5Xml = true := by kernel_rfl
theorem ag_spec_IsBlank : agF Try.prog 162 k_spec_IsBlank = true := by kernel_rfl
theorem ag_spec_l4Xml : agF Try.prog 163 k_spec_l4Xml = true := by kernel_rfl
theorem ag_spec_SignAt : agF Try.prog 164 k_spec_SignAt = true := by kernel_rfl
theorem ag_spec_IsStart : agF Try.prog 165 k_spec_IsStart = true := by kernel_rfl
theorem ag_spec_IsPart : agF Try.prog 166 k_spec_IsPart = true := by kernel_rfl
theorem ag_spec_l1Signs : agF Try.prog 167 k_spec_l1Signs = true := by kernel_rfl
theorem ag_spec_DeclOk : agF Try.prog 168 k_spec_DeclOk = true := by kernel_rfl
theorem ag_spec_l1Ranges : agF Try.prog 169 k_spec_l1Ranges = true := by kernel_rfl
theorem ag_spec_IsSign : agF Try.prog 170 k_spec_IsSign = true := by kernel_rfl
theorem FTT_ag (f : FuncId) (fn : F) (h : FTT f = some fn) : agF Try.prog f fn = true := by
 unfold FTT at h
 split at h <;> cases h
 ·exact ag_laws_FnAligns
 ·exact ag_laws_big
 ·exact ag_impl_SameNode
 ·exact ag_spec_DrawAlign
 ·exact ag_impl_Align
 ·exact ag_spec_DrawSameName
 ·exact ag_laws_sameInts
 ·exact ag_spec_Align
 ·exact ag_impl_SameName
 ·exact ag_spec_SameName
 ·exact ag_impl_Longest
 ·exact ag_spec_l1New
 ·exact ag_spec_l1Below
 ·exact ag_spec_l5Draw
 ·exact ag_spec_l1In
 ·exact ag_spec_l5Copy
 ·exact ag_spec_l1Once
 ·exact ag_impl_sameAlone
 ·exact ag_slices_EqualFunc_Node
 ·exact ag_spec_l17List
 ·exact ag_impl_longest
 ·exact ag_spec_l5El
 ·exact ag_spec_l17Table
 ·exact ag_spec_SameNode
 ·exact ag_spec_l1Byte
 ·exact ag_spec_l1Str
 ·exact ag_spec_TreeOk
 ·exact ag_spec_l5All
 ·exact ag_slices_Equal_Decl
 ·exact ag_slices_Equal_Attr
 ·exact ag_spec_l4Draw
 ·exact ag_spec_Inner
 ·exact ag_spec_SpaceOf
 ·exact ag_spec_l5Val
 ·exact ag_spec_l5Less
 ·exact ag_spec_Merge
 ·exact ag_spec_NodeOk
 ·exact ag_spec_FitsIn
 ·exact ag_spec_l4Decl
 ·exact ag_spec_CountOf
 ·exact ag_spec_l5Kids
 ·exact ag_spec_l4Uri
 ·exact ag_spec_l5One
 ·exact ag_spec_l5Pre
 ·exact ag_spec_PlainOk
 ·exact ag_spec_TextOk
 ·exact ag_spec_DeclsOk
 ·exact ag_spec_l5AttrOk
 ·exact ag_spec_l5Bare
 ·exact ag_spec_l5Has
 ·exact ag_spec_l5Xml
 ·exact ag_spec_IsBlank
 ·exact ag_spec_l4Xml
 ·exact ag_spec_SignAt
 ·exact ag_spec_IsStart
 ·exact ag_spec_IsPart
 ·exact ag_spec_l1Signs
 ·exact ag_spec_DeclOk
 ·exact ag_spec_l1Ranges
 ·exact ag_spec_IsSign
abbrev GG : Gt := Gt.triv
theorem sound0 : Sound GG Try.prog (dn ⟨FTT, [], []⟩) := den_sound xOf0_sound (by kernel_rfl) FTT_ag
theorem soundL : ∀ p ∈ FTA.lb, Sound1 GG Try.prog p.1 p.2 := fun p hp => by cases hp
theorem soundA : Sound GG Try.prog (dn FTA) := den_sound (xOf_sound (fun f args res h => by simp [FTA, cloneX] at h) soundL) (by kernel_rfl) FTT_ag
end TT
