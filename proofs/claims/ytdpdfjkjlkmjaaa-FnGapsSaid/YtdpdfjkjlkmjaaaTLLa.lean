import Derived.Test.YtdpdfjkjlkmjaaaTKK
import Derived.Test.YtdpdfjkjlkmjaaaTDefs
set_option maxHeartbeats 2000000
set_option linter.unusedVariables false
set_option linter.unusedSimpArgs false
set_option linter.defProp false
set_option maxRecDepth 100000
namespace TT
open Go
open Nat (reduceAdd reduceSub reduceMul reduceLeDiff reduceLT reduceEqDiff)
def e_laws_big (r : Bool) : Res := ⟨[.t (.v (.bool r))], []⟩
def c_laws_big : Cx := ⟨1, [0], [.tmp 2]⟩
def e_spec_l1New (r : Gl1Cur) : Res := ⟨[.box [.sl false (r.xb.map (rK .u8)), .v (.int .i64 r.xi), .v (.int .i64 r.xh)]], []⟩
def c_spec_l1New : Cx := ⟨1, [0], [.tmp 2]⟩
def e_spec_l1Byte (r : Int × Gl1Cur) : Res := ⟨[.t (.v (.int .i64 r.1))], [some [[.sl false (r.2.xb.map (rK .u8)), .v (.int .i64 r.2.xi), .v (.int .i64 r.2.xh)]]]⟩
def c_spec_l1Byte : Cx := ⟨1, [1], [.tmp 2]⟩
def e_spec_l1Below (r : Int × Gl1Cur) : Res := ⟨[.t (.v (.int .i64 r.1))], [some [[.sl false (r.2.xb.map (rK .u8)), .v (.int .i64 r.2.xi), .v (.int .i64 r.2.xh)]]]⟩
def c_spec_l1Below : Cx := ⟨2, [1, 0], [.tmp 4]⟩
def e_spec_l1Str (r : ByteArray × Gl1Cur) : Res := ⟨[.t (.v (.string r.1))], [some [[.sl false (r.2.xb.map (rK .u8)), .v (.int .i64 r.2.xi), .v (.int .i64 r.2.xh)]]]⟩
def c_spec_l1Str : Cx := ⟨2, [1, 0], [.tmp 4]⟩
def e_spec_l18Small (r : GNode × Gl1Cur × Int) : Res := ⟨[.agg [.v (.int .i64 r.1.Kind), .v (.string r.1.Pre), .v (.string r.1.Local), .v (.string r.1.Uri), .sl true (r.1.Decls.map GDecl.row), .sl true (r.1.Attrs.map GAttr.row), .sl true (r.1.Kids.map (GNode.row true)), .v (.string r.1.Text)]], [some [[.sl false (r.2.1.xb.map (rK .u8)), .v (.int .i64 r.2.1.xi), .v (.int .i64 r.2.1.xh)]], some [[.v (.int .i64 r.2.2)]]]⟩
def c_spec_l18Small : Cx := ⟨2, [1, 1], [.cell 4 8 true]⟩
def e_spec_l1Once (r : Bool × Gl1Cur) : Res := ⟨[.t (.v (.bool r.1))], [some [[.sl false (r.2.xb.map (rK .u8)), .v (.int .i64 r.2.xi), .v (.int .i64 r.2.xh)]]]⟩
def c_spec_l1Once : Cx := ⟨2, [1, 0], [.tmp 4]⟩
def e_spec_l4Uri (r : ByteArray × Gl1Cur) : Res := ⟨[.t (.v (.string r.1))], [some [[.sl false (r.2.xb.map (rK .u8)), .v (.int .i64 r.2.xi), .v (.int .i64 r.2.xh)]]]⟩
def c_spec_l4Uri : Cx := ⟨1, [1], [.tmp 2]⟩
def e_spec_l4Decl (r : GDecl × Gl1Cur) : Res := ⟨[.agg [.v (.string r.1.Pre), .v (.string r.1.Uri)]], [some [[.sl false (r.2.xb.map (rK .u8)), .v (.int .i64 r.2.xi), .v (.int .i64 r.2.xh)]]]⟩
def c_spec_l4Decl : Cx := ⟨1, [1], [.cell 2 2 true]⟩
def e_spec_l4Draw (r : List GDecl × Gl1Cur) : Res := ⟨[.t (.sl true (r.1.map GDecl.row))], [some [[.sl false (r.2.xb.map (rK .u8)), .v (.int .i64 r.2.xi), .v (.int .i64 r.2.xh)]]]⟩
def c_spec_l4Draw : Cx := ⟨1, [1], [.tmp 2]⟩
def e_spec_Inner (r : List GDecl) : Res := ⟨[.t (.sl true (r.map GDecl.row))], []⟩
def c_spec_Inner : Cx := ⟨2, [0, 0], [.tmp 4]⟩
def e_spec_SpaceOf (r : ByteArray × Bool) : Res := ⟨[.t (.v (.string r.1)), .t (.v (.bool r.2))], []⟩
def c_spec_SpaceOf : Cx := ⟨2, [0, 0], [.tmp 4, .tmp 5]⟩
def e_spec_l5Val (r : ByteArray × Gl1Cur) : Res := ⟨[.t (.v (.string r.1))], [some [[.sl false (r.2.xb.map (rK .u8)), .v (.int .i64 r.2.xi), .v (.int .i64 r.2.xh)]]]⟩
def c_spec_l5Val : Cx := ⟨1, [1], [.tmp 2]⟩
def e_spec_l5Less (r : Bool) : Res := ⟨[.t (.v (.bool r))], []⟩
def c_spec_l5Less : Cx := ⟨2, [0, 0], [.tmp 4]⟩
def e_spec_l5All (r : List GNode) : Res := ⟨[.t (.sl true (r.map (GNode.row true)))], []⟩
def c_spec_l5All : Cx := ⟨1, [0], [.tmp 2]⟩
def e_spec_l5Copy (r : GNode) : Res := ⟨[.agg [.v (.int .i64 r.Kind), .v (.string r.Pre), .v (.string r.Local), .v (.string r.Uri), .sl true (r.Decls.map GDecl.row), .sl true (r.Attrs.map GAttr.row), .sl true (r.Kids.map (GNode.row true)), .v (.string r.Text)]], []⟩
def c_spec_l5Copy : Cx := ⟨1, [0], [.cell 2 8 true]⟩
def e_spec_Merge (r : List GNode) : Res := ⟨[.t (.sl true (r.map (GNode.row true)))], []⟩
def c_spec_Merge : Cx := ⟨1, [0], [.tmp 2]⟩
def e_spec_l5El (r : GNode × Gl1Cur × Int) : Res := ⟨[.agg [.v (.int .i64 r.1.Kind), .v (.string r.1.Pre), .v (.string r.1.Local), .v (.string r.1.Uri), .sl true (r.1.Decls.map GDecl.row), .sl true (r.1.Attrs.map GAttr.row), .sl true (r.1.Kids.map (GNode.row true)), .v (.string r.1.Text)]], [some [[.sl false (r.2.1.xb.map (rK .u8)), .v (.int .i64 r.2.1.xi), .v (.int .i64 r.2.1.xh)]], some [[.v (.int .i64 r.2.2)]]]⟩
def c_spec_l5El : Cx := ⟨3, [1, 0, 1], [.cell 6 8 true]⟩
def e_spec_CountOf (r : Int) : Res := ⟨[.t (.v (.int .i64 r))], []⟩
def c_spec_CountOf : Cx := ⟨1, [0], [.tmp 2]⟩
def e_spec_l1In (r : Bool) : Res := ⟨[.t (.v (.bool r))], []⟩
def c_spec_l1In : Cx := ⟨3, [0, 0, 0], [.tmp 6]⟩
def e_spec_SignAt (r : Int × Int × Bool) : Res := ⟨[.t (.v (.int .i64 r.1)), .t (.v (.int .i64 r.2.1)), .t (.v (.bool r.2.2))], []⟩
def c_spec_SignAt : Cx := ⟨2, [0, 0], [.tmp 4, .tmp 5, .tmp 6]⟩
def e_spec_l1Ranges (r : Bool) : Res := ⟨[.t (.v (.bool r))], []⟩
def c_spec_l1Ranges : Cx := ⟨2, [0, 0], [.tmp 4]⟩
def e_spec_IsStart (r : Bool) : Res := ⟨[.t (.v (.bool r))], []⟩
def c_spec_IsStart : Cx := ⟨1, [0], [.tmp 2]⟩
def e_spec_IsPart (r : Bool) : Res := ⟨[.t (.v (.bool r))], []⟩
def c_spec_IsPart : Cx := ⟨1, [0], [.tmp 2]⟩
def e_spec_PlainOk (r : Bool) : Res := ⟨[.t (.v (.bool r))], []⟩
def c_spec_PlainOk : Cx := ⟨1, [0], [.tmp 2]⟩
def e_spec_l4Xml (r : Bool) : Res := ⟨[.t (.v (.bool r))], []⟩
def c_spec_l4Xml : Cx := ⟨1, [0], [.tmp 2]⟩
def e_spec_l5Pre (r : Bool) : Res := ⟨[.t (.v (.bool r))], []⟩
def c_spec_l5Pre : Cx := ⟨1, [0], [.tmp 2]⟩
def e_spec_IsSign (r : Bool) : Res := ⟨[.t (.v (.bool r))], []⟩
def c_spec_IsSign : Cx := ⟨1, [0], [.tmp 2]⟩
def e_spec_l1Signs (r : Bool) : Res := ⟨[.t (.v (.bool r))], []⟩
def c_spec_l1Signs : Cx := ⟨1, [0], [.tmp 2]⟩
def e_spec_TextOk (r : Bool) : Res := ⟨[.t (.v (.bool r))], []⟩
def c_spec_TextOk : Cx := ⟨1, [0], [.tmp 2]⟩
def e_spec_DeclOk (r : Bool) : Res := ⟨[.t (.v (.bool r))], []⟩
def c_spec_DeclOk : Cx := ⟨1, [0], [.tmp 2]⟩
def e_spec_DeclsOk (r : Bool) : Res := ⟨[.t (.v (.bool r))], []⟩
def c_spec_DeclsOk : Cx := ⟨1, [0], [.tmp 2]⟩
def e_spec_l5Bare (r : Bool) : Res := ⟨[.t (.v (.bool r))], []⟩
def c_spec_l5Bare : Cx := ⟨1, [0], [.tmp 2]⟩
def e_spec_l5Has (r : Bool) : Res := ⟨[.t (.v (.bool r))], []⟩
def c_spec_l5Has : Cx := ⟨2, [0, 0], [.tmp 4]⟩
def e_spec_l5Xml (r : Bool) : Res := ⟨[.t (.v (.bool r))], []⟩
def c_spec_l5Xml : Cx := ⟨1, [0], [.tmp 2]⟩
def e_spec_IsBlank (r : Bool) : Res := ⟨[.t (.v (.bool r))], []⟩
def c_spec_IsBlank : Cx := ⟨1, [0], [.tmp 2]⟩
def e_spec_l5AttrOk (r : Bool) : Res := ⟨[.t (.v (.bool r))], []⟩
def c_spec_l5AttrOk : Cx := ⟨1, [0], [.tmp 2]⟩
def e_spec_l5One (r : Bool) : Res := ⟨[.t (.v (.bool r))], []⟩
def c_spec_l5One : Cx := ⟨1, [0], [.tmp 2]⟩
def e_spec_l5Kids (r : Bool) : Res := ⟨[.t (.v (.bool r))], []⟩
def c_spec_l5Kids : Cx := ⟨2, [0, 0], [.tmp 4]⟩
def e_spec_NodeOk (r : Bool) : Res := ⟨[.t (.v (.bool r))], []⟩
def c_spec_NodeOk : Cx := ⟨1, [0], [.tmp 2]⟩
def e_spec_FitsIn (r : Bool) : Res := ⟨[.t (.v (.bool r))], []⟩
def c_spec_FitsIn : Cx := ⟨2, [0, 0], [.tmp 4]⟩
def e_spec_TreeOk (r : Bool) : Res := ⟨[.t (.v (.bool r))], []⟩
def c_spec_TreeOk : Cx := ⟨1, [0], [.tmp 2]⟩
def e_spec_l5Draw (r : GNode × Gl1Cur) : Res := ⟨[.agg [.v (.int .i64 r.1.Kind), .v (.string r.1.Pre), .v (.string r.1.Local), .v (.string r.1.Uri), .sl true (r.1.Decls.map GDecl.row), .sl true (r.1.Attrs.map GAttr.row), .sl true (r.1.Kids.map (GNode.row true)), .v (.string r.1.Text)]], [some [[.sl false (r.2.xb.map (rK .u8)), .v (.int .i64 r.2.xi), .v (.int .i64 r.2.xh)]]]⟩
def c_spec_l5Draw : Cx := ⟨1, [1], [.cell 2 8 true]⟩
def e_spec_DrawGap (r : GNode × GNode) : Res := ⟨[.agg [.v (.int .i64 r.1.Kind), .v (.string r.1.Pre), .v (.string r.1.Local), .v (.string r.1.Uri), .sl true (r.1.Decls.map GDecl.row), .sl true (r.1.Attrs.map GAttr.row), .sl true (r.1.Kids.map (GNode.row true)), .v (.string r.1.Text)], .agg [.v (.int .i64 r.2.Kind), .v (.string r.2.Pre), .v (.string r.2.Local), .v (.string r.2.Uri), .sl true (r.2.Decls.map GDecl.row), .sl true (r.2.Attrs.map GAttr.row), .sl true (r.2.Kids.map (GNode.row true)), .v (.string r.2.Text)]], []⟩
def c_spec_DrawGap : Cx := ⟨1, [0], [.cell 2 8 true, .cell 3 8 true]⟩
def e_impl_Nodes (r : Int) : Res := ⟨[.t (.v (.int .i64 r))], []⟩
def c_impl_Nodes : Cx := ⟨1, [0], [.tmp 2]⟩
def e_slices_Clone_Decl (r : List GDecl) : Res := ⟨[.t (.sl true (r.map GDecl.row))], []⟩
def c_slices_Clone_Decl : Cx := ⟨1, [0], [.tmp 2]⟩
def e_slices_Clone_Attr (r : List GAttr) : Res := ⟨[.t (.sl true (r.map GAttr.row))], []⟩
def c_slices_Clone_Attr : Cx := ⟨1, [0], [.tmp 2]⟩
def e_impl_cloneNode (r : GNode) : Res := ⟨[.agg [.v (.int .i64 r.Kind), .v (.string r.Pre), .v (.string r.Local), .v (.string r.Uri), .sl true (r.Decls.map GDecl.row), .sl true (r.Attrs.map GAttr.row), .sl true (r.Kids.map (GNode.row true)), .v (.string r.Text)]], []⟩
def c_impl_cloneNode : Cx := ⟨1, [0], [.cell 2 8 true]⟩
def e_impl_cloneNodes (r : List GNode) : Res := ⟨[.t (.sl true (r.map (GNode.row true)))], []⟩
def c_impl_cloneNodes : Cx := ⟨1, [0], [.tmp 2]⟩
def e_impl_Alone (r : GNode) : Res := ⟨[.agg [.v (.int .i64 r.Kind), .v (.string r.Pre), .v (.string r.Local), .v (.string r.Uri), .sl true (r.Decls.map GDecl.row), .sl true (r.Attrs.map GAttr.row), .sl true (r.Kids.map (GNode.row true)), .v (.string r.Text)]], []⟩
def c_impl_Alone : Cx := ⟨1, [0], [.cell 2 8 true]⟩
def e_impl_row_put' (r : Ggaps) : Res := ⟨[], [some [[.sl true (r.xa.xnodes.map (GNode.row true)), .sl true (r.xa.xfirst.map rI), .sl true (r.xb.xnodes.map (GNode.row true)), .sl true (r.xb.xfirst.map rI), .sl true (r.xtree.map (rL true rI))]]]⟩
def c_impl_row_put' : Cx := ⟨2, [1, 0], []⟩
def e_impl_row_put (r : Ggaps) : Res := ⟨[], [some [[.sl true (r.xa.xnodes.map (GNode.row true)), .sl true (r.xa.xfirst.map rI), .sl true (r.xb.xnodes.map (GNode.row true)), .sl true (r.xb.xfirst.map rI), .sl true (r.xtree.map (rL true rI))]]]⟩
def c_impl_row_put : Cx := ⟨2, [1, 0], []⟩
def e_impl_row_put'' (r : Ggaps) : Res := ⟨[], [some [[.sl true (r.xa.xnodes.map (GNode.row true)), .sl true (r.xa.xfirst.map rI), .sl true (r.xb.xnodes.map (GNode.row true)), .sl true (r.xb.xfirst.map rI), .sl true (r.xtree.map (rL true rI))]]]⟩
def c_impl_row_put'' : Cx := ⟨2, [1, 0], []⟩
def e_slices_Equal_Decl (r : Bool) : Res := ⟨[.t (.v (.bool r))], []⟩
def c_slices_Equal_Decl : Cx := ⟨2, [0, 0], [.tmp 4]⟩
def e_slices_Equal_Attr (r : Bool) : Res := ⟨[.t (.v (.bool r))], []⟩
def c_slices_Equal_Attr : Cx := ⟨2, [0, 0], [.tmp 4]⟩
def e_impl_sameAlone (r : Bool) : Res := ⟨[.t (.v (.bool r))], []⟩
def c_impl_sameAlone : Cx := ⟨2, [0, 0], [.tmp 4]⟩
def e_impl_gaps_least (r : Int × Ggaps) : Res := ⟨[.t (.v (.int .i64 r.1))], [some [[.sl true (r.2.xa.xnodes.map (GNode.row true)), .sl true (r.2.xa.xfirst.map rI), .sl true (r.2.xb.xnodes.map (GNode.row true)), .sl true (r.2.xb.xfirst.map rI), .sl true (r.2.xtree.map (rL true rI))]]]⟩
def c_impl_gaps_least : Cx := ⟨6, [1, 0, 0, 0, 0, 0], [.tmp 12]⟩
def e_impl_gaps_count (r : Ggaps) : Res := ⟨[], [some [[.sl true (r.xa.xnodes.map (GNode.row true)), .sl true (r.xa.xfirst.map rI), .sl true (r.xb.xnodes.map (GNode.row true)), .sl true (r.xb.xfirst.map rI), .sl true (r.xtree.map (rL true rI))]]]⟩
def c_impl_gaps_count : Cx := ⟨3, [1, 0, 0], []⟩
def e_impl_Gap (r : Int) : Res := ⟨[.t (.v (.int .i64 r))], []⟩
def c_impl_Gap : Cx := ⟨2, [0, 0], [.tmp 4]⟩
def e_spec_Nodes (r : Int) : Res := ⟨[.t (.v (.int .i64 r))], []⟩
def c_spec_Nodes : Cx := ⟨1, [0], [.tmp 2]⟩
def e_spec_Alone (r : GNode) : Res := ⟨[.agg [.v (.int .i64 r.Kind), .v (.string r.Pre), .v (.string r.Local), .v (.string r.Uri), .sl true (r.Decls.map GDecl.row), .sl true (r.Attrs.map GAttr.row), .sl true (r.Kids.map (GNode.row true)), .v (.string r.Text)]], []⟩
def c_spec_Alone : Cx := ⟨1, [0], [.cell 2 8 true]⟩
def e_spec_l18Post (r : List GNode × List Int) : Res := ⟨[.t (.sl true (r.1.map (GNode.row true))), .t (.sl true (r.2.map rI))], []⟩
def c_spec_l18Post : Cx := ⟨2, [0, 0], [.tmp 4, .tmp 5]⟩
def e_spec_l18Grid (r : List (List Int)) : Res := ⟨[.t (.sl true (r.map (rL true rI)))], []⟩
def c_spec_l18Grid : Cx := ⟨2, [0, 0], [.tmp 4]⟩
def e_spec_l18Keys (r : List Int) : Res := ⟨[.t (.sl true (r.map rI))], []⟩
def c_spec_l18Keys : Cx := ⟨1, [0], [.tmp 2]⟩
def e_spec_l18Min (r : Int) : Res := ⟨[.t (.v (.int .i64 r))], []⟩
def c_spec_l18Min : Cx := ⟨2, [0, 0], [.tmp 4]⟩
def e_spec_SameNode (r : Bool) : Res := ⟨[.t (.v (.bool r))], []⟩
def c_spec_SameNode : Cx := ⟨2, [0, 0], [.tmp 4]⟩
def e_spec_l18Forest (r : List (List Int)) : Res := ⟨[], [some (r.map (rL true rI))]⟩
def c_spec_l18Forest : Cx := ⟨7, [0, 0, 0, 0, 0, 0, 1], []⟩
def e_spec_Gap (r : Int) : Res := ⟨[.t (.v (.int .i64 r))], []⟩
def c_spec_Gap : Cx := ⟨2, [0, 0], [.tmp 4]⟩
def e_impl_SameNode (r : Bool) : Res := ⟨[.t (.v (.bool r))], []⟩
def c_impl_SameNode : Cx := ⟨2, [0, 0], [.tmp 4]⟩
def e_slices_EqualFunc_Node_SameNode (r : Bool) : Res := ⟨[.t (.v (.bool r))], []⟩
def c_slices_EqualFunc_Node_SameNode : Cx := ⟨3, [0, 0, 0], [.tmp 6]⟩
def e_laws_FnGaps (r : Bool) : Res := ⟨[.t (.v (.bool r))], []⟩
def c_laws_FnGaps : Cx := ⟨1, [0], [.tmp 2]⟩
theorem lT {α : Type} (l : List α) : ((lenL l).toNat < l.length + 1) = True := by simp [lenL]
def ES := And.intro @lT <| And.intro (@e_laws_big.eq_1) <| And.intro (@c_laws_big.eq_1) <| And.intro (@e_spec_l1New.eq_1) <| And.intro (@c_spec_l1New.eq_1) <| And.intro (@e_spec_l1Byte.eq_1) <| And.intro (@c_spec_l1Byte.eq_1) <| And.intro (@e_spec_l1Below.eq_1) <| And.intro (@c_spec_l1Below.eq_1) <| And.intro (@e_spec_l1Str.eq_1) <| And.intro (@c_spec_l1Str.eq_1) <| And.intro (@e_spec_l18Small.eq_1) <| And.intro (@c_spec_l18Small.eq_1) <| And.intro (@e_spec_l1Once.eq_1) <| And.intro (@c_spec_l1Once.eq_1) <| And.intro (@e_spec_l4Uri.eq_1) <| And.intro (@c_spec_l4Uri.eq_1) <| And.intro (@e_spec_l4Decl.eq_1) <| And.intro (@c_spec_l4Decl.eq_1) <| And.intro (@e_spec_l4Draw.eq_1) <| And.intro (@c_spec_l4Draw.eq_1) <| And.intro (@e_spec_Inner.eq_1) <| And.intro (@c_spec_Inner.eq_1) <| And.intro (@e_spec_SpaceOf.eq_1) <| And.intro (@c_spec_SpaceOf.eq_1) <| And.intro (@e_spec_l5Val.eq_1) <| And.intro (@c_spec_l5Val.eq_1) <| And.intro (@e_spec_l5Less.eq_1) <| And.intro (@c_spec_l5Less.eq_1) <| And.intro (@e_spec_l5All.eq_1) <| And.intro (@c_spec_l5All.eq_1) <| And.intro (@e_spec_l5Copy.eq_1) <| And.intro (@c_spec_l5Copy.eq_1) <| And.intro (@e_spec_Merge.eq_1) <| And.intro (@c_spec_Merge.eq_1) <| And.intro (@e_spec_l5El.eq_1) <| And.intro (@c_spec_l5El.eq_1) <| And.intro (@e_spec_CountOf.eq_1) <| And.intro (@c_spec_CountOf.eq_1) <| And.intro (@e_spec_l1In.eq_1) <| And.intro (@c_spec_l1In.eq_1) <| And.intro (@e_spec_SignAt.eq_1) <| And.intro (@c_spec_SignAt.eq_1) <| And.intro (@e_spec_l1Ranges.eq_1) <| And.intro (@c_spec_l1Ranges.eq_1) <| And.intro (@e_spec_IsStart.eq_1) <| And.intro (@c_spec_IsStart.eq_1) <| And.intro (@e_spec_IsPart.eq_1) <| And.intro (@c_spec_IsPart.eq_1) <| And.intro (@e_spec_PlainOk.eq_1) <| And.intro (@c_spec_PlainOk.eq_1) <| And.intro (@e_spec_l4Xml.eq_1) <| And.intro (@c_spec_l4Xml.eq_1) <| And.intro (@e_spec_l5Pre.eq_1) <| And.intro (@c_spec_l5Pre.eq_1) <| And.intro (@e_spec_IsSign.eq_1) <| And.intro (@c_spec_IsSign.eq_1) <| And.intro (@e_spec_l1Signs.eq_1) <| And.intro (@c_spec_l1Signs.eq_1) <| And.intro (@e_spec_TextOk.eq_1) <| And.intro (@c_spec_TextOk.eq_1) <| And.intro (@e_spec_DeclOk.eq_1) <| And.intro (@c_spec_DeclOk.eq_1) <| And.intro (@e_spec_DeclsOk.eq_1) <| And.intro (@c_spec_DeclsOk.eq_1) <| And.intro (@e_spec_l5Bare.eq_1) <| And.intro (@c_spec_l5Bare.eq_1) <| And.intro (@e_spec_l5Has.eq_1) <| And.intro (@c_spec_l5Has.eq_1) <| And.intro (@e_spec_l5Xml.eq_1) <| And.intro (@c_spec_l5Xml.eq_1) <| And.intro (@e_spec_IsBlank.eq_1) <| And.intro (@c_spec_IsBlank.eq_1) <| And.intro (@e_spec_l5AttrOk.eq_1) <| And.intro (@c_spec_l5AttrOk.eq_1) <| And.intro (@e_spec_l5One.eq_1) <| And.intro (@c_spec_l5One.eq_1) <| And.intro (@e_spec_l5Kids.eq_1) <| And.intro (@c_spec_l5Kids.eq_1) <| And.intro (@e_spec_NodeOk.eq_1) <| And.intro (@c_spec_NodeOk.eq_1) <| And.intro (@e_spec_FitsIn.eq_1) <| And.intro (@c_spec_FitsIn.eq_1) <| And.intro (@e_spec_TreeOk.eq_1) <| And.intro (@c_spec_TreeOk.eq_1) <| And.intro (@e_spec_l5Draw.eq_1) <| And.intro (@c_spec_l5Draw.eq_1) <| And.intro (@e_spec_DrawGap.eq_1) <| And.intro (@c_spec_DrawGap.eq_1) <| And.intro (@e_impl_Nodes.eq_1) <| And.intro (@c_impl_Nodes.eq_1) <| And.intro (@e_slices_Clone_Decl.eq_1) <| And.intro (@c_slices_Clone_Decl.eq_1) <| And.intro (@e_slices_Clone_Attr.eq_1) <| And.intro (@c_slices_Clone_Attr.eq_1) <| And.intro (@e_impl_cloneNode.eq_1) <| And.intro (@c_impl_cloneNode.eq_1) <| And.intro (@e_impl_cloneNodes.eq_1) <| And.intro (@c_impl_cloneNodes.eq_1) <| And.intro (@e_impl_Alone.eq_1) <| And.intro (@c_impl_Alone.eq_1) <| And.intro (@e_impl_row_put'.eq_1) <| And.intro (@c_impl_row_put'.eq_1) <| And.intro (@e_impl_row_put.eq_1) <| And.intro (@c_impl_row_put.eq_1) <| And.intro (@e_impl_row_put''.eq_1) <| And.intro (@c_impl_row_put''.eq_1) <| And.intro (@e_slices_Equal_Decl.eq_1) <| And.intro (@c_slices_Equal_Decl.eq_1) <| And.intro (@e_slices_Equal_Attr.eq_1) <| And.intro (@c_slices_Equal_Attr.eq_1) <| And.intro (@e_impl_sameAlone.eq_1) <| And.intro (@c_impl_sameAlone.eq_1) <| And.intro (@e_impl_gaps_least.eq_1) <| And.intro (@c_impl_gaps_least.eq_1) <| And.intro (@e_impl_gaps_count.eq_1) <| And.intro (@c_impl_gaps_count.eq_1) <| And.intro (@e_impl_Gap.eq_1) <| And.intro (@c_impl_Gap.eq_1) <| And.intro (@e_spec_Nodes.eq_1) <| And.intro (@c_spec_Nodes.eq_1) <| And.intro (@e_spec_Alone.eq_1) <| And.intro (@c_spec_Alone.eq_1) <| And.intro (@e_spec_l18Post.eq_1) <| And.intro (@c_spec_l18Post.eq_1) <| And.intro (@e_spec_l18Grid.eq_1) <| And.intro (@c_spec_l18Grid.eq_1) <| And.intro (@e_spec_l18Keys.eq_1) <| And.intro (@c_spec_l18Keys.eq_1) <| And.intro (@e_spec_l18Min.eq_1) <| And.intro (@c_spec_l18Min.eq_1) <| And.intro (@e_spec_SameNode.eq_1) <| And.intro (@c_spec_SameNode.eq_1) <| And.intro (@e_spec_l18Forest.eq_1) <| And.intro (@c_spec_l18Forest.eq_1) <| And.intro (@e_spec_Gap.eq_1) <| And.intro (@c_spec_Gap.eq_1) <| And.intro (@e_impl_SameNode.eq_1) <| And.intro (@c_impl_SameNode.eq_1) <| And.intro (@e_slices_EqualFunc_Node_SameNode.eq_1) <| And.intro (@c_slices_EqualFunc_Node_SameNode.eq_1) <| And.intro (@e_laws_FnGaps.eq_1) <| @c_laws_FnGaps.eq_1
theorem xN {f : FuncId} (h : FTA.cl.contains f = false) (h2 : (FTA.lb.all fun p => p.1 != f) = true) (args : List Arg) : xOf FTA f args = none := xOf_none h h2 args
theorem lB {a b : Nat} (h : Nat.ble a b = true) : a ≤ b := Nat.le_of_ble_eq_true h
theorem gs {p : Prop} (h : p := by
 try simp only [SSA, RS, reduceAdd, reduceSub, reduceMul, reduceLeDiff, reduceLT, reduceEqDiff, Nat.reduceBEq, ↓reduceIte, reduceCtorEq] at g0
 try simp only [SSA, RS, reduceAdd, reduceSub, reduceMul, reduceLeDiff, reduceLT, reduceEqDiff, Nat.reduceBEq, ↓reduceIte, reduceCtorEq] at g1
 try simp only [SSA, RS, reduceAdd, reduceSub, reduceMul, reduceLeDiff, reduceLT, reduceEqDiff, Nat.reduceBEq, ↓reduceIte, reduceCtorEq] at g2
 try simp only [SSA, RS, reduceAdd, reduceSub, reduceMul, reduceLeDiff, reduceLT, reduceEqDiff, Nat.reduceBEq, ↓reduceIte, reduceCtorEq] at g3
 try simp only [SSA, RS, reduceAdd, reduceSub, reduceMul, reduceLeDiff, reduceLT, reduceEqDiff, Nat.reduceBEq, ↓reduceIte, reduceCtorEq] at g4
 try simp only [SSA, RS, reduceAdd, reduceSub, reduceMul, reduceLeDiff, reduceLT, reduceEqDiff, Nat.reduceBEq, ↓reduceIte, reduceCtorEq] at g5
 try simp only [SSA, RS, reduceAdd, reduceSub, reduceMul, reduceLeDiff, reduceLT, reduceEqDiff, Nat.reduceBEq, ↓reduceIte, reduceCtorEq] at g6
 try simp only [SSA, RS, reduceAdd, reduceSub, reduceMul, reduceLeDiff, reduceLT, reduceEqDiff, Nat.reduceBEq, ↓reduceIte, reduceCtorEq] at g7
 simp only [SSA, RS, ES, *, reduceAdd, reduceSub, reduceMul, reduceLeDiff, reduceLT, reduceEqDiff, Nat.reduceBEq, ↓reduceIte, reduceCtorEq]
 try clear k0
 try clear f0
 repeat' first
  | with_reducible exact Ok_none
  | ((with_reducible refine Ok_ret ?_); first | rfl | simp only [SSA, RS, ES])
  | ((with_reducible first
   | refine Ok_tail (t0 ..) ?_
   | refine Ok_tail (t1 ..) ?_); first | rfl | (simp only [SSA, RS, ES, reduceAdd, reduceSub, reduceMul, reduceLeDiff, reduceLT, reduceEqDiff, Nat.reduceBEq, ↓reduceIte, reduceCtorEq] <;> rfl) | (simp only [SSA, RS, ES, *, reduceAdd, reduceSub, reduceMul, reduceLeDiff, reduceLT, reduceEqDiff, Nat.reduceBEq, ↓reduceIte, reduceCtorEq] <;> rfl))
  | ((first
   | (with_reducible first
    | refine Ok_if (fun h => ?_) (fun h => ?_)
    | refine Ok_get fun a h => ?_
    | refine Ok_call (g0 ..) fun v => ?_
    | refine Ok_call (g1 ..) fun v => ?_
    | refine Ok_call (g2 ..) fun v => ?_
    | refine Ok_call (g3 ..) fun v => ?_
    | refine Ok_call (g4 ..) fun v => ?_
    | refine Ok_call (g5 ..) fun v => ?_
    | refine Ok_call (g6 ..) fun v => ?_
    | refine Ok_call (g7 ..) fun v => ?_
    | refine Ok_call g0 fun v => ?_
    | refine Ok_call g1 fun v => ?_
    | refine Ok_call g2 fun v => ?_
    | refine Ok_prim (p := catS _ _) fun a h => ?_
    | refine Ok_prim (p := room _ _) fun a h => ?_
    | refine Ok_prim (p := mkN _ _) fun a h => ?_
    | refine Ok_prim (p := subS _ _ _) fun a h => ?_
    | refine Ok_prim (p := slL _ _ _) fun a h => ?_
    | refine Ok_prim (p := atS _ _) fun a h => ?_
    | refine Ok_prim (p := quoI _ _) fun a h => ?_
    | refine Ok_prim (p := remI _ _) fun a h => ?_
    | refine Ok_prim (p := quoK _ _ _) fun a h => ?_
    | refine Ok_prim (p := remK _ _ _) fun a h => ?_
    | refine Ok_prim (p := shlK _ _ _) fun a h => ?_
    | refine Ok_prim (p := shrK _ _ _) fun a h => ?_
    | refine Ok_same fun h => ?_)
   | refine Ok_call (g0 ..) fun v => ?_
   | refine Ok_call (g1 ..) fun v => ?_
   | refine Ok_call (g2 ..) fun v => ?_
   | refine Ok_call (g3 ..) fun v => ?_
   | refine Ok_call (g4 ..) fun v => ?_
   | refine Ok_call (g5 ..) fun v => ?_
   | refine Ok_call (g6 ..) fun v => ?_
   | refine Ok_call (g7 ..) fun v => ?_
   | refine Ok_callq (g0 _) (by simp only [SSA, RS, List.map_cons, List.map_nil]) fun v => ?_
   | refine Ok_callq (g0 _ _) (by simp only [SSA, RS, List.map_cons, List.map_nil]) fun v => ?_
   | refine Ok_callq (g1 _) (by simp only [SSA, RS, List.map_cons, List.map_nil]) fun v => ?_
   | refine Ok_callq (g1 _ _) (by simp only [SSA, RS, List.map_cons, List.map_nil]) fun v => ?_
   | refine Ok_callq (g2 _) (by simp only [SSA, RS, List.map_cons, List.map_nil]) fun v => ?_
   | refine Ok_callq (g2 _ _) (by simp only [SSA, RS, List.map_cons, List.map_nil]) fun v => ?_
   | refine Ok_callq (g3 _) (by simp only [SSA, RS, List.map_cons, List.map_nil]) fun v => ?_
   | refine Ok_callq (g3 _ _) (by simp only [SSA, RS, List.map_cons, List.map_nil]) fun v => ?_
   | refine Ok_callq (g4 _) (by simp only [SSA, RS, List.map_cons, List.map_nil]) fun v => ?_
   | refine Ok_callq (g4 _ _) (by simp only [SSA, RS, List.map_cons, List.map_nil]) fun v => ?_
   | refine Ok_callq (g5 _) (by simp only [SSA, RS, List.map_cons, List.map_nil]) fun v => ?_
   | refine Ok_callq (g5 _ _) (by simp only [SSA, RS, List.map_cons, List.map_nil]) fun v => ?_
   | refine Ok_callq (g6 _) (by simp only [SSA, RS, List.map_cons, List.map_nil]) fun v => ?_
   | refine Ok_callq (g6 _ _) (by simp only [SSA, RS, List.map_cons, List.map_nil]) fun v => ?_
   | refine Ok_callq (g7 _) (by simp only [SSA, RS, List.map_cons, List.map_nil]) fun v => ?_
   | refine Ok_callq (g7 _ _) (by simp only [SSA, RS, List.map_cons, List.map_nil]) fun v => ?_) <;> simp only [SSA, RS, ES, *, reduceAdd, reduceSub, reduceMul, reduceLeDiff, reduceLT, reduceEqDiff, Nat.reduceBEq, ↓reduceIte, reduceCtorEq])) : p := h
theorem laws_big_ok : ∀ (code : List Int), Ok (laws_big code) e_laws_big (dn FTA n_laws_big [.t (.sl false (code.map (rK .u8)))]) := by
 intro code
 rw [den_ev FTA (fn := k_laws_big) rfl (xN rfl rfl _) (lB rfl)]
 have k0 := @k_laws_big.eq_1; have f0 := @laws_big.eq_1
 exact gs
theorem spec_l1New_l8_ok (code : List Int) : ∀ (h : Int) (i : Int), Ok (spec_l1New_l8 code h i) e_spec_l1New (ev FTA c_spec_l1New (.loop k_spec_l1New_l8) [.lv 0, .th k_spec_l1New_r4] (putS (List.replicate 32 .dead) [(0, .t (.sl false (code.map (rK .u8)))), (3, .t (.v (.int .i64 h))), (4, .t (.v (.int .i64 i)))]) (putR (List.replicate 32 []) [])) := by
 unfold Ok
 refine spec_l1New_l8.partial_correctness code _ ?_
 intro F ih h i
 show Ok _ _ _
 have ih : ∀ (h : Int) (i : Int), Ok (F h i) _ _ := ih
 rw [ev_loop]
 have k0 := @k_spec_l1New_l8.eq_1; have k1 := @k_spec_l1New_r4.eq_1; have t0 := ih
 exact gs
theorem spec_l1New_ok : ∀ (code : List Int), Ok (spec_l1New code) e_spec_l1New (dn FTA n_spec_l1New [.t (.sl false (code.map (rK .u8)))]) := by
 intro code
 rw [den_ev FTA (fn := k_spec_l1New) rfl (xN rfl rfl _) (lB rfl)]
 have k0 := @k_spec_l1New.eq_1; have f0 := @spec_l1New.eq_1; have t0 := spec_l1New_l8_ok
 exact gs
theorem spec_l1Byte_ok : ∀ (c : Gl1Cur), Ok (spec_l1Byte c) e_spec_l1Byte (dn FTA n_spec_l1Byte [.lp [.sl false (c.xb.map (rK .u8)), .v (.int .i64 c.xi), .v (.int .i64 c.xh)] 0]) := by
 intro c
 rw [den_ev FTA (fn := k_spec_l1Byte) rfl (xN rfl rfl _) (lB rfl)]
 have k0 := @k_spec_l1Byte.eq_1; have f0 := @spec_l1Byte.eq_1
 exact gs
theorem spec_l1Below_ok : ∀ (c : Gl1Cur) (n : Int), Ok (spec_l1Below c n) e_spec_l1Below (dn FTA n_spec_l1Below [.lp [.sl false (c.xb.map (rK .u8)), .v (.int .i64 c.xi), .v (.int .i64 c.xh)] 0, .t (.v (.int .i64 n))]) := by
 intro c n
 rw [den_ev FTA (fn := k_spec_l1Below) rfl (xN rfl rfl _) (lB rfl)]
 have k0 := @k_spec_l1Below.eq_1; have f0 := @spec_l1Below.eq_1; have g0 := spec_l1Byte_ok
 exact gs
theorem spec_l1Str_ok : ∀ (c : Gl1Cur) (list : List ByteArray), Ok (spec_l1Str c list) e_spec_l1Str (dn FTA n_spec_l1Str [.lp [.sl false (c.xb.map (rK .u8)), .v (.int .i64 c.xi), .v (.int .i64 c.xh)] 0, .t (.sl false (list.map rS))]) := by
 intro c list
 rw [den_ev FTA (fn := k_spec_l1Str) rfl (xN rfl rfl _) (lB rfl)]
 have k0 := @k_spec_l1Str.eq_1; have f0 := @spec_l1Str.eq_1; have g0 := spec_l1Below_ok
 exact gs
theorem G_spec_l18Small : (∀ (c : Gl1Cur) (most : Int), Ok (spec_l18Small c most) e_spec_l18Small (dn FTA n_spec_l18Small [.lp [.sl false (c.xb.map (rK .u8)), .v (.int .i64 c.xi), .v (.int .i64 c.xh)] 0, .lp [.v (.int .i64 most)] 0])) ∧
  (∀ (i : Int) (c1 : Gl1Cur) (most1 : Int) (r : ByteArray × Gl1Cur) (nKids : List (GNode)), Ok (spec_l18Small_l8 i c1 most1 r nKids) e_spec_l18Small (ev FTA c_spec_l18Small (.loop k_spec_l18Small_l8) [.lv 0, .th k_spec_l18Small_r4] (putS (List.replicate 40 .dead) [(0, .ptr (0, 0) [] 0 0 1 0), (1, .ptr (1, 0) [] 0 0 1 0), (4, .ptr (4, 0) [] 0 0 1 0), (5, .ptr (5, 0) [] 0 0 1 0), (6, .t (.v (.int .i64 i)))]) (putR (List.replicate 40 []) [(0, [.mem [[.sl false (c1.xb.map (rK .u8)), .v (.int .i64 c1.xi), .v (.int .i64 c1.xh)]] 0 true]), (1, [.mem [[.v (.int .i64 most1)]] 0 true]), (4, [.mem [[.v (.int .i64 0), .v (.string (⟨#[]⟩)), .v (.string (⟨#[]⟩)), .v (.string (⟨#[]⟩)), .sl true [], .sl true [], .sl true [], .v (.string (⟨#[]⟩))]] 0 false]), (5, [.mem [[.v (.int .i64 1), .v (.string (⟨#[]⟩)), .v (.string r.1), .v (.string (⟨#[]⟩)), .sl true [], .sl true [], .sl true (nKids.map (GNode.row true)), .v (.string (⟨#[]⟩))]] 0 false])]))) := by
 unfold Ok
 refine spec_l18Small.mutual_partial_correctness _ _ ?_ ?_
 ·intro F1 ih1 c most
  show Ok _ _ _
  have ih1 : ∀ (i : Int) (c1 : Gl1Cur) (most1 : Int) (r : ByteArray × Gl1Cur) (nKids : List (GNode)), Ok (F1 i c1 most1 r nKids) _ _ := ih1
  rw [den_ev FTA (fn := k_spec_l18Small) rfl (xN rfl rfl _) (lB rfl)]
  have k0 := @k_spec_l18Small.eq_1; have g0 := spec_l1Str_ok; have g1 := spec_l1Below_ok; have t0 := ih1
  exact gs
 ·intro F0 F1 ih0 ih1 i c1 most1 r nKids
  show Ok _ _ _
  have ih0 : ∀ (c : Gl1Cur) (most : Int), Ok (F0 c most) _ _ := ih0
  have ih1 : ∀ (i : Int) (c1 : Gl1Cur) (most1 : Int) (r : ByteArray × Gl1Cur) (nKids : List (GNode)), Ok (F1 i c1 most1 r nKids) _ _ := ih1
  rw [ev_loop]
  have k0 := @k_spec_l18Small_l8.eq_1; have k1 := @k_spec_l18Small_r4.eq_1; have g0 := ih0; have t0 := ih1
  exact gs
theorem spec_l18Small_ok (c : Gl1Cur) (most : Int) : Ok (spec_l18Small c most) e_spec_l18Small (dn FTA n_spec_l18Small [.lp [.sl false (c.xb.map (rK .u8)), .v (.int .i64 c.xi), .v (.int .i64 c.xh)] 0, .lp [.v (.int .i64 most)] 0]) := G_spec_l18Small.1 c most
theorem spec_l1Once_ok : ∀ (c : Gl1Cur) (n : Int), Ok (spec_l1Once c n) e_spec_l1Once (dn FTA n_spec_l1Once [.lp [.sl false (c.xb.map (rK .u8)), .v (.int .i64 c.xi), .v (.int .i64 c.xh)] 0, .t (.v (.int .i64 n))]) := by
 intro c n
 rw [den_ev FTA (fn := k_spec_l1Once) rfl (xN rfl rfl _) (lB rfl)]
 have k0 := @k_spec_l1Once.eq_1; have f0 := @spec_l1Once.eq_1; have g0 := spec_l1Below_ok
 exact gs
theorem spec_l4Uri_ok : ∀ (c : Gl1Cur), Ok (spec_l4Uri c) e_spec_l4Uri (dn FTA n_spec_l4Uri [.lp [.sl false (c.xb.map (rK .u8)), .v (.int .i64 c.xi), .v (.int .i64 c.xh)] 0]) := by
 intro c
 rw [den_ev FTA (fn := k_spec_l4Uri) rfl (xN rfl rfl _) (lB rfl)]
 have k0 := @k_spec_l4Uri.eq_1; have f0 := @spec_l4Uri.eq_1; have g0 := spec_l1Str_ok
 exact gs
theorem spec_l4Decl_ok : ∀ (c : Gl1Cur), Ok (spec_l4Decl c) e_spec_l4Decl (dn FTA n_spec_l4Decl [.lp [.sl false (c.xb.map (rK .u8)), .v (.int .i64 c.xi), .v (.int .i64 c.xh)] 0]) := by
 intro c
 rw [den_ev FTA (fn := k_spec_l4Decl) rfl (xN rfl rfl _) (lB rfl)]
 have k0 := @k_spec_l4Decl.eq_1; have f0 := @spec_l4Decl.eq_1; have g0 := spec_l1Str_ok; have g1 := spec_l4Uri_ok; have g2 := spec_l1Once_ok
 exact gs
theorem spec_l4Draw_l8_ok : ∀ (l : List (GDecl)) (i : Int) (c1 : Gl1Cur), Ok (spec_l4Draw_l8 l i c1) e_spec_l4Draw (ev FTA c_spec_l4Draw (.loop k_spec_l4Draw_l8) [.lv 0, .th k_spec_l4Draw_r4] (putS (List.replicate 35 .dead) [(0, .ptr (0, 0) [] 0 0 1 0), (3, .ref (6, 0) l.length), (4, .t (.v (.int .i64 i)))]) (putR (List.replicate 35 []) [(0, [.mem [[.sl false (c1.xb.map (rK .u8)), .v (.int .i64 c1.xi), .v (.int .i64 c1.xh)]] 0 true]), (6, [.mem (l.map GDecl.row) 0 false])])) := by
 unfold Ok
 refine spec_l4Draw_l8.partial_correctness _ ?_
 intro F ih l i c1
 show Ok _ _ _
 have ih : ∀ (l : List (GDecl)) (i : Int) (c1 : Gl1Cur), Ok (F l i c1) _ _ := ih
 rw [ev_loop]
 have k0 := @k_spec_l4Draw_l8.eq_1; have k1 := @k_spec_l4Draw_r4.eq_1; have g0 := spec_l4Decl_ok; have t0 := ih
 exact gs
theorem spec_l4Draw_ok : ∀ (c : Gl1Cur), Ok (spec_l4Draw c) e_spec_l4Draw (dn FTA n_spec_l4Draw [.lp [.sl false (c.xb.map (rK .u8)), .v (.int .i64 c.xi), .v (.int .i64 c.xh)] 0]) := by
 intro c
 rw [den_ev FTA (fn := k_spec_l4Draw) rfl (xN rfl rfl _) (lB rfl)]
 have k0 := @k_spec_l4Draw.eq_1; have f0 := @spec_l4Draw.eq_1; have g0 := spec_l1Below_ok; have t0 := spec_l4Draw_l8_ok
 exact gs
theorem spec_Inner_ok : ∀ (l : List GDecl) (more : List GDecl), Ok (spec_Inner l more) e_spec_Inner (dn FTA n_spec_Inner [.t (.sl false (l.map GDecl.row)), .t (.sl false (more.map GDecl.row))]) := by
 intro l more
 rw [den_ev FTA (fn := k_spec_Inner) rfl (xN rfl rfl _) (lB rfl)]
 have k0 := @k_spec_Inner.eq_1; have f0 := @spec_Inner.eq_1
 exact gs
theorem spec_SpaceOf_l6_ok (l : List GDecl) (pre : ByteArray) : ∀ (i : Int), Ok (spec_SpaceOf_l6 l pre i) e_spec_SpaceOf (ev FTA c_spec_SpaceOf (.loop k_spec_SpaceOf_l6) [.lv 0, .th k_spec_SpaceOf_r2] (putS (List.replicate 28 .dead) [(0, .t (.sl false (l.map GDecl.row))), (1, .t (.v (.string pre))), (6, .t (.v (.int .i64 i)))]) (putR (List.replicate 28 []) [])) := by
 unfold Ok
 refine spec_SpaceOf_l6.partial_correctness l pre _ ?_
 intro F ih i
 show Ok _ _ _
 have ih : ∀ (i : Int), Ok (F i) _ _ := ih
 rw [ev_loop]
 have k0 := @k_spec_SpaceOf_l6.eq_1; have k1 := @k_spec_SpaceOf_r2.eq_1; have t0 := ih
 exact gs
theorem spec_SpaceOf_ok : ∀ (l : List GDecl) (pre : ByteArray), Ok (spec_SpaceOf l pre) e_spec_SpaceOf (dn FTA n_spec_SpaceOf [.t (.sl false (l.map GDecl.row)), .t (.v (.string pre))]) := by
 intro l pre
 rw [den_ev FTA (fn := k_spec_SpaceOf) rfl (xN rfl rfl _) (lB rfl)]
 have k0 := @k_spec_SpaceOf.eq_1; have f0 := @spec_SpaceOf.eq_1; have t0 := spec_SpaceOf_l6_ok
 exact gs
theorem spec_l5Val_ok : ∀ (c : Gl1Cur), Ok (spec_l5Val c) e_spec_l5Val (dn FTA n_spec_l5Val [.lp [.sl false (c.xb.map (rK .u8)), .v (.int .i64 c.xi), .v (.int .i64 c.xh)] 0]) := by
 intro c
 rw [den_ev FTA (fn := k_spec_l5Val) rfl (xN rfl rfl _) (lB rfl)]
 have k0 := @k_spec_l5Val.eq_1; have f0 := @spec_l5Val.eq_1; have g0 := spec_l1Str_ok
 exact gs
theorem spec_l5Less_ok : ∀ (a : GAttr) (b : GAttr), Ok (spec_l5Less a b) e_spec_l5Less (dn FTA n_spec_l5Less [.agg ((GAttr.row a).map .t), .agg ((GAttr.row b).map .t)]) := by
 intro a b
 rw [den_ev FTA (fn := k_spec_l5Less) rfl (xN rfl rfl _) (lB rfl)]
 have k0 := @k_spec_l5Less.eq_1; have f0 := @spec_l5Less.eq_1
 exact gs
theorem G_spec_l5All : (∀ (l : List GNode), Ok (spec_l5All l) e_spec_l5All (dn FTA n_spec_l5All [.t (.sl false (l.map (GNode.row false)))])) ∧
  (∀ (l : List GNode) (out : List (GNode)) (i : Int), Ok (spec_l5All_l8 l out i) e_spec_l5All (ev FTA c_spec_l5All (.loop k_spec_l5All_l8) [.lv 0, .th k_spec_l5All_r4] (putS (List.replicate 23 .dead) [(0, .t (.sl false (l.map (GNode.row false)))), (3, .ref (6, 0) out.length), (4, .t (.v (.int .i64 i)))]) (putR (List.replicate 23 []) [(6, [.mem (out.map (GNode.row true)) 0 false])]))) ∧
  (∀ (n : GNode), Ok (spec_l5Copy n) e_spec_l5Copy (dn FTA n_spec_l5Copy [.agg (((GNode.row false) n).map .t)])) := by
 unfold Ok
 refine spec_l5All.mutual_partial_correctness _ _ _ ?_ ?_ ?_
 ·intro F1 ih1 l
  show Ok _ _ _
  have ih1 : ∀ (l : List GNode) (out : List (GNode)) (i : Int), Ok (F1 l out i) _ _ := ih1
  rw [den_ev FTA (fn := k_spec_l5All) rfl (xN rfl rfl _) (lB rfl)]
  have k0 := @k_spec_l5All.eq_1; have t0 := ih1
  exact gs
 ·intro F1 F2 ih1 ih2 l out i
  show Ok _ _ _
  have ih2 : ∀ (n : GNode), Ok (F2 n) _ _ := ih2
  have ih1 : ∀ (l : List GNode) (out : List (GNode)) (i : Int), Ok (F1 l out i) _ _ := ih1
  rw [ev_loop]
  have k0 := @k_spec_l5All_l8.eq_1; have k1 := @k_spec_l5All_r4.eq_1; have g0 := ih2; have t0 := ih1
  exact gs
 ·intro F0 ih0 n
  show Ok _ _ _
  have ih0 : ∀ (l : List GNode), Ok (F0 l) _ _ := ih0
  rw [den_ev FTA (fn := k_spec_l5Copy) rfl (xN rfl rfl _) (lB rfl)]
  have k0 := @k_spec_l5Copy.eq_1; have g0 := ih0
  exact gs
theorem spec_l5All_ok (l : List GNode) : Ok (spec_l5All l) e_spec_l5All (dn FTA n_spec_l5All [.t (.sl false (l.map (GNode.row false)))]) := G_spec_l5All.1 l
theorem spec_l5Copy_ok (n : GNode) : Ok (spec_l5Copy n) e_spec_l5Copy (dn FTA n_spec_l5Copy [.agg (((GNode.row false) n).map .t)]) := G_spec_l5All.2.2 n
theorem G_spec_Merge_j29 (l : List GNode) : (∀ (out : List (GNode)) (i : Int) (x8 : Bool) (x6 : GNode), Ok (spec_Merge_j29 l out i x8 x6) e_spec_Merge (ev FTA c_spec_Merge k_spec_Merge_r29 [.th k_spec_Merge_r19, .lv 1, .th k_spec_Merge_r15, .hk [.clean [5, 6, 54, 57]], .th (.loop k_spec_Merge_l8), .lv 0, .th k_spec_Merge_r4] (putS (List.replicate 60 .dead) [(0, .t (.sl false (l.map (GNode.row false)))), (3, .ref (7, 0) out.length), (4, .t (.v (.int .i64 i))), (5, .ptr (5, 0) [] 0 0 1 0), (36, .t (.v (.bool x8)))]) (putR (List.replicate 60 []) [(5, [.mem [[.v (.int .i64 x6.Kind), .v (.string x6.Pre), .v (.string x6.Local), .v (.string x6.Uri), .sl false (x6.Decls.map GDecl.row), .sl false (x6.Attrs.map GAttr.row), .sl false (x6.Kids.map (GNode.row false)), .v (.string x6.Text)]] 0 false]), (7, [.mem (out.map (GNode.row true)) 0 false])]))) ∧
  (∀ (out : List (GNode)) (i : Int), Ok (spec_Merge_l8 l out i) e_spec_Merge (ev FTA c_spec_Merge (.loop k_spec_Merge_l8) [.lv 0, .th k_spec_Merge_r4] (putS (List.replicate 60 .dead) [(0, .t (.sl false (l.map (GNode.row false)))), (3, .ref (7, 0) out.length), (4, .t (.v (.int .i64 i)))]) (putR (List.replicate 60 []) [(7, [.mem (out.map (GNode.row true)) 0 false])]))) := by
 unfold Ok
 refine spec_Merge_j29.mutual_partial_correctness l _ _ ?_ ?_
 ·intro F1 ih1 out i x8 x6
  show Ok _ _ _
  have ih1 : ∀ (out : List (GNode)) (i : Int), Ok (F1 out i) _ _ := ih1
  have k0 := @k_spec_Merge_r29.eq_1; have k1 := @k_spec_Merge_r15.eq_1; have k2 := @k_spec_Merge_r19.eq_1; have g0 := spec_l5Copy_ok; have t0 := ih1
  exact gs
 ·intro F0 F1 ih0 ih1 out i
  show Ok _ _ _
  have ih1 : ∀ (out : List (GNode)) (i : Int), Ok (F1 out i) _ _ := ih1
  have ih0 : ∀ (out : List (GNode)) (i : Int) (x8 : Bool) (x6 : GNode), Ok (F0 out i x8 x6) _ _ := ih0
  rw [ev_loop]
  have k0 := @k_spec_Merge_l8.eq_1; have k1 := @k_spec_Merge_r15.eq_1; have k2 := @k_spec_Merge_r19.eq_1; have k3 := @k_spec_Merge_r4.eq_1; have g0 := spec_l5Copy_ok; have t0 := ih1; have t1 := ih0
  exact gs
theorem spec_Merge_ok : ∀ (l : List GNode), Ok (spec_Merge l) e_spec_Merge (dn FTA n_spec_Merge [.t (.sl false (l.map (GNode.row false)))]) := by
 intro l
 rw [den_ev FTA (fn := k_spec_Merge) rfl (xN rfl rfl _) (lB rfl)]
 have k0 := @k_spec_Merge.eq_1; have f0 := @spec_Merge.eq_1; have t0 := fun a0 => (G_spec_Merge_j29 a0).2
 exact gs
theorem G_spec_l5El : (∀ (c : Gl1Cur) (in1 : List GDecl) (most : Int), Ok (spec_l5El c in1 most) e_spec_l5El (dn FTA n_spec_l5El [.lp [.sl false (c.xb.map (rK .u8)), .v (.int .i64 c.xi), .v (.int .i64 c.xh)] 0, .t (.sl false (in1.map GDecl.row)), .lp [.v (.int .i64 most)] 0])) ∧
  (∀ (in1 : List GDecl) (c1 : Gl1Cur) (most : Int) (r : ByteArray × Gl1Cur) (nDecls : List (GDecl)), Ok (spec_l5El_j4 in1 c1 most r nDecls) e_spec_l5El (ev FTA c_spec_l5El k_spec_l5El_r4 [] (putS (List.replicate 175 .dead) [(0, .ptr (0, 0) [] 0 0 1 0), (1, .t (.sl false (in1.map GDecl.row))), (2, .ptr (2, 0) [] 0 0 1 0), (6, .ptr (6, 0) [] 0 0 1 0), (7, .ptr (7, 0) [] 0 0 1 0)]) (putR (List.replicate 175 []) [(0, [.mem [[.sl false (c1.xb.map (rK .u8)), .v (.int .i64 c1.xi), .v (.int .i64 c1.xh)]] 0 true]), (2, [.mem [[.v (.int .i64 most)]] 0 true]), (6, [.mem [[.v (.int .i64 0), .v (.string (⟨#[]⟩)), .v (.string (⟨#[]⟩)), .v (.string (⟨#[]⟩)), .sl true [], .sl true [], .sl true [], .v (.string (⟨#[]⟩))]] 0 false]), (7, [.mem [[.v (.int .i64 1), .v (.string (⟨#[]⟩)), .v (.string r.1), .v (.string (⟨#[]⟩)), .sl true (nDecls.map GDecl.row), .sl true [], .sl true [], .v (.string (⟨#[]⟩))]] 0 false])]))) ∧
  (∀ (r3 : List GDecl) (c2 : Gl1Cur) (most : Int) (nPre : ByteArray) (r : ByteArray × Gl1Cur) (nDecls : List (GDecl)), Ok (spec_l5El_j12 r3 c2 most nPre r nDecls) e_spec_l5El (ev FTA c_spec_l5El k_spec_l5El_r12 [] (putS (List.replicate 175 .dead) [(0, .ptr (0, 0) [] 0 0 1 0), (2, .ptr (2, 0) [] 0 0 1 0), (6, .ptr (6, 0) [] 0 0 1 0), (7, .ptr (7, 0) [] 0 0 1 0), (8, .t (.sl false (r3.map GDecl.row)))]) (putR (List.replicate 175 []) [(0, [.mem [[.sl false (c2.xb.map (rK .u8)), .v (.int .i64 c2.xi), .v (.int .i64 c2.xh)]] 0 true]), (2, [.mem [[.v (.int .i64 most)]] 0 true]), (6, [.mem [[.v (.int .i64 0), .v (.string (⟨#[]⟩)), .v (.string (⟨#[]⟩)), .v (.string (⟨#[]⟩)), .sl true [], .sl true [], .sl true [], .v (.string (⟨#[]⟩))]] 0 false]), (7, [.mem [[.v (.int .i64 1), .v (.string nPre), .v (.string r.1), .v (.string (⟨#[]⟩)), .sl true (nDecls.map GDecl.row), .sl true [], .sl true [], .v (.string (⟨#[]⟩))]] 0 false])]))) ∧
  (∀ (r3 : List GDecl) (u : ByteArray) (c2 : Gl1Cur) (most : Int) (nPre1 : ByteArray) (r : ByteArray × Gl1Cur) (nDecls : List (GDecl)), Ok (spec_l5El_j20 r3 u c2 most nPre1 r nDecls) e_spec_l5El (ev FTA c_spec_l5El k_spec_l5El_r20 [] (putS (List.replicate 175 .dead) [(0, .ptr (0, 0) [] 0 0 1 0), (2, .ptr (2, 0) [] 0 0 1 0), (6, .ptr (6, 0) [] 0 0 1 0), (7, .ptr (7, 0) [] 0 0 1 0), (8, .t (.sl false (r3.map GDecl.row))), (9, .t (.v (.string u)))]) (putR (List.replicate 175 []) [(0, [.mem [[.sl false (c2.xb.map (rK .u8)), .v (.int .i64 c2.xi), .v (.int .i64 c2.xh)]] 0 true]), (2, [.mem [[.v (.int .i64 most)]] 0 true]), (6, [.mem [[.v (.int .i64 0), .v (.string (⟨#[]⟩)), .v (.string (⟨#[]⟩)), .v (.string (⟨#[]⟩)), .sl true [], .sl true [], .sl true [], .v (.string (⟨#[]⟩))]] 0 false]), (7, [.mem [[.v (.int .i64 1), .v (.string nPre1), .v (.string r.1), .v (.string (⟨#[]⟩)), .sl true (nDecls.map GDecl.row), .sl true [], .sl true [], .v (.string (⟨#[]⟩))]] 0 false])]))) ∧
  (∀ (r3 : List GDecl) (i1 : Int) (c4 : Gl1Cur) (most : Int) (nPre1 : ByteArray) (r : ByteArray × Gl1Cur) (u : ByteArray) (nDecls : List (GDecl)) (nAttrs : List (GAttr)), Ok (spec_l5El_l34 r3 i1 c4 most nPre1 r u nDecls nAttrs) e_spec_l5El (ev FTA c_spec_l5El (.loop k_spec_l5El_l34) [.lv 0, .th k_spec_l5El_r30] (putS (List.replicate 175 .dead) [(0, .ptr (0, 0) [] 0 0 1 0), (2, .ptr (2, 0) [] 0 0 1 0), (6, .ptr (6, 0) [] 0 0 1 0), (7, .ptr (7, 0) [] 0 0 1 0), (8, .t (.sl false (r3.map GDecl.row))), (11, .t (.v (.int .i64 i1)))]) (putR (List.replicate 175 []) [(0, [.mem [[.sl false (c4.xb.map (rK .u8)), .v (.int .i64 c4.xi), .v (.int .i64 c4.xh)]] 0 true]), (2, [.mem [[.v (.int .i64 most)]] 0 true]), (6, [.mem [[.v (.int .i64 0), .v (.string (⟨#[]⟩)), .v (.string (⟨#[]⟩)), .v (.string (⟨#[]⟩)), .sl true [], .sl true [], .sl true [], .v (.string (⟨#[]⟩))]] 0 false]), (7, [.mem [[.v (.int .i64 1), .v (.string nPre1), .v (.string r.1), .v (.string u), .sl true (nDecls.map GDecl.row), .sl true (nAttrs.map GAttr.row), .sl true [], .v (.string (⟨#[]⟩))]] 0 false])]))) ∧
  (∀ (r3 : List GDecl) (i2 : Int) (c5 : Gl1Cur) (most2 : Int) (nPre1 : ByteArray) (r : ByteArray × Gl1Cur) (u : ByteArray) (nDecls : List (GDecl)) (nAttrs : List (GAttr)) (nKids1 : List (GNode)), Ok (spec_l5El_l67 r3 i2 c5 most2 nPre1 r u nDecls nAttrs nKids1) e_spec_l5El (ev FTA c_spec_l5El (.loop k_spec_l5El_l67) [.lv 2, .th k_spec_l5El_r63] (putS (List.replicate 175 .dead) [(0, .ptr (0, 0) [] 0 0 1 0), (2, .ptr (2, 0) [] 0 0 1 0), (6, .ptr (6, 0) [] 0 0 1 0), (7, .ptr (7, 0) [] 0 0 1 0), (8, .t (.sl false (r3.map GDecl.row))), (16, .t (.v (.int .i64 i2)))]) (putR (List.replicate 175 []) [(0, [.mem [[.sl false (c5.xb.map (rK .u8)), .v (.int .i64 c5.xi), .v (.int .i64 c5.xh)]] 0 true]), (2, [.mem [[.v (.int .i64 most2)]] 0 true]), (6, [.mem [[.v (.int .i64 0), .v (.string (⟨#[]⟩)), .v (.string (⟨#[]⟩)), .v (.string (⟨#[]⟩)), .sl true [], .sl true [], .sl true [], .v (.string (⟨#[]⟩))]] 0 false]), (7, [.mem [[.v (.int .i64 1), .v (.string nPre1), .v (.string r.1), .v (.string u), .sl true (nDecls.map GDecl.row), .sl true (nAttrs.map GAttr.row), .sl true (nKids1.map (GNode.row true)), .v (.string (⟨#[]⟩))]] 0 false])]))) ∧
  (∀ (r3 : List GDecl) (i2 : Int) (r42 : Int × Gl1Cur) (x5 : Bool) (most2 : Int) (nPre1 : ByteArray) (r : ByteArray × Gl1Cur) (u : ByteArray) (nDecls : List (GDecl)) (nAttrs : List (GAttr)) (nKids1 : List (GNode)), Ok (spec_l5El_j81 r3 i2 r42 x5 most2 nPre1 r u nDecls nAttrs nKids1) e_spec_l5El (ev FTA c_spec_l5El k_spec_l5El_r81 [.lv 4, .lv 3, .th k_spec_l5El_r74, .hk [.clean [17, 129, 133, 134, 142, 145, 146, 153, 156, 157, 164, 167, 168]], .th (.loop k_spec_l5El_l67), .lv 2, .th k_spec_l5El_r63] (putS (List.replicate 175 .dead) [(0, .ptr (0, 0) [] 0 0 1 0), (2, .ptr (2, 0) [] 0 0 1 0), (6, .ptr (6, 0) [] 0 0 1 0), (7, .ptr (7, 0) [] 0 0 1 0), (8, .t (.sl false (r3.map GDecl.row))), (16, .t (.v (.int .i64 i2))), (125, .t (.v (.int .i64 r42.1))), (136, .t (.v (.bool x5)))]) (putR (List.replicate 175 []) [(0, [.mem [[.sl false (r42.2.xb.map (rK .u8)), .v (.int .i64 r42.2.xi), .v (.int .i64 r42.2.xh)]] 0 true]), (2, [.mem [[.v (.int .i64 (subI most2 1))]] 0 true]), (6, [.mem [[.v (.int .i64 0), .v (.string (⟨#[]⟩)), .v (.string (⟨#[]⟩)), .v (.string (⟨#[]⟩)), .sl true [], .sl true [], .sl true [], .v (.string (⟨#[]⟩))]] 0 false]), (7, [.mem [[.v (.int .i64 1), .v (.string nPre1), .v (.string r.1), .v (.string u), .sl true (nDecls.map GDecl.row), .sl true (nAttrs.map GAttr.row), .sl true (nKids1.map (GNode.row true)), .v (.string (⟨#[]⟩))]] 0 false])]))) ∧
  (∀ (r3 : List GDecl) (i1 : Int) (r31 : ByteArray × Gl1Cur) (most : Int) (nPre1 : ByteArray) (r : ByteArray × Gl1Cur) (u : ByteArray) (nDecls : List (GDecl)) (nAttrs : List (GAttr)) (a1 : GAttr), Ok (spec_l5El_j49 r3 i1 r31 most nPre1 r u nDecls nAttrs a1) e_spec_l5El (ev FTA c_spec_l5El k_spec_l5El_r49 [.lv 1, .th k_spec_l5El_r41, .hk [.clean [12, 61, 67, 103, 104]], .th (.loop k_spec_l5El_l34), .lv 0, .th k_spec_l5El_r30] (putS (List.replicate 175 .dead) [(0, .ptr (0, 0) [] 0 0 1 0), (2, .ptr (2, 0) [] 0 0 1 0), (6, .ptr (6, 0) [] 0 0 1 0), (7, .ptr (7, 0) [] 0 0 1 0), (8, .t (.sl false (r3.map GDecl.row))), (11, .t (.v (.int .i64 i1))), (12, .ptr (12, 0) [] 0 0 1 0)]) (putR (List.replicate 175 []) [(0, [.mem [[.sl false (r31.2.xb.map (rK .u8)), .v (.int .i64 r31.2.xi), .v (.int .i64 r31.2.xh)]] 0 true]), (2, [.mem [[.v (.int .i64 most)]] 0 true]), (6, [.mem [[.v (.int .i64 0), .v (.string (⟨#[]⟩)), .v (.string (⟨#[]⟩)), .v (.string (⟨#[]⟩)), .sl true [], .sl true [], .sl true [], .v (.string (⟨#[]⟩))]] 0 false]), (7, [.mem [[.v (.int .i64 1), .v (.string nPre1), .v (.string r.1), .v (.string u), .sl true (nDecls.map GDecl.row), .sl true (nAttrs.map GAttr.row), .sl true [], .v (.string (⟨#[]⟩))]] 0 false]), (12, [.mem [[.v (.string a1.Pre), .v (.string a1.Local), .v (.string a1.Uri), .v (.string a1.Val)]] 0 false])]))) := by
 unfold Ok
 refine spec_l5El.mutual_partial_correctness _ _ _ _ _ _ _ _ ?_ ?_ ?_ ?_ ?_ ?_ ?_ ?_
 ·intro F1 ih1 c in1 most
  show Ok _ _ _
  have ih1 : ∀ (in1 : List GDecl) (c1 : Gl1Cur) (most : Int) (r : ByteArray × Gl1Cur) (nDecls : List (GDecl)), Ok (F1 in1 c1 most r nDecls) _ _ := ih1
  rw [den_ev FTA (fn := k_spec_l5El) rfl (xN rfl rfl _) (lB rfl)]
  have k0 := @k_spec_l5El.eq_1; have g0 := spec_l1Str_ok; have g1 := spec_l1Once_ok; have g2 := spec_l4Draw_ok; have t0 := ih1
  exact gs
 ·intro F2 ih2 in1 c1 most r nDecls
  show Ok _ _ _
  have ih2 : ∀ (r3 : List GDecl) (c2 : Gl1Cur) (most : Int) (nPre : ByteArray) (r : ByteArray × Gl1Cur) (nDecls : List (GDecl)), Ok (F2 r3 c2 most nPre r nDecls) _ _ := ih2
  have k0 := @k_spec_l5El_r4.eq_1; have g0 := spec_Inner_ok; have g1 := spec_l1Once_ok; have g2 := spec_l1Str_ok; have t0 := ih2
  exact gs
 ·intro F3 ih3 r3 c2 most nPre r nDecls
  show Ok _ _ _
  have ih3 : ∀ (r3 : List GDecl) (u : ByteArray) (c2 : Gl1Cur) (most : Int) (nPre1 : ByteArray) (r : ByteArray × Gl1Cur) (nDecls : List (GDecl)), Ok (F3 r3 u c2 most nPre1 r nDecls) _ _ := ih3
  have k0 := @k_spec_l5El_r12.eq_1; have g0 := spec_SpaceOf_ok; have t0 := ih3
  exact gs
 ·intro F4 ih4 r3 u c2 most nPre1 r nDecls
  show Ok _ _ _
  have ih4 : ∀ (r3 : List GDecl) (i1 : Int) (c4 : Gl1Cur) (most : Int) (nPre1 : ByteArray) (r : ByteArray × Gl1Cur) (u : ByteArray) (nDecls : List (GDecl)) (nAttrs : List (GAttr)), Ok (F4 r3 i1 c4 most nPre1 r u nDecls nAttrs) _ _ := ih4
  have k0 := @k_spec_l5El_r20.eq_1; have g0 := spec_l1Below_ok; have t0 := ih4
  exact gs
 ·intro F5 F7 ih5 ih7 r3 i1 c4 most nPre1 r u nDecls nAttrs
  show Ok _ _ _
  have ih7 : ∀ (r3 : List GDecl) (i1 : Int) (r31 : ByteArray × Gl1Cur) (most : Int) (nPre1 : ByteArray) (r : ByteArray × Gl1Cur) (u : ByteArray) (nDecls : List (GDecl)) (nAttrs : List (GAttr)) (a1 : GAttr), Ok (F7 r3 i1 r31 most nPre1 r u nDecls nAttrs a1) _ _ := ih7
  have ih5 : ∀ (r3 : List GDecl) (i2 : Int) (c5 : Gl1Cur) (most2 : Int) (nPre1 : ByteArray) (r : ByteArray × Gl1Cur) (u : ByteArray) (nDecls : List (GDecl)) (nAttrs : List (GAttr)) (nKids1 : List (GNode)), Ok (F5 r3 i2 c5 most2 nPre1 r u nDecls nAttrs nKids1) _ _ := ih5
  rw [ev_loop]
  have k0 := @k_spec_l5El_l34.eq_1; have k1 := @k_spec_l5El_r30.eq_1; have g0 := spec_l1Str_ok; have g1 := spec_l5Val_ok; have g2 := spec_SpaceOf_ok; have g3 := spec_l1Below_ok; have t0 := ih7; have t1 := ih5
  exact gs
 ·intro F6 ih6 r3 i2 c5 most2 nPre1 r u nDecls nAttrs nKids1
  show Ok _ _ _
  have ih6 : ∀ (r3 : List GDecl) (i2 : Int) (r42 : Int × Gl1Cur) (x5 : Bool) (most2 : Int) (nPre1 : ByteArray) (r : ByteArray × Gl1Cur) (u : ByteArray) (nDecls : List (GDecl)) (nAttrs : List (GAttr)) (nKids1 : List (GNode)), Ok (F6 r3 i2 r42 x5 most2 nPre1 r u nDecls nAttrs nKids1) _ _ := ih6
  rw [ev_loop]
  have k0 := @k_spec_l5El_l67.eq_1; have k1 := @k_spec_l5El_r63.eq_1; have g0 := spec_l1Below_ok; have g1 := spec_Merge_ok; have t0 := ih6
  exact gs
 ·intro F0 F5 ih0 ih5 r3 i2 r42 x5 most2 nPre1 r u nDecls nAttrs nKids1
  show Ok _ _ _
  have ih0 : ∀ (c : Gl1Cur) (in1 : List GDecl) (most : Int), Ok (F0 c in1 most) _ _ := ih0
  have ih5 : ∀ (r3 : List GDecl) (i2 : Int) (c5 : Gl1Cur) (most2 : Int) (nPre1 : ByteArray) (r : ByteArray × Gl1Cur) (u : ByteArray) (nDecls : List (GDecl)) (nAttrs : List (GAttr)) (nKids1 : List (GNode)), Ok (F5 r3 i2 c5 most2 nPre1 r u nDecls nAttrs nKids1) _ _ := ih5
  have k0 := @k_spec_l5El_r81.eq_1; have k1 := @k_spec_l5El_r74.eq_1; have g0 := spec_l1Str_ok; have g1 := ih0; have t0 := ih5
  exact gs
 ·intro F4 ih4 r3 i1 r31 most nPre1 r u nDecls nAttrs a1
  show Ok _ _ _
  have ih4 : ∀ (r3 : List GDecl) (i1 : Int) (c4 : Gl1Cur) (most : Int) (nPre1 : ByteArray) (r : ByteArray × Gl1Cur) (u : ByteArray) (nDecls : List (GDecl)) (nAttrs : List (GAttr)), Ok (F4 r3 i1 c4 most nPre1 r u nDecls nAttrs) _ _ := ih4
  have k0 := @k_spec_l5El_r49.eq_1; have k1 := @k_spec_l5El_r41.eq_1; have g0 := spec_l5Less_ok; have t0 := ih4
  exact gs
theorem spec_l5El_ok (c : Gl1Cur) (in1 : List GDecl) (most : Int) : Ok (spec_l5El c in1 most) e_spec_l5El (dn FTA n_spec_l5El [.lp [.sl false (c.xb.map (rK .u8)), .v (.int .i64 c.xi), .v (.int .i64 c.xh)] 0, .t (.sl false (in1.map GDecl.row)), .lp [.v (.int .i64 most)] 0]) := G_spec_l5El.1 c in1 most
end TT
