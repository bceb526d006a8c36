import Derived.Test.YtjljocncnibofaaGreatDoorTKK
import Derived.Test.YtjljocncnibofaaGreatDoorTDefs
set_option maxHeartbeats 40000000
set_option linter.unusedVariables false
set_option linter.unusedSimpArgs false
set_option linter.defProp false
set_option maxRecDepth 100000
namespace TT
open Go
open Nat (reduceAdd reduceSub reduceMul reduceLeDiff reduceLT reduceEqDiff)
def e_laws_szDecl (r : Int) : Res := ⟨[.t (.v (.int .i64 r))], []⟩
def c_laws_szDecl : Cx := ⟨2, [0, 0], [.tmp 4]⟩
def e_laws_szDeclS (r : Int) : Res := ⟨[.t (.v (.int .i64 r))], []⟩
def c_laws_szDeclS : Cx := ⟨2, [0, 0], [.tmp 4]⟩
def e_laws_szAttr (r : Int) : Res := ⟨[.t (.v (.int .i64 r))], []⟩
def c_laws_szAttr : Cx := ⟨2, [0, 0], [.tmp 4]⟩
def e_laws_szAttrS (r : Int) : Res := ⟨[.t (.v (.int .i64 r))], []⟩
def c_laws_szAttrS : Cx := ⟨2, [0, 0], [.tmp 4]⟩
def e_laws_szNode (r : Int) : Res := ⟨[.t (.v (.int .i64 r))], []⟩
def c_laws_szNode : Cx := ⟨2, [0, 0], [.tmp 4]⟩
def e_laws_szNodeS (r : Int) : Res := ⟨[.t (.v (.int .i64 r))], []⟩
def c_laws_szNodeS : Cx := ⟨2, [0, 0], [.tmp 4]⟩
def e_laws_toDecl (r : GDecl) : Res := ⟨[.agg [.v (.string r.Pre), .v (.string r.Uri)]], []⟩
def c_laws_toDecl : Cx := ⟨1, [0], [.cell 2 2 true]⟩
def e_laws_toDeclS (r : List GDecl) : Res := ⟨[.t (.sl true (r.map GDecl.row))], []⟩
def c_laws_toDeclS : Cx := ⟨1, [0], [.tmp 2]⟩
def e_laws_toAttr (r : GAttr) : Res := ⟨[.agg [.v (.string r.Pre), .v (.string r.Local), .v (.string r.Uri), .v (.string r.Val)]], []⟩
def c_laws_toAttr : Cx := ⟨1, [0], [.cell 2 4 true]⟩
def e_laws_toAttrS (r : List GAttr) : Res := ⟨[.t (.sl true (r.map GAttr.row))], []⟩
def c_laws_toAttrS : Cx := ⟨1, [0], [.tmp 2]⟩
def e_laws_toNode (r : GNode) : Res := ⟨[.agg [.v (.int .i64 r.Kind), .v (.string r.Pre), .v (.string r.Local), .v (.string r.Uri), .sl true (r.Decls.map GDecl.row), .sl true (r.Attrs.map GAttr.row), .sl true (r.Kids.map (GNode.row true)), .v (.string r.Text)]], []⟩
def c_laws_toNode : Cx := ⟨1, [0], [.cell 2 8 true]⟩
def e_laws_toNodeS (r : List GNode) : Res := ⟨[.t (.sl true (r.map (GNode.row true)))], []⟩
def c_laws_toNodeS : Cx := ⟨1, [0], [.tmp 2]⟩
def e_spec_l5All (r : List GNode) : Res := ⟨[.t (.sl true (r.map (GNode.row true)))], []⟩
def c_spec_l5All : Cx := ⟨1, [0], [.tmp 2]⟩
def e_spec_l5Copy (r : GNode) : Res := ⟨[.agg [.v (.int .i64 r.Kind), .v (.string r.Pre), .v (.string r.Local), .v (.string r.Uri), .sl true (r.Decls.map GDecl.row), .sl true (r.Attrs.map GAttr.row), .sl true (r.Kids.map (GNode.row true)), .v (.string r.Text)]], []⟩
def c_spec_l5Copy : Cx := ⟨1, [0], [.cell 2 8 true]⟩
def e_spec_Inner (r : List GDecl) : Res := ⟨[.t (.sl true (r.map GDecl.row))], []⟩
def c_spec_Inner : Cx := ⟨2, [0, 0], [.tmp 4]⟩
def e_spec_SpaceOf (r : ByteArray × Bool) : Res := ⟨[.t (.v (.string r.1)), .t (.v (.bool r.2))], []⟩
def c_spec_SpaceOf : Cx := ⟨2, [0, 0], [.tmp 4, .tmp 5]⟩
def e_spec_l5Less (r : Bool) : Res := ⟨[.t (.v (.bool r))], []⟩
def c_spec_l5Less : Cx := ⟨2, [0, 0], [.tmp 4]⟩
def e_spec_l8Attrs (r : List GAttr) : Res := ⟨[.t (.sl true (r.map GAttr.row))], []⟩
def c_spec_l8Attrs : Cx := ⟨1, [0], [.tmp 2]⟩
def e_spec_l14Rename (r : GNode × Bool) : Res := ⟨[.agg [.v (.int .i64 r.1.Kind), .v (.string r.1.Pre), .v (.string r.1.Local), .v (.string r.1.Uri), .sl true (r.1.Decls.map GDecl.row), .sl true (r.1.Attrs.map GAttr.row), .sl true (r.1.Kids.map (GNode.row true)), .v (.string r.1.Text)], .t (.v (.bool r.2))], []⟩
def c_spec_l14Rename : Cx := ⟨2, [0, 0], [.cell 4 8 true, .tmp 5]⟩
def e_spec_CountOf (r : Int) : Res := ⟨[.t (.v (.int .i64 r))], []⟩
def c_spec_CountOf : Cx := ⟨1, [0], [.tmp 2]⟩
def e_spec_l1In (r : Bool) : Res := ⟨[.t (.v (.bool r))], []⟩
def c_spec_l1In : Cx := ⟨3, [0, 0, 0], [.tmp 6]⟩
def e_spec_SignAt (r : Int × Int × Bool) : Res := ⟨[.t (.v (.int .i64 r.1)), .t (.v (.int .i64 r.2.1)), .t (.v (.bool r.2.2))], []⟩
def c_spec_SignAt : Cx := ⟨2, [0, 0], [.tmp 4, .tmp 5, .tmp 6]⟩
def e_spec_l1Ranges (r : Bool) : Res := ⟨[.t (.v (.bool r))], []⟩
def c_spec_l1Ranges : Cx := ⟨2, [0, 0], [.tmp 4]⟩
def e_spec_IsStart (r : Bool) : Res := ⟨[.t (.v (.bool r))], []⟩
def c_spec_IsStart : Cx := ⟨1, [0], [.tmp 2]⟩
def e_spec_IsPart (r : Bool) : Res := ⟨[.t (.v (.bool r))], []⟩
def c_spec_IsPart : Cx := ⟨1, [0], [.tmp 2]⟩
def e_spec_PlainOk (r : Bool) : Res := ⟨[.t (.v (.bool r))], []⟩
def c_spec_PlainOk : Cx := ⟨1, [0], [.tmp 2]⟩
def e_spec_l4Xml (r : Bool) : Res := ⟨[.t (.v (.bool r))], []⟩
def c_spec_l4Xml : Cx := ⟨1, [0], [.tmp 2]⟩
def e_spec_l5Pre (r : Bool) : Res := ⟨[.t (.v (.bool r))], []⟩
def c_spec_l5Pre : Cx := ⟨1, [0], [.tmp 2]⟩
def e_spec_IsSign (r : Bool) : Res := ⟨[.t (.v (.bool r))], []⟩
def c_spec_IsSign : Cx := ⟨1, [0], [.tmp 2]⟩
def e_spec_l1Signs (r : Bool) : Res := ⟨[.t (.v (.bool r))], []⟩
def c_spec_l1Signs : Cx := ⟨1, [0], [.tmp 2]⟩
def e_spec_TextOk (r : Bool) : Res := ⟨[.t (.v (.bool r))], []⟩
def c_spec_TextOk : Cx := ⟨1, [0], [.tmp 2]⟩
def e_spec_DeclOk (r : Bool) : Res := ⟨[.t (.v (.bool r))], []⟩
def c_spec_DeclOk : Cx := ⟨1, [0], [.tmp 2]⟩
def e_spec_DeclsOk (r : Bool) : Res := ⟨[.t (.v (.bool r))], []⟩
def c_spec_DeclsOk : Cx := ⟨1, [0], [.tmp 2]⟩
def e_spec_l5Bare (r : Bool) : Res := ⟨[.t (.v (.bool r))], []⟩
def c_spec_l5Bare : Cx := ⟨1, [0], [.tmp 2]⟩
def e_spec_l5Has (r : Bool) : Res := ⟨[.t (.v (.bool r))], []⟩
def c_spec_l5Has : Cx := ⟨2, [0, 0], [.tmp 4]⟩
def e_spec_l5Xml (r : Bool) : Res := ⟨[.t (.v (.bool r))], []⟩
def c_spec_l5Xml : Cx := ⟨1, [0], [.tmp 2]⟩
def e_spec_IsBlank (r : Bool) : Res := ⟨[.t (.v (.bool r))], []⟩
def c_spec_IsBlank : Cx := ⟨1, [0], [.tmp 2]⟩
def e_spec_l5AttrOk (r : Bool) : Res := ⟨[.t (.v (.bool r))], []⟩
def c_spec_l5AttrOk : Cx := ⟨1, [0], [.tmp 2]⟩
def e_spec_l5One (r : Bool) : Res := ⟨[.t (.v (.bool r))], []⟩
def c_spec_l5One : Cx := ⟨1, [0], [.tmp 2]⟩
def e_spec_l5Kids (r : Bool) : Res := ⟨[.t (.v (.bool r))], []⟩
def c_spec_l5Kids : Cx := ⟨2, [0, 0], [.tmp 4]⟩
def e_spec_NodeOk (r : Bool) : Res := ⟨[.t (.v (.bool r))], []⟩
def c_spec_NodeOk : Cx := ⟨1, [0], [.tmp 2]⟩
def e_spec_Rename (r : GNode × Bool) : Res := ⟨[.agg [.v (.int .i64 r.1.Kind), .v (.string r.1.Pre), .v (.string r.1.Local), .v (.string r.1.Uri), .sl true (r.1.Decls.map GDecl.row), .sl true (r.1.Attrs.map GAttr.row), .sl true (r.1.Kids.map (GNode.row true)), .v (.string r.1.Text)], .t (.v (.bool r.2))], []⟩
def c_spec_Rename : Cx := ⟨2, [0, 0], [.cell 4 8 true, .tmp 5]⟩
def e_slices_Clone_Decl (r : List GDecl) : Res := ⟨[.t (.sl true (r.map GDecl.row))], []⟩
def c_slices_Clone_Decl : Cx := ⟨1, [0], [.tmp 2]⟩
def e_slices_Clone_Attr (r : List GAttr) : Res := ⟨[.t (.sl true (r.map GAttr.row))], []⟩
def c_slices_Clone_Attr : Cx := ⟨1, [0], [.tmp 2]⟩
def e_impl_cloneNode (r : GNode) : Res := ⟨[.agg [.v (.int .i64 r.Kind), .v (.string r.Pre), .v (.string r.Local), .v (.string r.Uri), .sl true (r.Decls.map GDecl.row), .sl true (r.Attrs.map GAttr.row), .sl true (r.Kids.map (GNode.row true)), .v (.string r.Text)]], []⟩
def c_impl_cloneNode : Cx := ⟨1, [0], [.cell 2 8 true]⟩
def e_impl_cloneNodes (r : List GNode) : Res := ⟨[.t (.sl true (r.map (GNode.row true)))], []⟩
def c_impl_cloneNodes : Cx := ⟨1, [0], [.tmp 2]⟩
def e_slices_Concat_Decl (r : List GDecl) : Res := ⟨[.t (.sl true (r.map GDecl.row))], []⟩
def c_slices_Concat_Decl : Cx := ⟨1, [0], [.tmp 2]⟩
def e_impl_Inner (r : List GDecl) : Res := ⟨[.t (.sl true (r.map GDecl.row))], []⟩
def c_impl_Inner : Cx := ⟨2, [0, 0], [.tmp 4]⟩
def e_impl_SpaceOf (r : ByteArray × Bool) : Res := ⟨[.t (.v (.string r.1)), .t (.v (.bool r.2))], []⟩
def c_impl_SpaceOf : Cx := ⟨2, [0, 0], [.cell 4 1 false, .cell 5 1 false]⟩
def e_strings_Compare (r : Int) : Res := ⟨[.t (.v (.int .i64 r))], []⟩
def c_strings_Compare : Cx := ⟨2, [0, 0], [.tmp 4]⟩
def e_impl_compareAttrs (r : Int) : Res := ⟨[.t (.v (.int .i64 r))], []⟩
def c_impl_compareAttrs : Cx := ⟨2, [0, 0], [.tmp 4]⟩
def e_slices_insertionSortCmpFunc_Attr_compareAttrs (r : List (GAttr)) : Res := ⟨[], [some (r.map GAttr.row)]⟩
def c_slices_insertionSortCmpFunc_Attr_compareAttrs : Cx := ⟨4, [1, 0, 0, 0], []⟩
def e_slices_symMergeCmpFunc_Attr_compareAttrs (r : List (GAttr)) : Res := ⟨[], [some (r.map GAttr.row)]⟩
def c_slices_symMergeCmpFunc_Attr_compareAttrs : Cx := ⟨5, [1, 0, 0, 0, 0], []⟩
def e_slices_swapRangeCmpFunc_Attr_compareAttrs (r : List (GAttr)) : Res := ⟨[], [some (r.map GAttr.row)]⟩
def c_slices_swapRangeCmpFunc_Attr_compareAttrs : Cx := ⟨5, [1, 0, 0, 0, 0], []⟩
def e_slices_rotateCmpFunc_Attr_compareAttrs (r : List (GAttr)) : Res := ⟨[], [some (r.map GAttr.row)]⟩
def c_slices_rotateCmpFunc_Attr_compareAttrs : Cx := ⟨5, [1, 0, 0, 0, 0], []⟩
def e_slices_stableCmpFunc_Attr_compareAttrs (r : List (GAttr)) : Res := ⟨[], [some (r.map GAttr.row)]⟩
def c_slices_stableCmpFunc_Attr_compareAttrs : Cx := ⟨3, [1, 0, 0], []⟩
def e_slices_SortStableFunc_Attr_compareAttrs (r : List (GAttr)) : Res := ⟨[], [some (r.map GAttr.row)]⟩
def c_slices_SortStableFunc_Attr_compareAttrs : Cx := ⟨2, [1, 0], []⟩
def e_impl_renamed (r : GNode × Bool) : Res := ⟨[.agg [.v (.int .i64 r.1.Kind), .v (.string r.1.Pre), .v (.string r.1.Local), .v (.string r.1.Uri), .sl true (r.1.Decls.map GDecl.row), .sl true (r.1.Attrs.map GAttr.row), .sl true (r.1.Kids.map (GNode.row true)), .v (.string r.1.Text)], .t (.v (.bool r.2))], []⟩
def c_impl_renamed : Cx := ⟨2, [0, 0], [.cell 4 8 true, .tmp 5]⟩
def e_impl_CountOf (r : Int) : Res := ⟨[.t (.v (.int .i64 r))], []⟩
def c_impl_CountOf : Cx := ⟨1, [0], [.tmp 2]⟩
def e_impl_in (r : Bool) : Res := ⟨[.t (.v (.bool r))], []⟩
def c_impl_in : Cx := ⟨3, [0, 0, 0], [.tmp 6]⟩
def e_unicode_utf8_DecodeRuneInString (r : Int × Int) : Res := ⟨[.t (.v (.int .i32 r.1)), .t (.v (.int .i64 r.2))], []⟩
def c_unicode_utf8_DecodeRuneInString : Cx := ⟨1, [0], [.tmp 2, .tmp 3]⟩
def e_impl_SignAt (r : Int × Int × Bool) : Res := ⟨[.t (.v (.int .i64 r.1)), .t (.v (.int .i64 r.2.1)), .t (.v (.bool r.2.2))], []⟩
def c_impl_SignAt : Cx := ⟨2, [0, 0], [.tmp 4, .tmp 5, .tmp 6]⟩
def e_impl_inAny_1 (r : Bool × Int) : Res := ⟨[.t (.v (.bool r.1))], [some [[.v (.int .i64 r.2)]]]⟩
def c_impl_inAny_1 : Cx := ⟨2, [0, 1], [.tmp 3]⟩
def e_slices_IndexFunc_A2int_inAny_1 (r : Int × Int) : Res := ⟨[.t (.v (.int .i64 r.1))], [some [[.v (.int .i64 r.2)]]]⟩
def c_slices_IndexFunc_A2int_inAny_1 : Cx := ⟨2, [0, 1], [.tmp 4]⟩
def e_slices_ContainsFunc_A2int_inAny_1 (r : Bool × Int) : Res := ⟨[.t (.v (.bool r.1))], [some [[.v (.int .i64 r.2)]]]⟩
def c_slices_ContainsFunc_A2int_inAny_1 : Cx := ⟨2, [0, 1], [.tmp 4]⟩
def e_impl_inAny (r : Bool) : Res := ⟨[.t (.v (.bool r))], []⟩
def c_impl_inAny : Cx := ⟨2, [0, 0], [.tmp 4]⟩
def e_impl_IsSign (r : Bool) : Res := ⟨[.t (.v (.bool r))], []⟩
def c_impl_IsSign : Cx := ⟨1, [0], [.tmp 2]⟩
def e_impl_signsOk (r : Bool) : Res := ⟨[.t (.v (.bool r))], []⟩
def c_impl_signsOk : Cx := ⟨1, [0], [.tmp 2]⟩
def e_impl_TextOk (r : Bool) : Res := ⟨[.t (.v (.bool r))], []⟩
def c_impl_TextOk : Cx := ⟨1, [0], [.tmp 2]⟩
def e_strings_Contains (r : Bool) : Res := ⟨[.t (.v (.bool r))], []⟩
def c_strings_Contains : Cx := ⟨2, [0, 0], [.tmp 4]⟩
def e_internal_stringslite_HasSuffix (r : Bool) : Res := ⟨[.t (.v (.bool r))], []⟩
def c_internal_stringslite_HasSuffix : Cx := ⟨2, [0, 0], [.tmp 4]⟩
def e_strings_HasSuffix (r : Bool) : Res := ⟨[.t (.v (.bool r))], []⟩
def c_strings_HasSuffix : Cx := ⟨2, [0, 0], [.tmp 4]⟩
def e_impl_noteOk (r : Bool) : Res := ⟨[.t (.v (.bool r))], []⟩
def c_impl_noteOk : Cx := ⟨1, [0], [.tmp 2]⟩
def e_impl_IsStart (r : Bool) : Res := ⟨[.t (.v (.bool r))], []⟩
def c_impl_IsStart : Cx := ⟨1, [0], [.tmp 2]⟩
def e_impl_IsPart (r : Bool) : Res := ⟨[.t (.v (.bool r))], []⟩
def c_impl_IsPart : Cx := ⟨1, [0], [.tmp 2]⟩
def e_impl_PlainOk (r : Bool) : Res := ⟨[.t (.v (.bool r))], []⟩
def c_impl_PlainOk : Cx := ⟨1, [0], [.tmp 2]⟩
def e_strings_EqualFold (r : Bool) : Res := ⟨[.t (.v (.bool r))], []⟩
def c_strings_EqualFold : Cx := ⟨2, [0, 0], [.tmp 4]⟩
def e_impl_IsBlank (r : Bool) : Res := ⟨[.t (.v (.bool r))], []⟩
def c_impl_IsBlank : Cx := ⟨1, [0], [.tmp 2]⟩
def e_impl_toldOk (r : Bool) : Res := ⟨[.t (.v (.bool r))], []⟩
def c_impl_toldOk : Cx := ⟨2, [0, 0], [.tmp 4]⟩
def e_impl_leafOk (r : Bool) : Res := ⟨[.t (.v (.bool r))], []⟩
def c_impl_leafOk : Cx := ⟨1, [0], [.tmp 2]⟩
def e_internal_stringslite_HasPrefix (r : Bool) : Res := ⟨[.t (.v (.bool r))], []⟩
def c_internal_stringslite_HasPrefix : Cx := ⟨2, [0, 0], [.tmp 4]⟩
def e_strings_HasPrefix (r : Bool) : Res := ⟨[.t (.v (.bool r))], []⟩
def c_strings_HasPrefix : Cx := ⟨2, [0, 0], [.tmp 4]⟩
def e_impl_preOk (r : Bool) : Res := ⟨[.t (.v (.bool r))], []⟩
def c_impl_preOk : Cx := ⟨1, [0], [.tmp 2]⟩
def e_impl_uriOk (r : Bool) : Res := ⟨[.t (.v (.bool r))], []⟩
def c_impl_uriOk : Cx := ⟨2, [0, 0], [.tmp 4]⟩
def e_impl_DeclOk (r : Bool) : Res := ⟨[.t (.v (.bool r))], []⟩
def c_impl_DeclOk : Cx := ⟨1, [0], [.tmp 2]⟩
def e_impl_DeclsOk (r : Bool) : Res := ⟨[.t (.v (.bool r))], []⟩
def c_impl_DeclsOk : Cx := ⟨1, [0], [.tmp 2]⟩
def e_impl_attrOk (r : Bool) : Res := ⟨[.t (.v (.bool r))], []⟩
def c_impl_attrOk : Cx := ⟨1, [0], [.tmp 2]⟩
def e_impl_attrsOk (r : Bool) : Res := ⟨[.t (.v (.bool r))], []⟩
def c_impl_attrsOk : Cx := ⟨1, [0], [.tmp 2]⟩
def e_impl_noTwoTexts (r : Bool) : Res := ⟨[.t (.v (.bool r))], []⟩
def c_impl_noTwoTexts : Cx := ⟨1, [0], [.tmp 2]⟩
def e_impl_kidsOk (r : Bool) : Res := ⟨[.t (.v (.bool r))], []⟩
def c_impl_kidsOk : Cx := ⟨2, [0, 0], [.tmp 4]⟩
def e_slices_ContainsFunc_Node_kidsOk_1 (r : Bool × Int) : Res := ⟨[.t (.v (.bool r.1))], [some [[.v (.int .i64 r.2)]]]⟩
def c_slices_ContainsFunc_Node_kidsOk_1 : Cx := ⟨2, [0, 1], [.tmp 4]⟩
def e_slices_IndexFunc_Node_kidsOk_1 (r : Int × Int) : Res := ⟨[.t (.v (.int .i64 r.1))], [some [[.v (.int .i64 r.2)]]]⟩
def c_slices_IndexFunc_Node_kidsOk_1 : Cx := ⟨2, [0, 1], [.tmp 4]⟩
def e_impl_kidsOk_1 (r : Bool × Int) : Res := ⟨[.t (.v (.bool r.1))], [some [[.v (.int .i64 r.2)]]]⟩
def c_impl_kidsOk_1 : Cx := ⟨2, [0, 1], [.tmp 3]⟩
def e_impl_partOk (r : Bool) : Res := ⟨[.t (.v (.bool r))], []⟩
def c_impl_partOk : Cx := ⟨2, [0, 0], [.tmp 4]⟩
def e_impl_ofKind (r : Int) : Res := ⟨[.t (.v (.int .i64 r))], []⟩
def c_impl_ofKind : Cx := ⟨2, [0, 0], [.tmp 4]⟩
def e_impl_NodeOk (r : Bool) : Res := ⟨[.t (.v (.bool r))], []⟩
def c_impl_NodeOk : Cx := ⟨1, [0], [.tmp 2]⟩
def e_impl_Rename (r : GNode × Bool) : Res := ⟨[.agg [.v (.int .i64 r.1.Kind), .v (.string r.1.Pre), .v (.string r.1.Local), .v (.string r.1.Uri), .sl true (r.1.Decls.map GDecl.row), .sl true (r.1.Attrs.map GAttr.row), .sl true (r.1.Kids.map (GNode.row true)), .v (.string r.1.Text)], .t (.v (.bool r.2))], []⟩
def c_impl_Rename : Cx := ⟨2, [0, 0], [.cell 4 8 true, .tmp 5]⟩
def e_laws_eqDecl (r : Bool) : Res := ⟨[.t (.v (.bool r))], []⟩
def c_laws_eqDecl : Cx := ⟨2, [0, 0], [.tmp 4]⟩
def e_laws_eqDeclS (r : Bool) : Res := ⟨[.t (.v (.bool r))], []⟩
def c_laws_eqDeclS : Cx := ⟨2, [0, 0], [.tmp 4]⟩
def e_laws_eqAttr (r : Bool) : Res := ⟨[.t (.v (.bool r))], []⟩
def c_laws_eqAttr : Cx := ⟨2, [0, 0], [.tmp 4]⟩
def e_laws_eqAttrS (r : Bool) : Res := ⟨[.t (.v (.bool r))], []⟩
def c_laws_eqAttrS : Cx := ⟨2, [0, 0], [.tmp 4]⟩
def e_laws_eqNode (r : Bool) : Res := ⟨[.t (.v (.bool r))], []⟩
def c_laws_eqNode : Cx := ⟨2, [0, 0], [.tmp 4]⟩
def e_laws_eqNodeS (r : Bool) : Res := ⟨[.t (.v (.bool r))], []⟩
def c_laws_eqNodeS : Cx := ⟨2, [0, 0], [.tmp 4]⟩
def e_laws_markText (r : ByteArray) : Res := ⟨[.t (.v (.string r))], []⟩
def c_laws_markText : Cx := ⟨1, [0], [.tmp 2]⟩
def e_laws_markDeclS (r : Int × List (GDecl)) : Res := ⟨[.t (.v (.int .i64 r.1))], [some (r.2.map GDecl.row)]⟩
def c_laws_markDeclS : Cx := ⟨2, [1, 0], [.tmp 4]⟩
def e_laws_markAttrS (r : Int × List (GAttr)) : Res := ⟨[.t (.v (.int .i64 r.1))], [some (r.2.map GAttr.row)]⟩
def c_laws_markAttrS : Cx := ⟨2, [1, 0], [.tmp 4]⟩
def e_laws_markNodeS (r : Int × List (GNode)) : Res := ⟨[.t (.v (.int .i64 r.1))], [some (r.2.map (GNode.row true))]⟩
def c_laws_markNodeS : Cx := ⟨2, [1, 0], [.tmp 4]⟩
def e_laws_markNode (r : Int × List GDecl × List GAttr × List GNode) : Res := ⟨[.t (.v (.int .i64 r.1))], [some (r.2.1.map GDecl.row), some (r.2.2.1.map GAttr.row), some (r.2.2.2.map (GNode.row true))]⟩
def c_laws_markNode : Cx := ⟨2, [3, 0], [.tmp 4]⟩
def e_laws_heldDeclS (r : Int) : Res := ⟨[.t (.v (.int .i64 r))], []⟩
def c_laws_heldDeclS : Cx := ⟨2, [0, 0], [.tmp 4]⟩
def e_laws_heldAttrS (r : Int) : Res := ⟨[.t (.v (.int .i64 r))], []⟩
def c_laws_heldAttrS : Cx := ⟨2, [0, 0], [.tmp 4]⟩
def e_laws_heldNodeS (r : Int) : Res := ⟨[.t (.v (.int .i64 r))], []⟩
def c_laws_heldNodeS : Cx := ⟨2, [0, 0], [.tmp 4]⟩
def e_laws_heldNode (r : Int) : Res := ⟨[.t (.v (.int .i64 r))], []⟩
def c_laws_heldNode : Cx := ⟨2, [0, 0], [.tmp 4]⟩
def e_laws_FnExactRename (r : Bool) : Res := ⟨[.t (.v (.bool r))], []⟩
def c_laws_FnExactRename : Cx := ⟨2, [0, 0], [.tmp 4]⟩
theorem lT {α : Type} (l : List α) : ((lenL l).toNat < l.length + 1) = True := by simp [lenL]
def ES := And.intro @lT <| And.intro (@e_laws_szDecl.eq_1) <| And.intro (@c_laws_szDecl.eq_1) <| And.intro (@e_laws_szDeclS.eq_1) <| And.intro (@c_laws_szDeclS.eq_1) <| And.intro (@e_laws_szAttr.eq_1) <| And.intro (@c_laws_szAttr.eq_1) <| And.intro (@e_laws_szAttrS.eq_1) <| And.intro (@c_laws_szAttrS.eq_1) <| And.intro (@e_laws_szNode.eq_1) <| And.intro (@c_laws_szNode.eq_1) <| And.intro (@e_laws_szNodeS.eq_1) <| And.intro (@c_laws_szNodeS.eq_1) <| And.intro (@e_laws_toDecl.eq_1) <| And.intro (@c_laws_toDecl.eq_1) <| And.intro (@e_laws_toDeclS.eq_1) <| And.intro (@c_laws_toDeclS.eq_1) <| And.intro (@e_laws_toAttr.eq_1) <| And.intro (@c_laws_toAttr.eq_1) <| And.intro (@e_laws_toAttrS.eq_1) <| And.intro (@c_laws_toAttrS.eq_1) <| And.intro (@e_laws_toNode.eq_1) <| And.intro (@c_laws_toNode.eq_1) <| And.intro (@e_laws_toNodeS.eq_1) <| And.intro (@c_laws_toNodeS.eq_1) <| And.intro (@e_spec_l5All.eq_1) <| And.intro (@c_spec_l5All.eq_1) <| And.intro (@e_spec_l5Copy.eq_1) <| And.intro (@c_spec_l5Copy.eq_1) <| And.intro (@e_spec_Inner.eq_1) <| And.intro (@c_spec_Inner.eq_1) <| And.intro (@e_spec_SpaceOf.eq_1) <| And.intro (@c_spec_SpaceOf.eq_1) <| And.intro (@e_spec_l5Less.eq_1) <| And.intro (@c_spec_l5Less.eq_1) <| And.intro (@e_spec_l8Attrs.eq_1) <| And.intro (@c_spec_l8Attrs.eq_1) <| And.intro (@e_spec_l14Rename.eq_1) <| And.intro (@c_spec_l14Rename.eq_1) <| And.intro (@e_spec_CountOf.eq_1) <| And.intro (@c_spec_CountOf.eq_1) <| And.intro (@e_spec_l1In.eq_1) <| And.intro (@c_spec_l1In.eq_1) <| And.intro (@e_spec_SignAt.eq_1) <| And.intro (@c_spec_SignAt.eq_1) <| And.intro (@e_spec_l1Ranges.eq_1) <| And.intro (@c_spec_l1Ranges.eq_1) <| And.intro (@e_spec_IsStart.eq_1) <| And.intro (@c_spec_IsStart.eq_1) <| And.intro (@e_spec_IsPart.eq_1) <| And.intro (@c_spec_IsPart.eq_1) <| And.intro (@e_spec_PlainOk.eq_1) <| And.intro (@c_spec_PlainOk.eq_1) <| And.intro (@e_spec_l4Xml.eq_1) <| And.intro (@c_spec_l4Xml.eq_1) <| And.intro (@e_spec_l5Pre.eq_1) <| And.intro (@c_spec_l5Pre.eq_1) <| And.intro (@e_spec_IsSign.eq_1) <| And.intro (@c_spec_IsSign.eq_1) <| And.intro (@e_spec_l1Signs.eq_1) <| And.intro (@c_spec_l1Signs.eq_1) <| And.intro (@e_spec_TextOk.eq_1) <| And.intro (@c_spec_TextOk.eq_1) <| And.intro (@e_spec_DeclOk.eq_1) <| And.intro (@c_spec_DeclOk.eq_1) <| And.intro (@e_spec_DeclsOk.eq_1) <| And.intro (@c_spec_DeclsOk.eq_1) <| And.intro (@e_spec_l5Bare.eq_1) <| And.intro (@c_spec_l5Bare.eq_1) <| And.intro (@e_spec_l5Has.eq_1) <| And.intro (@c_spec_l5Has.eq_1) <| And.intro (@e_spec_l5Xml.eq_1) <| And.intro (@c_spec_l5Xml.eq_1) <| And.intro (@e_spec_IsBlank.eq_1) <| And.intro (@c_spec_IsBlank.eq_1) <| And.intro (@e_spec_l5AttrOk.eq_1) <| And.intro (@c_spec_l5AttrOk.eq_1) <| And.intro (@e_spec_l5One.eq_1) <| And.intro (@c_spec_l5One.eq_1) <| And.intro (@e_spec_l5Kids.eq_1) <| And.intro (@c_spec_l5Kids.eq_1) <| And.intro (@e_spec_NodeOk.eq_1) <| And.intro (@c_spec_NodeOk.eq_1) <| And.intro (@e_spec_Rename.eq_1) <| And.intro (@c_spec_Rename.eq_1) <| And.intro (@e_slices_Clone_Decl.eq_1) <| And.intro (@c_slices_Clone_Decl.eq_1) <| And.intro (@e_slices_Clone_Attr.eq_1) <| And.intro (@c_slices_Clone_Attr.eq_1) <| And.intro (@e_impl_cloneNode.eq_1) <| And.intro (@c_impl_cloneNode.eq_1) <| And.intro (@e_impl_cloneNodes.eq_1) <| And.intro (@c_impl_cloneNodes.eq_1) <| And.intro (@e_slices_Concat_Decl.eq_1) <| And.intro (@c_slices_Concat_Decl.eq_1) <| And.intro (@e_impl_Inner.eq_1) <| And.intro (@c_impl_Inner.eq_1) <| And.intro (@e_impl_SpaceOf.eq_1) <| And.intro (@c_impl_SpaceOf.eq_1) <| And.intro (@e_strings_Compare.eq_1) <| And.intro (@c_strings_Compare.eq_1) <| And.intro (@e_impl_compareAttrs.eq_1) <| And.intro (@c_impl_compareAttrs.eq_1) <| And.intro (@e_slices_insertionSortCmpFunc_Attr_compareAttrs.eq_1) <| And.intro (@c_slices_insertionSortCmpFunc_Attr_compareAttrs.eq_1) <| And.intro (@e_slices_symMergeCmpFunc_Attr_compareAttrs.eq_1) <| And.intro (@c_slices_symMergeCmpFunc_Attr_compareAttrs.eq_1) <| And.intro (@e_slices_swapRangeCmpFunc_Attr_compareAttrs.eq_1) <| And.intro (@c_slices_swapRangeCmpFunc_Attr_compareAttrs.eq_1) <| And.intro (@e_slices_rotateCmpFunc_Attr_compareAttrs.eq_1) <| And.intro (@c_slices_rotateCmpFunc_Attr_compareAttrs.eq_1) <| And.intro (@e_slices_stableCmpFunc_Attr_compareAttrs.eq_1) <| And.intro (@c_slices_stableCmpFunc_Attr_compareAttrs.eq_1) <| And.intro (@e_slices_SortStableFunc_Attr_compareAttrs.eq_1) <| And.intro (@c_slices_SortStableFunc_Attr_compareAttrs.eq_1) <| And.intro (@e_impl_renamed.eq_1) <| And.intro (@c_impl_renamed.eq_1) <| And.intro (@e_impl_CountOf.eq_1) <| And.intro (@c_impl_CountOf.eq_1) <| And.intro (@e_impl_in.eq_1) <| And.intro (@c_impl_in.eq_1) <| And.intro (@e_unicode_utf8_DecodeRuneInString.eq_1) <| And.intro (@c_unicode_utf8_DecodeRuneInString.eq_1) <| And.intro (@e_impl_SignAt.eq_1) <| And.intro (@c_impl_SignAt.eq_1) <| And.intro (@e_impl_inAny_1.eq_1) <| And.intro (@c_impl_inAny_1.eq_1) <| And.intro (@e_slices_IndexFunc_A2int_inAny_1.eq_1) <| And.intro (@c_slices_IndexFunc_A2int_inAny_1.eq_1) <| And.intro (@e_slices_ContainsFunc_A2int_inAny_1.eq_1) <| And.intro (@c_slices_ContainsFunc_A2int_inAny_1.eq_1) <| And.intro (@e_impl_inAny.eq_1) <| And.intro (@c_impl_inAny.eq_1) <| And.intro (@e_impl_IsSign.eq_1) <| And.intro (@c_impl_IsSign.eq_1) <| And.intro (@e_impl_signsOk.eq_1) <| And.intro (@c_impl_signsOk.eq_1) <| And.intro (@e_impl_TextOk.eq_1) <| And.intro (@c_impl_TextOk.eq_1) <| And.intro (@e_strings_Contains.eq_1) <| And.intro (@c_strings_Contains.eq_1) <| And.intro (@e_internal_stringslite_HasSuffix.eq_1) <| And.intro (@c_internal_stringslite_HasSuffix.eq_1) <| And.intro (@e_strings_HasSuffix.eq_1) <| And.intro (@c_strings_HasSuffix.eq_1) <| And.intro (@e_impl_noteOk.eq_1) <| And.intro (@c_impl_noteOk.eq_1) <| And.intro (@e_impl_IsStart.eq_1) <| And.intro (@c_impl_IsStart.eq_1) <| And.intro (@e_impl_IsPart.eq_1) <| And.intro (@c_impl_IsPart.eq_1) <| And.intro (@e_impl_PlainOk.eq_1) <| And.intro (@c_impl_PlainOk.eq_1) <| And.intro (@e_strings_EqualFold.eq_1) <| And.intro (@c_strings_EqualFold.eq_1) <| And.intro (@e_impl_IsBlank.eq_1) <| And.intro (@c_impl_IsBlank.eq_1) <| And.intro (@e_impl_toldOk.eq_1) <| And.intro (@c_impl_toldOk.eq_1) <| And.intro (@e_impl_leafOk.eq_1) <| And.intro (@c_impl_leafOk.eq_1) <| And.intro (@e_internal_stringslite_HasPrefix.eq_1) <| And.intro (@c_internal_stringslite_HasPrefix.eq_1) <| And.intro (@e_strings_HasPrefix.eq_1) <| And.intro (@c_strings_HasPrefix.eq_1) <| And.intro (@e_impl_preOk.eq_1) <| And.intro (@c_impl_preOk.eq_1) <| And.intro (@e_impl_uriOk.eq_1) <| And.intro (@c_impl_uriOk.eq_1) <| And.intro (@e_impl_DeclOk.eq_1) <| And.intro (@c_impl_DeclOk.eq_1) <| And.intro (@e_impl_DeclsOk.eq_1) <| And.intro (@c_impl_DeclsOk.eq_1) <| And.intro (@e_impl_attrOk.eq_1) <| And.intro (@c_impl_attrOk.eq_1) <| And.intro (@e_impl_attrsOk.eq_1) <| And.intro (@c_impl_attrsOk.eq_1) <| And.intro (@e_impl_noTwoTexts.eq_1) <| And.intro (@c_impl_noTwoTexts.eq_1) <| And.intro (@e_impl_kidsOk.eq_1) <| And.intro (@c_impl_kidsOk.eq_1) <| And.intro (@e_slices_ContainsFunc_Node_kidsOk_1.eq_1) <| And.intro (@c_slices_ContainsFunc_Node_kidsOk_1.eq_1) <| And.intro (@e_slices_IndexFunc_Node_kidsOk_1.eq_1) <| And.intro (@c_slices_IndexFunc_Node_kidsOk_1.eq_1) <| And.intro (@e_impl_kidsOk_1.eq_1) <| And.intro (@c_impl_kidsOk_1.eq_1) <| And.intro (@e_impl_partOk.eq_1) <| And.intro (@c_impl_partOk.eq_1) <| And.intro (@e_impl_ofKind.eq_1) <| And.intro (@c_impl_ofKind.eq_1) <| And.intro (@e_impl_NodeOk.eq_1) <| And.intro (@c_impl_NodeOk.eq_1) <| And.intro (@e_impl_Rename.eq_1) <| And.intro (@c_impl_Rename.eq_1) <| And.intro (@e_laws_eqDecl.eq_1) <| And.intro (@c_laws_eqDecl.eq_1) <| And.intro (@e_laws_eqDeclS.eq_1) <| And.intro (@c_laws_eqDeclS.eq_1) <| And.intro (@e_laws_eqAttr.eq_1) <| And.intro (@c_laws_eqAttr.eq_1) <| And.intro (@e_laws_eqAttrS.eq_1) <| And.intro (@c_laws_eqAttrS.eq_1) <| And.intro (@e_laws_eqNode.eq_1) <| And.intro (@c_laws_eqNode.eq_1) <| And.intro (@e_laws_eqNodeS.eq_1) <| And.intro (@c_laws_eqNodeS.eq_1) <| And.intro (@e_laws_markText.eq_1) <| And.intro (@c_laws_markText.eq_1) <| And.intro (@e_laws_markDeclS.eq_1) <| And.intro (@c_laws_markDeclS.eq_1) <| And.intro (@e_laws_markAttrS.eq_1) <| And.intro (@c_laws_markAttrS.eq_1) <| And.intro (@e_laws_markNodeS.eq_1) <| And.intro (@c_laws_markNodeS.eq_1) <| And.intro (@e_laws_markNode.eq_1) <| And.intro (@c_laws_markNode.eq_1) <| And.intro (@e_laws_heldDeclS.eq_1) <| And.intro (@c_laws_heldDeclS.eq_1) <| And.intro (@e_laws_heldAttrS.eq_1) <| And.intro (@c_laws_heldAttrS.eq_1) <| And.intro (@e_laws_heldNodeS.eq_1) <| And.intro (@c_laws_heldNodeS.eq_1) <| And.intro (@e_laws_heldNode.eq_1) <| And.intro (@c_laws_heldNode.eq_1) <| And.intro (@e_laws_FnExactRename.eq_1) <| @c_laws_FnExactRename.eq_1
theorem xN {f : FuncId} (h : FTA.cl.contains f = false) (h2 : (FTA.lb.all fun p => p.1 != f) = true) (args : List Arg) : xOf FTA f args = none := xOf_none h h2 args
theorem lB {a b : Nat} (h : Nat.ble a b = true) : a ≤ b := Nat.le_of_ble_eq_true h
theorem gs {p : Prop} (h : p := by
 try simp only [SSA, RS, reduceAdd, reduceSub, reduceMul, reduceLeDiff, reduceLT, reduceEqDiff, Nat.reduceBEq, ↓reduceIte, reduceCtorEq] at g0
 try simp only [SSA, RS, reduceAdd, reduceSub, reduceMul, reduceLeDiff, reduceLT, reduceEqDiff, Nat.reduceBEq, ↓reduceIte, reduceCtorEq] at g1
 try simp only [SSA, RS, reduceAdd, reduceSub, reduceMul, reduceLeDiff, reduceLT, reduceEqDiff, Nat.reduceBEq, ↓reduceIte, reduceCtorEq] at g2
 try simp only [SSA, RS, reduceAdd, reduceSub, reduceMul, reduceLeDiff, reduceLT, reduceEqDiff, Nat.reduceBEq, ↓reduceIte, reduceCtorEq] at g3
 try simp only [SSA, RS, reduceAdd, reduceSub, reduceMul, reduceLeDiff, reduceLT, reduceEqDiff, Nat.reduceBEq, ↓reduceIte, reduceCtorEq] at g4
 try simp only [SSA, RS, reduceAdd, reduceSub, reduceMul, reduceLeDiff, reduceLT, reduceEqDiff, Nat.reduceBEq, ↓reduceIte, reduceCtorEq] at g5
 try simp only [SSA, RS, reduceAdd, reduceSub, reduceMul, reduceLeDiff, reduceLT, reduceEqDiff, Nat.reduceBEq, ↓reduceIte, reduceCtorEq] at g6
 try simp only [SSA, RS, reduceAdd, reduceSub, reduceMul, reduceLeDiff, reduceLT, reduceEqDiff, Nat.reduceBEq, ↓reduceIte, reduceCtorEq] at g7
 try simp only [SSA, RS, reduceAdd, reduceSub, reduceMul, reduceLeDiff, reduceLT, reduceEqDiff, Nat.reduceBEq, ↓reduceIte, reduceCtorEq] at g8
 try simp only [SSA, RS, reduceAdd, reduceSub, reduceMul, reduceLeDiff, reduceLT, reduceEqDiff, Nat.reduceBEq, ↓reduceIte, reduceCtorEq] at g9
 try simp only [SSA, RS, reduceAdd, reduceSub, reduceMul, reduceLeDiff, reduceLT, reduceEqDiff, Nat.reduceBEq, ↓reduceIte, reduceCtorEq] at g10
 simp only [SSA, RS, ES, *, reduceAdd, reduceSub, reduceMul, reduceLeDiff, reduceLT, reduceEqDiff, Nat.reduceBEq, ↓reduceIte, reduceCtorEq]
 try clear k0
 try clear f0
 repeat' first
  | with_reducible exact Ok_none
  | ((with_reducible refine Ok_ret ?_); first | rfl | simp only [SSA, RS, ES])
  | ((with_reducible first
   | refine Ok_tail (t0 ..) ?_
   | refine Ok_tail (t1 ..) ?_
   | refine Ok_tail (t2 ..) ?_); first | rfl | (simp only [SSA, RS, ES, reduceAdd, reduceSub, reduceMul, reduceLeDiff, reduceLT, reduceEqDiff, Nat.reduceBEq, ↓reduceIte, reduceCtorEq] <;> rfl) | (simp only [SSA, RS, ES, *, reduceAdd, reduceSub, reduceMul, reduceLeDiff, reduceLT, reduceEqDiff, Nat.reduceBEq, ↓reduceIte, reduceCtorEq] <;> rfl))
  | ((first
   | (with_reducible first
    | refine Ok_if (fun h => ?_) (fun h => ?_)
    | refine Ok_get fun a h => ?_
    | refine Ok_call (g0 ..) fun v => ?_
    | refine Ok_call (g1 ..) fun v => ?_
    | refine Ok_call (g2 ..) fun v => ?_
    | refine Ok_call (g3 ..) fun v => ?_
    | refine Ok_call (g4 ..) fun v => ?_
    | refine Ok_call (g5 ..) fun v => ?_
    | refine Ok_call (g6 ..) fun v => ?_
    | refine Ok_call (g7 ..) fun v => ?_
    | refine Ok_call (g8 ..) fun v => ?_
    | refine Ok_call (g9 ..) fun v => ?_
    | refine Ok_call (g10 ..) fun v => ?_
    | refine Ok_call g0 fun v => ?_
    | refine Ok_call g1 fun v => ?_
    | refine Ok_call g2 fun v => ?_
    | refine Ok_prim (p := catS _ _) fun a h => ?_
    | refine Ok_prim (p := bytesK _) fun a h => ?_
    | refine Ok_prim (p := room _ _) fun a h => ?_
    | refine Ok_prim (p := mkN _ _) fun a h => ?_
    | refine Ok_prim (p := subS _ _ _) fun a h => ?_
    | refine Ok_prim (p := slL _ _ _) fun a h => ?_
    | refine Ok_prim (p := atS _ _) fun a h => ?_
    | refine Ok_prim (p := quoI _ _) fun a h => ?_
    | refine Ok_prim (p := remI _ _) fun a h => ?_
    | refine Ok_prim (p := quoK _ _ _) fun a h => ?_
    | refine Ok_prim (p := remK _ _ _) fun a h => ?_
    | refine Ok_prim (p := shlK _ _ _) fun a h => ?_
    | refine Ok_prim (p := shrK _ _ _) fun a h => ?_
    | refine Ok_same fun h => ?_)
   | refine Ok_call (g0 ..) fun v => ?_
   | refine Ok_call (g1 ..) fun v => ?_
   | refine Ok_call (g2 ..) fun v => ?_
   | refine Ok_call (g3 ..) fun v => ?_
   | refine Ok_call (g4 ..) fun v => ?_
   | refine Ok_call (g5 ..) fun v => ?_
   | refine Ok_call (g6 ..) fun v => ?_
   | refine Ok_call (g7 ..) fun v => ?_
   | refine Ok_call (g8 ..) fun v => ?_
   | refine Ok_call (g9 ..) fun v => ?_
   | refine Ok_call (g10 ..) fun v => ?_
   | refine Ok_callq (g0 _) (by simp only [SSA, RS, List.map_cons, List.map_nil]) fun v => ?_
   | refine Ok_callq (g0 _ _) (by simp only [SSA, RS, List.map_cons, List.map_nil]) fun v => ?_
   | refine Ok_callq (g1 _) (by simp only [SSA, RS, List.map_cons, List.map_nil]) fun v => ?_
   | refine Ok_callq (g1 _ _) (by simp only [SSA, RS, List.map_cons, List.map_nil]) fun v => ?_
   | refine Ok_callq (g2 _) (by simp only [SSA, RS, List.map_cons, List.map_nil]) fun v => ?_
   | refine Ok_callq (g2 _ _) (by simp only [SSA, RS, List.map_cons, List.map_nil]) fun v => ?_
   | refine Ok_callq (g3 _) (by simp only [SSA, RS, List.map_cons, List.map_nil]) fun v => ?_
   | refine Ok_callq (g3 _ _) (by simp only [SSA, RS, List.map_cons, List.map_nil]) fun v => ?_
   | refine Ok_callq (g4 _) (by simp only [SSA, RS, List.map_cons, List.map_nil]) fun v => ?_
   | refine Ok_callq (g4 _ _) (by simp only [SSA, RS, List.map_cons, List.map_nil]) fun v => ?_
   | refine Ok_callq (g5 _) (by simp only [SSA, RS, List.map_cons, List.map_nil]) fun v => ?_
   | refine Ok_callq (g5 _ _) (by simp only [SSA, RS, List.map_cons, List.map_nil]) fun v => ?_
   | refine Ok_callq (g6 _) (by simp only [SSA, RS, List.map_cons, List.map_nil]) fun v => ?_
   | refine Ok_callq (g6 _ _) (by simp only [SSA, RS, List.map_cons, List.map_nil]) fun v => ?_
   | refine Ok_callq (g7 _) (by simp only [SSA, RS, List.map_cons, List.map_nil]) fun v => ?_
   | refine Ok_callq (g7 _ _) (by simp only [SSA, RS, List.map_cons, List.map_nil]) fun v => ?_
   | refine Ok_callq (g8 _) (by simp only [SSA, RS, List.map_cons, List.map_nil]) fun v => ?_
   | refine Ok_callq (g8 _ _) (by simp only [SSA, RS, List.map_cons, List.map_nil]) fun v => ?_
   | refine Ok_callq (g9 _) (by simp only [SSA, RS, List.map_cons, List.map_nil]) fun v => ?_
   | refine Ok_callq (g9 _ _) (by simp only [SSA, RS, List.map_cons, List.map_nil]) fun v => ?_
   | refine Ok_callq (g10 _) (by simp only [SSA, RS, List.map_cons, List.map_nil]) fun v => ?_
   | refine Ok_callq (g10 _ _) (by simp only [SSA, RS, List.map_cons, List.map_nil]) fun v => ?_) <;> simp only [SSA, RS, ES, *, reduceAdd, reduceSub, reduceMul, reduceLeDiff, reduceLT, reduceEqDiff, Nat.reduceBEq, ↓reduceIte, reduceCtorEq])) : p := h
theorem laws_szDecl_ok : ∀ (a : GDecl) (left : Int), Ok (laws_szDecl a left) e_laws_szDecl (dn FTA n_laws_szDecl [.agg ((GDecl.row a).map .t), .t (.v (.int .i64 left))]) := by
 intro a left
 rw [den_ev FTA (fn := k_laws_szDecl) rfl (xN rfl rfl _) (lB rfl)]
 have k0 := @k_laws_szDecl.eq_1; have f0 := @laws_szDecl.eq_1
 exact gs
theorem laws_szDeclS_l16_ok (a : List GDecl) : ∀ (left1 : Int) (i : Int), Ok (laws_szDeclS_l16 a left1 i) e_laws_szDeclS (ev FTA c_laws_szDeclS (.loop k_laws_szDeclS_l16) [.lv 0, .th k_laws_szDeclS_r12] (putS (List.replicate 27 .dead) [(0, .t (.sl false (a.map GDecl.row))), (1, .t (.v (.int .i64 left1))), (5, .t (.v (.int .i64 i)))]) (putR (List.replicate 27 []) [])) := by
 unfold Ok
 refine laws_szDeclS_l16.partial_correctness a _ ?_
 intro F ih left1 i
 show Ok _ _ _
 have ih : ∀ (left1 : Int) (i : Int), Ok (F left1 i) _ _ := ih
 rw [ev_loop]
 have k0 := @k_laws_szDeclS_l16.eq_1; have k1 := @k_laws_szDeclS_r12.eq_1; have g0 := laws_szDecl_ok; have t0 := ih
 exact gs
theorem laws_szDeclS_ok : ∀ (a : List GDecl) (left : Int), Ok (laws_szDeclS a left) e_laws_szDeclS (dn FTA n_laws_szDeclS [.t (.sl false (a.map GDecl.row)), .t (.v (.int .i64 left))]) := by
 intro a left
 rw [den_ev FTA (fn := k_laws_szDeclS) rfl (xN rfl rfl _) (lB rfl)]
 have k0 := @k_laws_szDeclS.eq_1; have f0 := @laws_szDeclS.eq_1; have t0 := laws_szDeclS_l16_ok
 exact gs
theorem laws_szAttr_ok : ∀ (a : GAttr) (left : Int), Ok (laws_szAttr a left) e_laws_szAttr (dn FTA n_laws_szAttr [.agg ((GAttr.row a).map .t), .t (.v (.int .i64 left))]) := by
 intro a left
 rw [den_ev FTA (fn := k_laws_szAttr) rfl (xN rfl rfl _) (lB rfl)]
 have k0 := @k_laws_szAttr.eq_1; have f0 := @laws_szAttr.eq_1
 exact gs
theorem laws_szAttrS_l16_ok (a : List GAttr) : ∀ (left1 : Int) (i : Int), Ok (laws_szAttrS_l16 a left1 i) e_laws_szAttrS (ev FTA c_laws_szAttrS (.loop k_laws_szAttrS_l16) [.lv 0, .th k_laws_szAttrS_r12] (putS (List.replicate 27 .dead) [(0, .t (.sl false (a.map GAttr.row))), (1, .t (.v (.int .i64 left1))), (5, .t (.v (.int .i64 i)))]) (putR (List.replicate 27 []) [])) := by
 unfold Ok
 refine laws_szAttrS_l16.partial_correctness a _ ?_
 intro F ih left1 i
 show Ok _ _ _
 have ih : ∀ (left1 : Int) (i : Int), Ok (F left1 i) _ _ := ih
 rw [ev_loop]
 have k0 := @k_laws_szAttrS_l16.eq_1; have k1 := @k_laws_szAttrS_r12.eq_1; have g0 := laws_szAttr_ok; have t0 := ih
 exact gs
theorem laws_szAttrS_ok : ∀ (a : List GAttr) (left : Int), Ok (laws_szAttrS a left) e_laws_szAttrS (dn FTA n_laws_szAttrS [.t (.sl false (a.map GAttr.row)), .t (.v (.int .i64 left))]) := by
 intro a left
 rw [den_ev FTA (fn := k_laws_szAttrS) rfl (xN rfl rfl _) (lB rfl)]
 have k0 := @k_laws_szAttrS.eq_1; have f0 := @laws_szAttrS.eq_1; have t0 := laws_szAttrS_l16_ok
 exact gs
theorem G_laws_szNode : (∀ (a : GNode) (left : Int), Ok (laws_szNode a left) e_laws_szNode (dn FTA n_laws_szNode [.agg (((GNode.row false) a).map .t), .t (.v (.int .i64 left))])) ∧
  (∀ (a : List GNode) (left : Int), Ok (laws_szNodeS a left) e_laws_szNodeS (dn FTA n_laws_szNodeS [.t (.sl false (a.map (GNode.row false))), .t (.v (.int .i64 left))])) ∧
  (∀ (a : List GNode) (left1 : Int) (i : Int), Ok (laws_szNodeS_l16 a left1 i) e_laws_szNodeS (ev FTA c_laws_szNodeS (.loop k_laws_szNodeS_l16) [.lv 0, .th k_laws_szNodeS_r12] (putS (List.replicate 27 .dead) [(0, .t (.sl false (a.map (GNode.row false)))), (1, .t (.v (.int .i64 left1))), (5, .t (.v (.int .i64 i)))]) (putR (List.replicate 27 []) []))) := by
 unfold Ok
 refine laws_szNode.mutual_partial_correctness _ _ _ ?_ ?_ ?_
 ·intro F1 ih1 a left
  show Ok _ _ _
  have ih1 : ∀ (a : List GNode) (left : Int), Ok (F1 a left) _ _ := ih1
  rw [den_ev FTA (fn := k_laws_szNode) rfl (xN rfl rfl _) (lB rfl)]
  have k0 := @k_laws_szNode.eq_1; have g0 := laws_szDeclS_ok; have g1 := laws_szAttrS_ok; have g2 := ih1
  exact gs
 ·intro F2 ih2 a left
  show Ok _ _ _
  have ih2 : ∀ (a : List GNode) (left1 : Int) (i : Int), Ok (F2 a left1 i) _ _ := ih2
  rw [den_ev FTA (fn := k_laws_szNodeS) rfl (xN rfl rfl _) (lB rfl)]
  have k0 := @k_laws_szNodeS.eq_1; have t0 := ih2
  exact gs
 ·intro F0 F2 ih0 ih2 a left1 i
  show Ok _ _ _
  have ih0 : ∀ (a : GNode) (left : Int), Ok (F0 a left) _ _ := ih0
  have ih2 : ∀ (a : List GNode) (left1 : Int) (i : Int), Ok (F2 a left1 i) _ _ := ih2
  rw [ev_loop]
  have k0 := @k_laws_szNodeS_l16.eq_1; have k1 := @k_laws_szNodeS_r12.eq_1; have g0 := ih0; have t0 := ih2
  exact gs
theorem laws_szNode_ok (a : GNode) (left : Int) : Ok (laws_szNode a left) e_laws_szNode (dn FTA n_laws_szNode [.agg (((GNode.row false) a).map .t), .t (.v (.int .i64 left))]) := G_laws_szNode.1 a left
theorem laws_szNodeS_ok (a : List GNode) (left : Int) : Ok (laws_szNodeS a left) e_laws_szNodeS (dn FTA n_laws_szNodeS [.t (.sl false (a.map (GNode.row false))), .t (.v (.int .i64 left))]) := G_laws_szNode.2.1 a left
theorem laws_toDecl_ok : ∀ (a : GDecl), Ok (laws_toDecl a) e_laws_toDecl (dn FTA n_laws_toDecl [.agg ((GDecl.row a).map .t)]) := by
 intro a
 rw [den_ev FTA (fn := k_laws_toDecl) rfl (xN rfl rfl _) (lB rfl)]
 have k0 := @k_laws_toDecl.eq_1; have f0 := @laws_toDecl.eq_1
 exact gs
theorem laws_toDeclS_l8_ok (a : List GDecl) : ∀ (out : List (GDecl)) (i : Int), Ok (laws_toDeclS_l8 a out i) e_laws_toDeclS (ev FTA c_laws_toDeclS (.loop k_laws_toDeclS_l8) [.lv 0, .th k_laws_toDeclS_r4] (putS (List.replicate 23 .dead) [(0, .t (.sl false (a.map GDecl.row))), (3, .ref (7, 0) out.length), (4, .t (.v (.int .i64 i)))]) (putR (List.replicate 23 []) [(7, [.mem (out.map GDecl.row) 0 false])])) := by
 unfold Ok
 refine laws_toDeclS_l8.partial_correctness a _ ?_
 intro F ih out i
 show Ok _ _ _
 have ih : ∀ (out : List (GDecl)) (i : Int), Ok (F out i) _ _ := ih
 rw [ev_loop]
 have k0 := @k_laws_toDeclS_l8.eq_1; have k1 := @k_laws_toDeclS_r4.eq_1; have g0 := laws_toDecl_ok; have t0 := ih
 exact gs
theorem laws_toDeclS_ok : ∀ (a : List GDecl), Ok (laws_toDeclS a) e_laws_toDeclS (dn FTA n_laws_toDeclS [.t (.sl false (a.map GDecl.row))]) := by
 intro a
 rw [den_ev FTA (fn := k_laws_toDeclS) rfl (xN rfl rfl _) (lB rfl)]
 have k0 := @k_laws_toDeclS.eq_1; have f0 := @laws_toDeclS.eq_1; have t0 := laws_toDeclS_l8_ok
 exact gs
theorem laws_toAttr_ok : ∀ (a : GAttr), Ok (laws_toAttr a) e_laws_toAttr (dn FTA n_laws_toAttr [.agg ((GAttr.row a).map .t)]) := by
 intro a
 rw [den_ev FTA (fn := k_laws_toAttr) rfl (xN rfl rfl _) (lB rfl)]
 have k0 := @k_laws_toAttr.eq_1; have f0 := @laws_toAttr.eq_1
 exact gs
theorem laws_toAttrS_l8_ok (a : List GAttr) : ∀ (out : List (GAttr)) (i : Int), Ok (laws_toAttrS_l8 a out i) e_laws_toAttrS (ev FTA c_laws_toAttrS (.loop k_laws_toAttrS_l8) [.lv 0, .th k_laws_toAttrS_r4] (putS (List.replicate 23 .dead) [(0, .t (.sl false (a.map GAttr.row))), (3, .ref (7, 0) out.length), (4, .t (.v (.int .i64 i)))]) (putR (List.replicate 23 []) [(7, [.mem (out.map GAttr.row) 0 false])])) := by
 unfold Ok
 refine laws_toAttrS_l8.partial_correctness a _ ?_
 intro F ih out i
 show Ok _ _ _
 have ih : ∀ (out : List (GAttr)) (i : Int), Ok (F out i) _ _ := ih
 rw [ev_loop]
 have k0 := @k_laws_toAttrS_l8.eq_1; have k1 := @k_laws_toAttrS_r4.eq_1; have g0 := laws_toAttr_ok; have t0 := ih
 exact gs
theorem laws_toAttrS_ok : ∀ (a : List GAttr), Ok (laws_toAttrS a) e_laws_toAttrS (dn FTA n_laws_toAttrS [.t (.sl false (a.map GAttr.row))]) := by
 intro a
 rw [den_ev FTA (fn := k_laws_toAttrS) rfl (xN rfl rfl _) (lB rfl)]
 have k0 := @k_laws_toAttrS.eq_1; have f0 := @laws_toAttrS.eq_1; have t0 := laws_toAttrS_l8_ok
 exact gs
theorem G_laws_toNode : (∀ (a : GNode), Ok (laws_toNode a) e_laws_toNode (dn FTA n_laws_toNode [.agg (((GNode.row false) a).map .t)])) ∧
  (∀ (a : List GNode), Ok (laws_toNodeS a) e_laws_toNodeS (dn FTA n_laws_toNodeS [.t (.sl false (a.map (GNode.row false)))])) ∧
  (∀ (a : List GNode) (out : List (GNode)) (i : Int), Ok (laws_toNodeS_l8 a out i) e_laws_toNodeS (ev FTA c_laws_toNodeS (.loop k_laws_toNodeS_l8) [.lv 0, .th k_laws_toNodeS_r4] (putS (List.replicate 23 .dead) [(0, .t (.sl false (a.map (GNode.row false)))), (3, .ref (7, 0) out.length), (4, .t (.v (.int .i64 i)))]) (putR (List.replicate 23 []) [(7, [.mem (out.map (GNode.row true)) 0 false])]))) := by
 unfold Ok
 refine laws_toNode.mutual_partial_correctness _ _ _ ?_ ?_ ?_
 ·intro F1 ih1 a
  show Ok _ _ _
  have ih1 : ∀ (a : List GNode), Ok (F1 a) _ _ := ih1
  rw [den_ev FTA (fn := k_laws_toNode) rfl (xN rfl rfl _) (lB rfl)]
  have k0 := @k_laws_toNode.eq_1; have g0 := laws_toDeclS_ok; have g1 := laws_toAttrS_ok; have g2 := ih1
  exact gs
 ·intro F2 ih2 a
  show Ok _ _ _
  have ih2 : ∀ (a : List GNode) (out : List (GNode)) (i : Int), Ok (F2 a out i) _ _ := ih2
  rw [den_ev FTA (fn := k_laws_toNodeS) rfl (xN rfl rfl _) (lB rfl)]
  have k0 := @k_laws_toNodeS.eq_1; have t0 := ih2
  exact gs
 ·intro F0 F2 ih0 ih2 a out i
  show Ok _ _ _
  have ih0 : ∀ (a : GNode), Ok (F0 a) _ _ := ih0
  have ih2 : ∀ (a : List GNode) (out : List (GNode)) (i : Int), Ok (F2 a out i) _ _ := ih2
  rw [ev_loop]
  have k0 := @k_laws_toNodeS_l8.eq_1; have k1 := @k_laws_toNodeS_r4.eq_1; have g0 := ih0; have t0 := ih2
  exact gs
theorem laws_toNode_ok (a : GNode) : Ok (laws_toNode a) e_laws_toNode (dn FTA n_laws_toNode [.agg (((GNode.row false) a).map .t)]) := G_laws_toNode.1 a
theorem laws_toNodeS_ok (a : List GNode) : Ok (laws_toNodeS a) e_laws_toNodeS (dn FTA n_laws_toNodeS [.t (.sl false (a.map (GNode.row false)))]) := G_laws_toNode.2.1 a
theorem G_spec_l5All : (∀ (l : List GNode), Ok (spec_l5All l) e_spec_l5All (dn FTA n_spec_l5All [.t (.sl false (l.map (GNode.row false)))])) ∧
  (∀ (l : List GNode) (out : List (GNode)) (i : Int), Ok (spec_l5All_l8 l out i) e_spec_l5All (ev FTA c_spec_l5All (.loop k_spec_l5All_l8) [.lv 0, .th k_spec_l5All_r4] (putS (List.replicate 23 .dead) [(0, .t (.sl false (l.map (GNode.row false)))), (3, .ref (6, 0) out.length), (4, .t (.v (.int .i64 i)))]) (putR (List.replicate 23 []) [(6, [.mem (out.map (GNode.row true)) 0 false])]))) ∧
  (∀ (n : GNode), Ok (spec_l5Copy n) e_spec_l5Copy (dn FTA n_spec_l5Copy [.agg (((GNode.row false) n).map .t)])) := by
 unfold Ok
 refine spec_l5All.mutual_partial_correctness _ _ _ ?_ ?_ ?_
 ·intro F1 ih1 l
  show Ok _ _ _
  have ih1 : ∀ (l : List GNode) (out : List (GNode)) (i : Int), Ok (F1 l out i) _ _ := ih1
  rw [den_ev FTA (fn := k_spec_l5All) rfl (xN rfl rfl _) (lB rfl)]
  have k0 := @k_spec_l5All.eq_1; have t0 := ih1
  exact gs
 ·intro F1 F2 ih1 ih2 l out i
  show Ok _ _ _
  have ih2 : ∀ (n : GNode), Ok (F2 n) _ _ := ih2
  have ih1 : ∀ (l : List GNode) (out : List (GNode)) (i : Int), Ok (F1 l out i) _ _ := ih1
  rw [ev_loop]
  have k0 := @k_spec_l5All_l8.eq_1; have k1 := @k_spec_l5All_r4.eq_1; have g0 := ih2; have t0 := ih1
  exact gs
 ·intro F0 ih0 n
  show Ok _ _ _
  have ih0 : ∀ (l : List GNode), Ok (F0 l) _ _ := ih0
  rw [den_ev FTA (fn := k_spec_l5Copy) rfl (xN rfl rfl _) (lB rfl)]
  have k0 := @k_spec_l5Copy.eq_1; have g0 := ih0
  exact gs
theorem spec_l5All_ok (l : List GNode) : Ok (spec_l5All l) e_spec_l5All (dn FTA n_spec_l5All [.t (.sl false (l.map (GNode.row false)))]) := G_spec_l5All.1 l
theorem spec_l5Copy_ok (n : GNode) : Ok (spec_l5Copy n) e_spec_l5Copy (dn FTA n_spec_l5Copy [.agg (((GNode.row false) n).map .t)]) := G_spec_l5All.2.2 n
theorem spec_Inner_ok : ∀ (l : List GDecl) (more : List GDecl), Ok (spec_Inner l more) e_spec_Inner (dn FTA n_spec_Inner [.t (.sl false (l.map GDecl.row)), .t (.sl false (more.map GDecl.row))]) := by
 intro l more
 rw [den_ev FTA (fn := k_spec_Inner) rfl (xN rfl rfl _) (lB rfl)]
 have k0 := @k_spec_Inner.eq_1; have f0 := @spec_Inner.eq_1
 exact gs
theorem spec_SpaceOf_l6_ok (l : List GDecl) (pre : ByteArray) : ∀ (i : Int), Ok (spec_SpaceOf_l6 l pre i) e_spec_SpaceOf (ev FTA c_spec_SpaceOf (.loop k_spec_SpaceOf_l6) [.lv 0, .th k_spec_SpaceOf_r2] (putS (List.replicate 28 .dead) [(0, .t (.sl false (l.map GDecl.row))), (1, .t (.v (.string pre))), (6, .t (.v (.int .i64 i)))]) (putR (List.replicate 28 []) [])) := by
 unfold Ok
 refine spec_SpaceOf_l6.partial_correctness l pre _ ?_
 intro F ih i
 show Ok _ _ _
 have ih : ∀ (i : Int), Ok (F i) _ _ := ih
 rw [ev_loop]
 have k0 := @k_spec_SpaceOf_l6.eq_1; have k1 := @k_spec_SpaceOf_r2.eq_1; have t0 := ih
 exact gs
theorem spec_SpaceOf_ok : ∀ (l : List GDecl) (pre : ByteArray), Ok (spec_SpaceOf l pre) e_spec_SpaceOf (dn FTA n_spec_SpaceOf [.t (.sl false (l.map GDecl.row)), .t (.v (.string pre))]) := by
 intro l pre
 rw [den_ev FTA (fn := k_spec_SpaceOf) rfl (xN rfl rfl _) (lB rfl)]
 have k0 := @k_spec_SpaceOf.eq_1; have f0 := @spec_SpaceOf.eq_1; have t0 := spec_SpaceOf_l6_ok
 exact gs
theorem spec_l5Less_ok : ∀ (a : GAttr) (b : GAttr), Ok (spec_l5Less a b) e_spec_l5Less (dn FTA n_spec_l5Less [.agg ((GAttr.row a).map .t), .agg ((GAttr.row b).map .t)]) := by
 intro a b
 rw [den_ev FTA (fn := k_spec_l5Less) rfl (xN rfl rfl _) (lB rfl)]
 have k0 := @k_spec_l5Less.eq_1; have f0 := @spec_l5Less.eq_1
 exact gs
end TT
