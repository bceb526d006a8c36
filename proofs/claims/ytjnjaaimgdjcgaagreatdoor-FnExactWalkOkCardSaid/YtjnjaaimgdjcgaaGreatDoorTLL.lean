import Derived.Test.YtjnjaaimgdjcgaaGreatDoorTKK
import Derived.Test.YtjnjaaimgdjcgaaGreatDoorTDefs
set_option maxHeartbeats 2000000
set_option linter.unusedVariables false
set_option linter.unusedSimpArgs false
set_option linter.defProp false
set_option maxRecDepth 100000
namespace TT
open Go
open Nat (reduceAdd reduceSub reduceMul reduceLeDiff reduceLT reduceEqDiff)
def e_laws_szDecl (r : Int) : Res := ⟨[.t (.v (.int .i64 r))], []⟩
def c_laws_szDecl : Cx := ⟨2, [0, 0], [.tmp 4]⟩
def e_laws_szDeclS (r : Int) : Res := ⟨[.t (.v (.int .i64 r))], []⟩
def c_laws_szDeclS : Cx := ⟨2, [0, 0], [.tmp 4]⟩
def e_laws_szAttr (r : Int) : Res := ⟨[.t (.v (.int .i64 r))], []⟩
def c_laws_szAttr : Cx := ⟨2, [0, 0], [.tmp 4]⟩
def e_laws_szAttrS (r : Int) : Res := ⟨[.t (.v (.int .i64 r))], []⟩
def c_laws_szAttrS : Cx := ⟨2, [0, 0], [.tmp 4]⟩
def e_laws_szNode (r : Int) : Res := ⟨[.t (.v (.int .i64 r))], []⟩
def c_laws_szNode : Cx := ⟨2, [0, 0], [.tmp 4]⟩
def e_laws_szNodeS (r : Int) : Res := ⟨[.t (.v (.int .i64 r))], []⟩
def c_laws_szNodeS : Cx := ⟨2, [0, 0], [.tmp 4]⟩
def e_laws_szIntS (r : Int) : Res := ⟨[.t (.v (.int .i64 r))], []⟩
def c_laws_szIntS : Cx := ⟨2, [0, 0], [.tmp 4]⟩
def e_laws_szWalk (r : Int) : Res := ⟨[.t (.v (.int .i64 r))], []⟩
def c_laws_szWalk : Cx := ⟨2, [0, 0], [.tmp 4]⟩
def e_laws_toDecl (r : GDecl) : Res := ⟨[.agg [.v (.string r.Pre), .v (.string r.Uri)]], []⟩
def c_laws_toDecl : Cx := ⟨1, [0], [.cell 2 2 true]⟩
def e_laws_toDeclS (r : List GDecl) : Res := ⟨[.t (.sl true (r.map GDecl.row))], []⟩
def c_laws_toDeclS : Cx := ⟨1, [0], [.tmp 2]⟩
def e_laws_toAttr (r : GAttr) : Res := ⟨[.agg [.v (.string r.Pre), .v (.string r.Local), .v (.string r.Uri), .v (.string r.Val)]], []⟩
def c_laws_toAttr : Cx := ⟨1, [0], [.cell 2 4 true]⟩
def e_laws_toAttrS (r : List GAttr) : Res := ⟨[.t (.sl true (r.map GAttr.row))], []⟩
def c_laws_toAttrS : Cx := ⟨1, [0], [.tmp 2]⟩
def e_laws_toNode (r : GNode) : Res := ⟨[.agg [.v (.int .i64 r.Kind), .v (.string r.Pre), .v (.string r.Local), .v (.string r.Uri), .sl true (r.Decls.map GDecl.row), .sl true (r.Attrs.map GAttr.row), .sl true (r.Kids.map (GNode.row true)), .v (.string r.Text)]], []⟩
def c_laws_toNode : Cx := ⟨1, [0], [.cell 2 8 true]⟩
def e_laws_toNodeS (r : List GNode) : Res := ⟨[.t (.sl true (r.map (GNode.row true)))], []⟩
def c_laws_toNodeS : Cx := ⟨1, [0], [.tmp 2]⟩
def e_laws_toIntS (r : List Int) : Res := ⟨[.t (.sl true (r.map rI))], []⟩
def c_laws_toIntS : Cx := ⟨1, [0], [.tmp 2]⟩
def e_laws_toWalk (r : GWalk) : Res := ⟨[.agg [.v (.int .i64 r.Tre.Kind), .v (.string r.Tre.Pre), .v (.string r.Tre.Local), .v (.string r.Tre.Uri), .sl true (r.Tre.Decls.map GDecl.row), .sl true (r.Tre.Attrs.map GAttr.row), .sl true (r.Tre.Kids.map (GNode.row true)), .v (.string r.Tre.Text), .sl true (r.Path.map rI)]], []⟩
def c_laws_toWalk : Cx := ⟨1, [0], [.cell 2 9 true]⟩
def e_spec_l1In (r : Bool) : Res := ⟨[.t (.v (.bool r))], []⟩
def c_spec_l1In : Cx := ⟨3, [0, 0, 0], [.tmp 6]⟩
def e_spec_l5All (r : List GNode) : Res := ⟨[.t (.sl true (r.map (GNode.row true)))], []⟩
def c_spec_l5All : Cx := ⟨1, [0], [.tmp 2]⟩
def e_spec_l5Copy (r : GNode) : Res := ⟨[.agg [.v (.int .i64 r.Kind), .v (.string r.Pre), .v (.string r.Local), .v (.string r.Uri), .sl true (r.Decls.map GDecl.row), .sl true (r.Attrs.map GAttr.row), .sl true (r.Kids.map (GNode.row true)), .v (.string r.Text)]], []⟩
def c_spec_l5Copy : Cx := ⟨1, [0], [.cell 2 8 true]⟩
def e_spec_NodeAt (r : GNode × Bool) : Res := ⟨[.agg [.v (.int .i64 r.1.Kind), .v (.string r.1.Pre), .v (.string r.1.Local), .v (.string r.1.Uri), .sl true (r.1.Decls.map GDecl.row), .sl true (r.1.Attrs.map GAttr.row), .sl true (r.1.Kids.map (GNode.row true)), .v (.string r.1.Text)], .t (.v (.bool r.2))], []⟩
def c_spec_NodeAt : Cx := ⟨2, [0, 0], [.cell 4 8 true, .tmp 5]⟩
def e_spec_CountOf (r : Int) : Res := ⟨[.t (.v (.int .i64 r))], []⟩
def c_spec_CountOf : Cx := ⟨1, [0], [.tmp 2]⟩
def e_spec_SignAt (r : Int × Int × Bool) : Res := ⟨[.t (.v (.int .i64 r.1)), .t (.v (.int .i64 r.2.1)), .t (.v (.bool r.2.2))], []⟩
def c_spec_SignAt : Cx := ⟨2, [0, 0], [.tmp 4, .tmp 5, .tmp 6]⟩
def e_spec_l1Ranges (r : Bool) : Res := ⟨[.t (.v (.bool r))], []⟩
def c_spec_l1Ranges : Cx := ⟨2, [0, 0], [.tmp 4]⟩
def e_spec_IsStart (r : Bool) : Res := ⟨[.t (.v (.bool r))], []⟩
def c_spec_IsStart : Cx := ⟨1, [0], [.tmp 2]⟩
def e_spec_IsPart (r : Bool) : Res := ⟨[.t (.v (.bool r))], []⟩
def c_spec_IsPart : Cx := ⟨1, [0], [.tmp 2]⟩
def e_spec_PlainOk (r : Bool) : Res := ⟨[.t (.v (.bool r))], []⟩
def c_spec_PlainOk : Cx := ⟨1, [0], [.tmp 2]⟩
def e_spec_l4Xml (r : Bool) : Res := ⟨[.t (.v (.bool r))], []⟩
def c_spec_l4Xml : Cx := ⟨1, [0], [.tmp 2]⟩
def e_spec_l5Pre (r : Bool) : Res := ⟨[.t (.v (.bool r))], []⟩
def c_spec_l5Pre : Cx := ⟨1, [0], [.tmp 2]⟩
def e_spec_IsSign (r : Bool) : Res := ⟨[.t (.v (.bool r))], []⟩
def c_spec_IsSign : Cx := ⟨1, [0], [.tmp 2]⟩
def e_spec_l1Signs (r : Bool) : Res := ⟨[.t (.v (.bool r))], []⟩
def c_spec_l1Signs : Cx := ⟨1, [0], [.tmp 2]⟩
def e_spec_TextOk (r : Bool) : Res := ⟨[.t (.v (.bool r))], []⟩
def c_spec_TextOk : Cx := ⟨1, [0], [.tmp 2]⟩
def e_spec_DeclOk (r : Bool) : Res := ⟨[.t (.v (.bool r))], []⟩
def c_spec_DeclOk : Cx := ⟨1, [0], [.tmp 2]⟩
def e_spec_DeclsOk (r : Bool) : Res := ⟨[.t (.v (.bool r))], []⟩
def c_spec_DeclsOk : Cx := ⟨1, [0], [.tmp 2]⟩
def e_spec_l5Bare (r : Bool) : Res := ⟨[.t (.v (.bool r))], []⟩
def c_spec_l5Bare : Cx := ⟨1, [0], [.tmp 2]⟩
def e_spec_l5Has (r : Bool) : Res := ⟨[.t (.v (.bool r))], []⟩
def c_spec_l5Has : Cx := ⟨2, [0, 0], [.tmp 4]⟩
def e_spec_l5Xml (r : Bool) : Res := ⟨[.t (.v (.bool r))], []⟩
def c_spec_l5Xml : Cx := ⟨1, [0], [.tmp 2]⟩
def e_spec_IsBlank (r : Bool) : Res := ⟨[.t (.v (.bool r))], []⟩
def c_spec_IsBlank : Cx := ⟨1, [0], [.tmp 2]⟩
def e_spec_l5AttrOk (r : Bool) : Res := ⟨[.t (.v (.bool r))], []⟩
def c_spec_l5AttrOk : Cx := ⟨1, [0], [.tmp 2]⟩
def e_spec_l5Less (r : Bool) : Res := ⟨[.t (.v (.bool r))], []⟩
def c_spec_l5Less : Cx := ⟨2, [0, 0], [.tmp 4]⟩
def e_spec_l5One (r : Bool) : Res := ⟨[.t (.v (.bool r))], []⟩
def c_spec_l5One : Cx := ⟨1, [0], [.tmp 2]⟩
def e_spec_l5Kids (r : Bool) : Res := ⟨[.t (.v (.bool r))], []⟩
def c_spec_l5Kids : Cx := ⟨2, [0, 0], [.tmp 4]⟩
def e_spec_NodeOk (r : Bool) : Res := ⟨[.t (.v (.bool r))], []⟩
def c_spec_NodeOk : Cx := ⟨1, [0], [.tmp 2]⟩
def e_spec_Inner (r : List GDecl) : Res := ⟨[.t (.sl true (r.map GDecl.row))], []⟩
def c_spec_Inner : Cx := ⟨2, [0, 0], [.tmp 4]⟩
def e_spec_SpaceOf (r : ByteArray × Bool) : Res := ⟨[.t (.v (.string r.1)), .t (.v (.bool r.2))], []⟩
def c_spec_SpaceOf : Cx := ⟨2, [0, 0], [.tmp 4, .tmp 5]⟩
def e_spec_FitsIn (r : Bool) : Res := ⟨[.t (.v (.bool r))], []⟩
def c_spec_FitsIn : Cx := ⟨2, [0, 0], [.tmp 4]⟩
def e_spec_TreeOk (r : Bool) : Res := ⟨[.t (.v (.bool r))], []⟩
def c_spec_TreeOk : Cx := ⟨1, [0], [.tmp 2]⟩
def e_spec_WalkOk (r : Bool) : Res := ⟨[.t (.v (.bool r))], []⟩
def c_spec_WalkOk : Cx := ⟨1, [0], [.tmp 2]⟩
def e_impl_in (r : Bool) : Res := ⟨[.t (.v (.bool r))], []⟩
def c_impl_in : Cx := ⟨3, [0, 0, 0], [.tmp 6]⟩
def e_slices_Clone_Decl (r : List GDecl) : Res := ⟨[.t (.sl true (r.map GDecl.row))], []⟩
def c_slices_Clone_Decl : Cx := ⟨1, [0], [.tmp 2]⟩
def e_slices_Clone_Attr (r : List GAttr) : Res := ⟨[.t (.sl true (r.map GAttr.row))], []⟩
def c_slices_Clone_Attr : Cx := ⟨1, [0], [.tmp 2]⟩
def e_impl_cloneNode (r : GNode) : Res := ⟨[.agg [.v (.int .i64 r.Kind), .v (.string r.Pre), .v (.string r.Local), .v (.string r.Uri), .sl true (r.Decls.map GDecl.row), .sl true (r.Attrs.map GAttr.row), .sl true (r.Kids.map (GNode.row true)), .v (.string r.Text)]], []⟩
def c_impl_cloneNode : Cx := ⟨1, [0], [.cell 2 8 true]⟩
def e_impl_cloneNodes (r : List GNode) : Res := ⟨[.t (.sl true (r.map (GNode.row true)))], []⟩
def c_impl_cloneNodes : Cx := ⟨1, [0], [.tmp 2]⟩
def e_impl_NodeAt (r : GNode × Bool) : Res := ⟨[.agg [.v (.int .i64 r.1.Kind), .v (.string r.1.Pre), .v (.string r.1.Local), .v (.string r.1.Uri), .sl true (r.1.Decls.map GDecl.row), .sl true (r.1.Attrs.map GAttr.row), .sl true (r.1.Kids.map (GNode.row true)), .v (.string r.1.Text)], .t (.v (.bool r.2))], []⟩
def c_impl_NodeAt : Cx := ⟨2, [0, 0], [.cell 4 8 true, .tmp 5]⟩
def e_impl_CountOf (r : Int) : Res := ⟨[.t (.v (.int .i64 r))], []⟩
def c_impl_CountOf : Cx := ⟨1, [0], [.tmp 2]⟩
def e_unicode_utf8_DecodeRuneInString (r : Int × Int) : Res := ⟨[.t (.v (.int .i32 r.1)), .t (.v (.int .i64 r.2))], []⟩
def c_unicode_utf8_DecodeRuneInString : Cx := ⟨1, [0], [.tmp 2, .tmp 3]⟩
def e_impl_SignAt (r : Int × Int × Bool) : Res := ⟨[.t (.v (.int .i64 r.1)), .t (.v (.int .i64 r.2.1)), .t (.v (.bool r.2.2))], []⟩
def c_impl_SignAt : Cx := ⟨2, [0, 0], [.tmp 4, .tmp 5, .tmp 6]⟩
def e_impl_inAny_1 (r : Bool × Int) : Res := ⟨[.t (.v (.bool r.1))], [some [[.v (.int .i64 r.2)]]]⟩
def c_impl_inAny_1 : Cx := ⟨2, [0, 1], [.tmp 3]⟩
def e_slices_IndexFunc_A2int_inAny_1 (r : Int × Int) : Res := ⟨[.t (.v (.int .i64 r.1))], [some [[.v (.int .i64 r.2)]]]⟩
def c_slices_IndexFunc_A2int_inAny_1 : Cx := ⟨2, [0, 1], [.tmp 4]⟩
def e_slices_ContainsFunc_A2int_inAny_1 (r : Bool × Int) : Res := ⟨[.t (.v (.bool r.1))], [some [[.v (.int .i64 r.2)]]]⟩
def c_slices_ContainsFunc_A2int_inAny_1 : Cx := ⟨2, [0, 1], [.tmp 4]⟩
def e_impl_inAny (r : Bool) : Res := ⟨[.t (.v (.bool r))], []⟩
def c_impl_inAny : Cx := ⟨2, [0, 0], [.tmp 4]⟩
def e_impl_IsSign (r : Bool) : Res := ⟨[.t (.v (.bool r))], []⟩
def c_impl_IsSign : Cx := ⟨1, [0], [.tmp 2]⟩
def e_impl_signsOk (r : Bool) : Res := ⟨[.t (.v (.bool r))], []⟩
def c_impl_signsOk : Cx := ⟨1, [0], [.tmp 2]⟩
def e_impl_TextOk (r : Bool) : Res := ⟨[.t (.v (.bool r))], []⟩
def c_impl_TextOk : Cx := ⟨1, [0], [.tmp 2]⟩
def e_strings_Contains (r : Bool) : Res := ⟨[.t (.v (.bool r))], []⟩
def c_strings_Contains : Cx := ⟨2, [0, 0], [.tmp 4]⟩
def e_internal_stringslite_HasSuffix (r : Bool) : Res := ⟨[.t (.v (.bool r))], []⟩
def c_internal_stringslite_HasSuffix : Cx := ⟨2, [0, 0], [.tmp 4]⟩
def e_strings_HasSuffix (r : Bool) : Res := ⟨[.t (.v (.bool r))], []⟩
def c_strings_HasSuffix : Cx := ⟨2, [0, 0], [.tmp 4]⟩
def e_impl_noteOk (r : Bool) : Res := ⟨[.t (.v (.bool r))], []⟩
def c_impl_noteOk : Cx := ⟨1, [0], [.tmp 2]⟩
def e_impl_IsStart (r : Bool) : Res := ⟨[.t (.v (.bool r))], []⟩
def c_impl_IsStart : Cx := ⟨1, [0], [.tmp 2]⟩
def e_impl_IsPart (r : Bool) : Res := ⟨[.t (.v (.bool r))], []⟩
def c_impl_IsPart : Cx := ⟨1, [0], [.tmp 2]⟩
def e_impl_PlainOk (r : Bool) : Res := ⟨[.t (.v (.bool r))], []⟩
def c_impl_PlainOk : Cx := ⟨1, [0], [.tmp 2]⟩
def e_strings_EqualFold (r : Bool) : Res := ⟨[.t (.v (.bool r))], []⟩
def c_strings_EqualFold : Cx := ⟨2, [0, 0], [.tmp 4]⟩
def e_impl_IsBlank (r : Bool) : Res := ⟨[.t (.v (.bool r))], []⟩
def c_impl_IsBlank : Cx := ⟨1, [0], [.tmp 2]⟩
def e_impl_toldOk (r : Bool) : Res := ⟨[.t (.v (.bool r))], []⟩
def c_impl_toldOk : Cx := ⟨2, [0, 0], [.tmp 4]⟩
def e_impl_leafOk (r : Bool) : Res := ⟨[.t (.v (.bool r))], []⟩
def c_impl_leafOk : Cx := ⟨1, [0], [.tmp 2]⟩
def e_internal_stringslite_HasPrefix (r : Bool) : Res := ⟨[.t (.v (.bool r))], []⟩
def c_internal_stringslite_HasPrefix : Cx := ⟨2, [0, 0], [.tmp 4]⟩
def e_strings_HasPrefix (r : Bool) : Res := ⟨[.t (.v (.bool r))], []⟩
def c_strings_HasPrefix : Cx := ⟨2, [0, 0], [.tmp 4]⟩
def e_impl_preOk (r : Bool) : Res := ⟨[.t (.v (.bool r))], []⟩
def c_impl_preOk : Cx := ⟨1, [0], [.tmp 2]⟩
def e_impl_uriOk (r : Bool) : Res := ⟨[.t (.v (.bool r))], []⟩
def c_impl_uriOk : Cx := ⟨2, [0, 0], [.tmp 4]⟩
def e_impl_DeclOk (r : Bool) : Res := ⟨[.t (.v (.bool r))], []⟩
def c_impl_DeclOk : Cx := ⟨1, [0], [.tmp 2]⟩
def e_impl_DeclsOk (r : Bool) : Res := ⟨[.t (.v (.bool r))], []⟩
def c_impl_DeclsOk : Cx := ⟨1, [0], [.tmp 2]⟩
def e_impl_attrOk (r : Bool) : Res := ⟨[.t (.v (.bool r))], []⟩
def c_impl_attrOk : Cx := ⟨1, [0], [.tmp 2]⟩
def e_strings_Compare (r : Int) : Res := ⟨[.t (.v (.int .i64 r))], []⟩
def c_strings_Compare : Cx := ⟨2, [0, 0], [.tmp 4]⟩
def e_impl_compareAttrs (r : Int) : Res := ⟨[.t (.v (.int .i64 r))], []⟩
def c_impl_compareAttrs : Cx := ⟨2, [0, 0], [.tmp 4]⟩
def e_impl_attrsOk (r : Bool) : Res := ⟨[.t (.v (.bool r))], []⟩
def c_impl_attrsOk : Cx := ⟨1, [0], [.tmp 2]⟩
def e_impl_noTwoTexts (r : Bool) : Res := ⟨[.t (.v (.bool r))], []⟩
def c_impl_noTwoTexts : Cx := ⟨1, [0], [.tmp 2]⟩
def e_impl_kidsOk (r : Bool) : Res := ⟨[.t (.v (.bool r))], []⟩
def c_impl_kidsOk : Cx := ⟨2, [0, 0], [.tmp 4]⟩
def e_slices_ContainsFunc_Node_kidsOk_1 (r : Bool × Int) : Res := ⟨[.t (.v (.bool r.1))], [some [[.v (.int .i64 r.2)]]]⟩
def c_slices_ContainsFunc_Node_kidsOk_1 : Cx := ⟨2, [0, 1], [.tmp 4]⟩
def e_slices_IndexFunc_Node_kidsOk_1 (r : Int × Int) : Res := ⟨[.t (.v (.int .i64 r.1))], [some [[.v (.int .i64 r.2)]]]⟩
def c_slices_IndexFunc_Node_kidsOk_1 : Cx := ⟨2, [0, 1], [.tmp 4]⟩
def e_impl_kidsOk_1 (r : Bool × Int) : Res := ⟨[.t (.v (.bool r.1))], [some [[.v (.int .i64 r.2)]]]⟩
def c_impl_kidsOk_1 : Cx := ⟨2, [0, 1], [.tmp 3]⟩
def e_impl_partOk (r : Bool) : Res := ⟨[.t (.v (.bool r))], []⟩
def c_impl_partOk : Cx := ⟨2, [0, 0], [.tmp 4]⟩
def e_impl_ofKind (r : Int) : Res := ⟨[.t (.v (.int .i64 r))], []⟩
def c_impl_ofKind : Cx := ⟨2, [0, 0], [.tmp 4]⟩
def e_impl_NodeOk (r : Bool) : Res := ⟨[.t (.v (.bool r))], []⟩
def c_impl_NodeOk : Cx := ⟨1, [0], [.tmp 2]⟩
def e_impl_FitsIn (r : Bool) : Res := ⟨[.t (.v (.bool r))], []⟩
def c_impl_FitsIn : Cx := ⟨2, [0, 0], [.tmp 4]⟩
def e_impl_TreeOk (r : Bool) : Res := ⟨[.t (.v (.bool r))], []⟩
def c_impl_TreeOk : Cx := ⟨1, [0], [.tmp 2]⟩
def e_impl_WalkOk (r : Bool) : Res := ⟨[.t (.v (.bool r))], []⟩
def c_impl_WalkOk : Cx := ⟨1, [0], [.tmp 2]⟩
def e_laws_eqDecl (r : Bool) : Res := ⟨[.t (.v (.bool r))], []⟩
def c_laws_eqDecl : Cx := ⟨2, [0, 0], [.tmp 4]⟩
def e_laws_eqDeclS (r : Bool) : Res := ⟨[.t (.v (.bool r))], []⟩
def c_laws_eqDeclS : Cx := ⟨2, [0, 0], [.tmp 4]⟩
def e_laws_eqAttr (r : Bool) : Res := ⟨[.t (.v (.bool r))], []⟩
def c_laws_eqAttr : Cx := ⟨2, [0, 0], [.tmp 4]⟩
def e_laws_eqAttrS (r : Bool) : Res := ⟨[.t (.v (.bool r))], []⟩
def c_laws_eqAttrS : Cx := ⟨2, [0, 0], [.tmp 4]⟩
def e_laws_eqNode (r : Bool) : Res := ⟨[.t (.v (.bool r))], []⟩
def c_laws_eqNode : Cx := ⟨2, [0, 0], [.tmp 4]⟩
def e_laws_eqNodeS (r : Bool) : Res := ⟨[.t (.v (.bool r))], []⟩
def c_laws_eqNodeS : Cx := ⟨2, [0, 0], [.tmp 4]⟩
def e_laws_eqIntS (r : Bool) : Res := ⟨[.t (.v (.bool r))], []⟩
def c_laws_eqIntS : Cx := ⟨2, [0, 0], [.tmp 4]⟩
def e_laws_eqWalk (r : Bool) : Res := ⟨[.t (.v (.bool r))], []⟩
def c_laws_eqWalk : Cx := ⟨2, [0, 0], [.tmp 4]⟩
def e_laws_FnExactWalkOk (r : Bool) : Res := ⟨[.t (.v (.bool r))], []⟩
def c_laws_FnExactWalkOk : Cx := ⟨1, [0], [.tmp 2]⟩
def ES := And.intro (@e_laws_szDecl.eq_1) <| And.intro (@c_laws_szDecl.eq_1) <| And.intro (@e_laws_szDeclS.eq_1) <| And.intro (@c_laws_szDeclS.eq_1) <| And.intro (@e_laws_szAttr.eq_1) <| And.intro (@c_laws_szAttr.eq_1) <| And.intro (@e_laws_szAttrS.eq_1) <| And.intro (@c_laws_szAttrS.eq_1) <| And.intro (@e_laws_szNode.eq_1) <| And.intro (@c_laws_szNode.eq_1) <| And.intro (@e_laws_szNodeS.eq_1) <| And.intro (@c_laws_szNodeS.eq_1) <| And.intro (@e_laws_szIntS.eq_1) <| And.intro (@c_laws_szIntS.eq_1) <| And.intro (@e_laws_szWalk.eq_1) <| And.intro (@c_laws_szWalk.eq_1) <| And.intro (@e_laws_toDecl.eq_1) <| And.intro (@c_laws_toDecl.eq_1) <| And.intro (@e_laws_toDeclS.eq_1) <| And.intro (@c_laws_toDeclS.eq_1) <| And.intro (@e_laws_toAttr.eq_1) <| And.intro (@c_laws_toAttr.eq_1) <| And.intro (@e_laws_toAttrS.eq_1) <| And.intro (@c_laws_toAttrS.eq_1) <| And.intro (@e_laws_toNode.eq_1) <| And.intro (@c_laws_toNode.eq_1) <| And.intro (@e_laws_toNodeS.eq_1) <| And.intro (@c_laws_toNodeS.eq_1) <| And.intro (@e_laws_toIntS.eq_1) <| And.intro (@c_laws_toIntS.eq_1) <| And.intro (@e_laws_toWalk.eq_1) <| And.intro (@c_laws_toWalk.eq_1) <| And.intro (@e_spec_l1In.eq_1) <| And.intro (@c_spec_l1In.eq_1) <| And.intro (@e_spec_l5All.eq_1) <| And.intro (@c_spec_l5All.eq_1) <| And.intro (@e_spec_l5Copy.eq_1) <| And.intro (@c_spec_l5Copy.eq_1) <| And.intro (@e_spec_NodeAt.eq_1) <| And.intro (@c_spec_NodeAt.eq_1) <| And.intro (@e_spec_CountOf.eq_1) <| And.intro (@c_spec_CountOf.eq_1) <| And.intro (@e_spec_SignAt.eq_1) <| And.intro (@c_spec_SignAt.eq_1) <| And.intro (@e_spec_l1Ranges.eq_1) <| And.intro (@c_spec_l1Ranges.eq_1) <| And.intro (@e_spec_IsStart.eq_1) <| And.intro (@c_spec_IsStart.eq_1) <| And.intro (@e_spec_IsPart.eq_1) <| And.intro (@c_spec_IsPart.eq_1) <| And.intro (@e_spec_PlainOk.eq_1) <| And.intro (@c_spec_PlainOk.eq_1) <| And.intro (@e_spec_l4Xml.eq_1) <| And.intro (@c_spec_l4Xml.eq_1) <| And.intro (@e_spec_l5Pre.eq_1) <| And.intro (@c_spec_l5Pre.eq_1) <| And.intro (@e_spec_IsSign.eq_1) <| And.intro (@c_spec_IsSign.eq_1) <| And.intro (@e_spec_l1Signs.eq_1) <| And.intro (@c_spec_l1Signs.eq_1) <| And.intro (@e_spec_TextOk.eq_1) <| And.intro (@c_spec_TextOk.eq_1) <| And.intro (@e_spec_DeclOk.eq_1) <| And.intro (@c_spec_DeclOk.eq_1) <| And.intro (@e_spec_DeclsOk.eq_1) <| And.intro (@c_spec_DeclsOk.eq_1) <| And.intro (@e_spec_l5Bare.eq_1) <| And.intro (@c_spec_l5Bare.eq_1) <| And.intro (@e_spec_l5Has.eq_1) <| And.intro (@c_spec_l5Has.eq_1) <| And.intro (@e_spec_l5Xml.eq_1) <| And.intro (@c_spec_l5Xml.eq_1) <| And.intro (@e_spec_IsBlank.eq_1) <| And.intro (@c_spec_IsBlank.eq_1) <| And.intro (@e_spec_l5AttrOk.eq_1) <| And.intro (@c_spec_l5AttrOk.eq_1) <| And.intro (@e_spec_l5Less.eq_1) <| And.intro (@c_spec_l5Less.eq_1) <| And.intro (@e_spec_l5One.eq_1) <| And.intro (@c_spec_l5One.eq_1) <| And.intro (@e_spec_l5Kids.eq_1) <| And.intro (@c_spec_l5Kids.eq_1) <| And.intro (@e_spec_NodeOk.eq_1) <| And.intro (@c_spec_NodeOk.eq_1) <| And.intro (@e_spec_Inner.eq_1) <| And.intro (@c_spec_Inner.eq_1) <| And.intro (@e_spec_SpaceOf.eq_1) <| And.intro (@c_spec_SpaceOf.eq_1) <| And.intro (@e_spec_FitsIn.eq_1) <| And.intro (@c_spec_FitsIn.eq_1) <| And.intro (@e_spec_TreeOk.eq_1) <| And.intro (@c_spec_TreeOk.eq_1) <| And.intro (@e_spec_WalkOk.eq_1) <| And.intro (@c_spec_WalkOk.eq_1) <| And.intro (@e_impl_in.eq_1) <| And.intro (@c_impl_in.eq_1) <| And.intro (@e_slices_Clone_Decl.eq_1) <| And.intro (@c_slices_Clone_Decl.eq_1) <| And.intro (@e_slices_Clone_Attr.eq_1) <| And.intro (@c_slices_Clone_Attr.eq_1) <| And.intro (@e_impl_cloneNode.eq_1) <| And.intro (@c_impl_cloneNode.eq_1) <| And.intro (@e_impl_cloneNodes.eq_1) <| And.intro (@c_impl_cloneNodes.eq_1) <| And.intro (@e_impl_NodeAt.eq_1) <| And.intro (@c_impl_NodeAt.eq_1) <| And.intro (@e_impl_CountOf.eq_1) <| And.intro (@c_impl_CountOf.eq_1) <| And.intro (@e_unicode_utf8_DecodeRuneInString.eq_1) <| And.intro (@c_unicode_utf8_DecodeRuneInString.eq_1) <| And.intro (@e_impl_SignAt.eq_1) <| And.intro (@c_impl_SignAt.eq_1) <| And.intro (@e_impl_inAny_1.eq_1) <| And.intro (@c_impl_inAny_1.eq_1) <| And.intro (@e_slices_IndexFunc_A2int_inAny_1.eq_1) <| And.intro (@c_slices_IndexFunc_A2int_inAny_1.eq_1) <| And.intro (@e_slices_ContainsFunc_A2int_inAny_1.eq_1) <| And.intro (@c_slices_ContainsFunc_A2int_inAny_1.eq_1) <| And.intro (@e_impl_inAny.eq_1) <| And.intro (@c_impl_inAny.eq_1) <| And.intro (@e_impl_IsSign.eq_1) <| And.intro (@c_impl_IsSign.eq_1) <| And.intro (@e_impl_signsOk.eq_1) <| And.intro (@c_impl_signsOk.eq_1) <| And.intro (@e_impl_TextOk.eq_1) <| And.intro (@c_impl_TextOk.eq_1) <| And.intro (@e_strings_Contains.eq_1) <| And.intro (@c_strings_Contains.eq_1) <| And.intro (@e_internal_stringslite_HasSuffix.eq_1) <| And.intro (@c_internal_stringslite_HasSuffix.eq_1) <| And.intro (@e_strings_HasSuffix.eq_1) <| And.intro (@c_strings_HasSuffix.eq_1) <| And.intro (@e_impl_noteOk.eq_1) <| And.intro (@c_impl_noteOk.eq_1) <| And.intro (@e_impl_IsStart.eq_1) <| And.intro (@c_impl_IsStart.eq_1) <| And.intro (@e_impl_IsPart.eq_1) <| And.intro (@c_impl_IsPart.eq_1) <| And.intro (@e_impl_PlainOk.eq_1) <| And.intro (@c_impl_PlainOk.eq_1) <| And.intro (@e_strings_EqualFold.eq_1) <| And.intro (@c_strings_EqualFold.eq_1) <| And.intro (@e_impl_IsBlank.eq_1) <| And.intro (@c_impl_IsBlank.eq_1) <| And.intro (@e_impl_toldOk.eq_1) <| And.intro (@c_impl_toldOk.eq_1) <| And.intro (@e_impl_leafOk.eq_1) <| And.intro (@c_impl_leafOk.eq_1) <| And.intro (@e_internal_stringslite_HasPrefix.eq_1) <| And.intro (@c_internal_stringslite_HasPrefix.eq_1) <| And.intro (@e_strings_HasPrefix.eq_1) <| And.intro (@c_strings_HasPrefix.eq_1) <| And.intro (@e_impl_preOk.eq_1) <| And.intro (@c_impl_preOk.eq_1) <| And.intro (@e_impl_uriOk.eq_1) <| And.intro (@c_impl_uriOk.eq_1) <| And.intro (@e_impl_DeclOk.eq_1) <| And.intro (@c_impl_DeclOk.eq_1) <| And.intro (@e_impl_DeclsOk.eq_1) <| And.intro (@c_impl_DeclsOk.eq_1) <| And.intro (@e_impl_attrOk.eq_1) <| And.intro (@c_impl_attrOk.eq_1) <| And.intro (@e_strings_Compare.eq_1) <| And.intro (@c_strings_Compare.eq_1) <| And.intro (@e_impl_compareAttrs.eq_1) <| And.intro (@c_impl_compareAttrs.eq_1) <| And.intro (@e_impl_attrsOk.eq_1) <| And.intro (@c_impl_attrsOk.eq_1) <| And.intro (@e_impl_noTwoTexts.eq_1) <| And.intro (@c_impl_noTwoTexts.eq_1) <| And.intro (@e_impl_kidsOk.eq_1) <| And.intro (@c_impl_kidsOk.eq_1) <| And.intro (@e_slices_ContainsFunc_Node_kidsOk_1.eq_1) <| And.intro (@c_slices_ContainsFunc_Node_kidsOk_1.eq_1) <| And.intro (@e_slices_IndexFunc_Node_kidsOk_1.eq_1) <| And.intro (@c_slices_IndexFunc_Node_kidsOk_1.eq_1) <| And.intro (@e_impl_kidsOk_1.eq_1) <| And.intro (@c_impl_kidsOk_1.eq_1) <| And.intro (@e_impl_partOk.eq_1) <| And.intro (@c_impl_partOk.eq_1) <| And.intro (@e_impl_ofKind.eq_1) <| And.intro (@c_impl_ofKind.eq_1) <| And.intro (@e_impl_NodeOk.eq_1) <| And.intro (@c_impl_NodeOk.eq_1) <| And.intro (@e_impl_FitsIn.eq_1) <| And.intro (@c_impl_FitsIn.eq_1) <| And.intro (@e_impl_TreeOk.eq_1) <| And.intro (@c_impl_TreeOk.eq_1) <| And.intro (@e_impl_WalkOk.eq_1) <| And.intro (@c_impl_WalkOk.eq_1) <| And.intro (@e_laws_eqDecl.eq_1) <| And.intro (@c_laws_eqDecl.eq_1) <| And.intro (@e_laws_eqDeclS.eq_1) <| And.intro (@c_laws_eqDeclS.eq_1) <| And.intro (@e_laws_eqAttr.eq_1) <| And.intro (@c_laws_eqAttr.eq_1) <| And.intro (@e_laws_eqAttrS.eq_1) <| And.intro (@c_laws_eqAttrS.eq_1) <| And.intro (@e_laws_eqNode.eq_1) <| And.intro (@c_laws_eqNode.eq_1) <| And.intro (@e_laws_eqNodeS.eq_1) <| And.intro (@c_laws_eqNodeS.eq_1) <| And.intro (@e_laws_eqIntS.eq_1) <| And.intro (@c_laws_eqIntS.eq_1) <| And.intro (@e_laws_eqWalk.eq_1) <| And.intro (@c_laws_eqWalk.eq_1) <| And.intro (@e_laws_FnExactWalkOk.eq_1) <| @c_laws_FnExactWalkOk.eq_1
theorem xN {f : FuncId} (h : FTA.cl.contains f = false) (h2 : (FTA.lb.all fun p => p.1 != f) = true) (args : List Arg) : xOf FTA f args = none := xOf_none h h2 args
theorem lB {a b : Nat} (h : Nat.ble a b = true) : a ≤ b := Nat.le_of_ble_eq_true h
theorem laws_szDecl_ok : ∀ (a : GDecl) (left : Int), Ok (laws_szDecl a left) e_laws_szDecl (dn FTA n_laws_szDecl [.agg ((GDecl.row a).map .t), .t (.v (.int .i64 left))]) := by
  intro a left
  rw [den_ev FTA (fn := k_laws_szDecl) rfl (xN rfl rfl _) (lB rfl)]
  simp only [SSA, RS, ES, k_laws_szDecl, laws_szDecl, reduceAdd, reduceSub, reduceMul, reduceLeDiff, reduceLT, reduceEqDiff, Nat.reduceBEq, ↓reduceIte, reduceCtorEq]
  repeat' first
    | with_reducible exact Ok_none
    | ((with_reducible refine Ok_ret ?_); first | rfl | simp only [SSA, RS, ES])
    | ((first | with_reducible refine Ok_if (fun h => ?_) (fun h => ?_)) <;> simp only [SSA, RS, ES, *, reduceAdd, reduceSub, reduceMul, reduceLeDiff, reduceLT, reduceEqDiff, Nat.reduceBEq, ↓reduceIte, reduceCtorEq])
theorem laws_szDeclS_l16_ok (a : List GDecl) : ∀ (left1 : Int) (i : Int), Ok (laws_szDeclS_l16 a left1 i) e_laws_szDeclS (ev FTA c_laws_szDeclS (.loop k_laws_szDeclS_l16) [.lv 0, .th k_laws_szDeclS_r12] (putS (List.replicate 27 .dead) [(0, .t (.sl false (a.map GDecl.row))), (1, .t (.v (.int .i64 left1))), (5, .t (.v (.int .i64 i)))]) (putR (List.replicate 27 []) [])) := by
  unfold Ok
  refine laws_szDeclS_l16.partial_correctness a _ ?_
  intro F ih left1 i
  show Ok _ _ _
  have ih : ∀ (left1 : Int) (i : Int), Ok (F left1 i) _ _ := ih
  rw [ev_loop]
  have g0 := laws_szDecl_ok; try simp only [SSA, RS, reduceAdd, reduceSub, reduceMul, reduceLeDiff, reduceLT, reduceEqDiff, Nat.reduceBEq, ↓reduceIte, reduceCtorEq] at g0
  simp only [SSA, RS, ES, k_laws_szDeclS_l16, k_laws_szDeclS_r12, reduceAdd, reduceSub, reduceMul, reduceLeDiff, reduceLT, reduceEqDiff, Nat.reduceBEq, ↓reduceIte, reduceCtorEq]
  repeat' first
    | with_reducible exact Ok_none
    | ((with_reducible refine Ok_ret ?_); first | rfl | simp only [SSA, RS, ES])
    | ((with_reducible refine Ok_tail (ih ..) ?_); first | rfl | (simp only [SSA, RS, ES, reduceAdd, reduceSub, reduceMul, reduceLeDiff, reduceLT, reduceEqDiff, Nat.reduceBEq, ↓reduceIte, reduceCtorEq] <;> rfl))
    | ((first | with_reducible refine Ok_if (fun h => ?_) (fun h => ?_) | with_reducible refine Ok_get fun a h => ?_ | with_reducible refine Ok_call (g0 ..) fun v => ?_ | refine Ok_call (g0 ..) fun v => ?_) <;> simp only [SSA, RS, ES, *, k_laws_szDeclS_r12, reduceAdd, reduceSub, reduceMul, reduceLeDiff, reduceLT, reduceEqDiff, Nat.reduceBEq, ↓reduceIte, reduceCtorEq])
theorem laws_szDeclS_ok : ∀ (a : List GDecl) (left : Int), Ok (laws_szDeclS a left) e_laws_szDeclS (dn FTA n_laws_szDeclS [.t (.sl false (a.map GDecl.row)), .t (.v (.int .i64 left))]) := by
  intro a left
  rw [den_ev FTA (fn := k_laws_szDeclS) rfl (xN rfl rfl _) (lB rfl)]
  simp only [SSA, RS, ES, k_laws_szDeclS, laws_szDeclS, reduceAdd, reduceSub, reduceMul, reduceLeDiff, reduceLT, reduceEqDiff, Nat.reduceBEq, ↓reduceIte, reduceCtorEq]
  repeat' first
    | with_reducible exact Ok_none
    | ((with_reducible refine Ok_ret ?_); first | rfl | simp only [SSA, RS, ES])
    | ((with_reducible refine Ok_tail (laws_szDeclS_l16_ok ..) ?_); first | rfl | (simp only [SSA, RS, ES, reduceAdd, reduceSub, reduceMul, reduceLeDiff, reduceLT, reduceEqDiff, Nat.reduceBEq, ↓reduceIte, reduceCtorEq] <;> rfl))
    | ((first | with_reducible refine Ok_if (fun h => ?_) (fun h => ?_)) <;> simp only [SSA, RS, ES, *, reduceAdd, reduceSub, reduceMul, reduceLeDiff, reduceLT, reduceEqDiff, Nat.reduceBEq, ↓reduceIte, reduceCtorEq])
theorem laws_szAttr_ok : ∀ (a : GAttr) (left : Int), Ok (laws_szAttr a left) e_laws_szAttr (dn FTA n_laws_szAttr [.agg ((GAttr.row a).map .t), .t (.v (.int .i64 left))]) := by
  intro a left
  rw [den_ev FTA (fn := k_laws_szAttr) rfl (xN rfl rfl _) (lB rfl)]
  simp only [SSA, RS, ES, k_laws_szAttr, laws_szAttr, reduceAdd, reduceSub, reduceMul, reduceLeDiff, reduceLT, reduceEqDiff, Nat.reduceBEq, ↓reduceIte, reduceCtorEq]
  repeat' first
    | with_reducible exact Ok_none
    | ((with_reducible refine Ok_ret ?_); first | rfl | simp only [SSA, RS, ES])
    | ((first | with_reducible refine Ok_if (fun h => ?_) (fun h => ?_)) <;> simp only [SSA, RS, ES, *, reduceAdd, reduceSub, reduceMul, reduceLeDiff, reduceLT, reduceEqDiff, Nat.reduceBEq, ↓reduceIte, reduceCtorEq])
theorem laws_szAttrS_l16_ok (a : List GAttr) : ∀ (left1 : Int) (i : Int), Ok (laws_szAttrS_l16 a left1 i) e_laws_szAttrS (ev FTA c_laws_szAttrS (.loop k_laws_szAttrS_l16) [.lv 0, .th k_laws_szAttrS_r12] (putS (List.replicate 27 .dead) [(0, .t (.sl false (a.map GAttr.row))), (1, .t (.v (.int .i64 left1))), (5, .t (.v (.int .i64 i)))]) (putR (List.replicate 27 []) [])) := by
  unfold Ok
  refine laws_szAttrS_l16.partial_correctness a _ ?_
  intro F ih left1 i
  show Ok _ _ _
  have ih : ∀ (left1 : Int) (i : Int), Ok (F left1 i) _ _ := ih
  rw [ev_loop]
  have g0 := laws_szAttr_ok; try simp only [SSA, RS, reduceAdd, reduceSub, reduceMul, reduceLeDiff, reduceLT, reduceEqDiff, Nat.reduceBEq, ↓reduceIte, reduceCtorEq] at g0
  simp only [SSA, RS, ES, k_laws_szAttrS_l16, k_laws_szAttrS_r12, reduceAdd, reduceSub, reduceMul, reduceLeDiff, reduceLT, reduceEqDiff, Nat.reduceBEq, ↓reduceIte, reduceCtorEq]
  repeat' first
    | with_reducible exact Ok_none
    | ((with_reducible refine Ok_ret ?_); first | rfl | simp only [SSA, RS, ES])
    | ((with_reducible refine Ok_tail (ih ..) ?_); first | rfl | (simp only [SSA, RS, ES, reduceAdd, reduceSub, reduceMul, reduceLeDiff, reduceLT, reduceEqDiff, Nat.reduceBEq, ↓reduceIte, reduceCtorEq] <;> rfl))
    | ((first | with_reducible refine Ok_if (fun h => ?_) (fun h => ?_) | with_reducible refine Ok_get fun a h => ?_ | with_reducible refine Ok_call (g0 ..) fun v => ?_ | refine Ok_call (g0 ..) fun v => ?_) <;> simp only [SSA, RS, ES, *, k_laws_szAttrS_r12, reduceAdd, reduceSub, reduceMul, reduceLeDiff, reduceLT, reduceEqDiff, Nat.reduceBEq, ↓reduceIte, reduceCtorEq])
theorem laws_szAttrS_ok : ∀ (a : List GAttr) (left : Int), Ok (laws_szAttrS a left) e_laws_szAttrS (dn FTA n_laws_szAttrS [.t (.sl false (a.map GAttr.row)), .t (.v (.int .i64 left))]) := by
  intro a left
  rw [den_ev FTA (fn := k_laws_szAttrS) rfl (xN rfl rfl _) (lB rfl)]
  simp only [SSA, RS, ES, k_laws_szAttrS, laws_szAttrS, reduceAdd, reduceSub, reduceMul, reduceLeDiff, reduceLT, reduceEqDiff, Nat.reduceBEq, ↓reduceIte, reduceCtorEq]
  repeat' first
    | with_reducible exact Ok_none
    | ((with_reducible refine Ok_ret ?_); first | rfl | simp only [SSA, RS, ES])
    | ((with_reducible refine Ok_tail (laws_szAttrS_l16_ok ..) ?_); first | rfl | (simp only [SSA, RS, ES, reduceAdd, reduceSub, reduceMul, reduceLeDiff, reduceLT, reduceEqDiff, Nat.reduceBEq, ↓reduceIte, reduceCtorEq] <;> rfl))
    | ((first | with_reducible refine Ok_if (fun h => ?_) (fun h => ?_)) <;> simp only [SSA, RS, ES, *, reduceAdd, reduceSub, reduceMul, reduceLeDiff, reduceLT, reduceEqDiff, Nat.reduceBEq, ↓reduceIte, reduceCtorEq])
theorem G_laws_szNode : (∀ (a : GNode) (left : Int), Ok (laws_szNode a left) e_laws_szNode (dn FTA n_laws_szNode [.agg (((GNode.row false) a).map .t), .t (.v (.int .i64 left))])) ∧
    (∀ (a : List GNode) (left : Int), Ok (laws_szNodeS a left) e_laws_szNodeS (dn FTA n_laws_szNodeS [.t (.sl false (a.map (GNode.row false))), .t (.v (.int .i64 left))])) ∧
    (∀ (a : List GNode) (left1 : Int) (i : Int), Ok (laws_szNodeS_l16 a left1 i) e_laws_szNodeS (ev FTA c_laws_szNodeS (.loop k_laws_szNodeS_l16) [.lv 0, .th k_laws_szNodeS_r12] (putS (List.replicate 27 .dead) [(0, .t (.sl false (a.map (GNode.row false)))), (1, .t (.v (.int .i64 left1))), (5, .t (.v (.int .i64 i)))]) (putR (List.replicate 27 []) []))) := by
  unfold Ok
  refine laws_szNode.mutual_partial_correctness _ _ _ ?_ ?_ ?_ 
  · intro F1 ih1 a left
    show Ok _ _ _
    have ih1 : ∀ (a : List GNode) (left : Int), Ok (F1 a left) _ _ := ih1
    rw [den_ev FTA (fn := k_laws_szNode) rfl (xN rfl rfl _) (lB rfl)]
    have g0 := laws_szDeclS_ok; have g1 := laws_szAttrS_ok; have g2 := ih1; try simp only [SSA, RS, reduceAdd, reduceSub, reduceMul, reduceLeDiff, reduceLT, reduceEqDiff, Nat.reduceBEq, ↓reduceIte, reduceCtorEq] at g0 g1 g2
    simp only [SSA, RS, ES, k_laws_szNode, reduceAdd, reduceSub, reduceMul, reduceLeDiff, reduceLT, reduceEqDiff, Nat.reduceBEq, ↓reduceIte, reduceCtorEq]
    repeat' first
      | with_reducible exact Ok_none
      | ((with_reducible refine Ok_ret ?_); first | rfl | simp only [SSA, RS, ES])
      | ((first | with_reducible refine Ok_if (fun h => ?_) (fun h => ?_) | with_reducible refine Ok_call (g0 ..) fun v => ?_ | with_reducible refine Ok_call (g1 ..) fun v => ?_ | with_reducible refine Ok_call (g2 ..) fun v => ?_ | refine Ok_call (g0 ..) fun v => ?_ | refine Ok_call (g1 ..) fun v => ?_ | refine Ok_call (g2 ..) fun v => ?_) <;> simp only [SSA, RS, ES, *, reduceAdd, reduceSub, reduceMul, reduceLeDiff, reduceLT, reduceEqDiff, Nat.reduceBEq, ↓reduceIte, reduceCtorEq])
  · intro F2 ih2 a left
    show Ok _ _ _
    have ih2 : ∀ (a : List GNode) (left1 : Int) (i : Int), Ok (F2 a left1 i) _ _ := ih2
    rw [den_ev FTA (fn := k_laws_szNodeS) rfl (xN rfl rfl _) (lB rfl)]
    simp only [SSA, RS, ES, k_laws_szNodeS, reduceAdd, reduceSub, reduceMul, reduceLeDiff, reduceLT, reduceEqDiff, Nat.reduceBEq, ↓reduceIte, reduceCtorEq]
    repeat' first
      | with_reducible exact Ok_none
      | ((with_reducible refine Ok_ret ?_); first | rfl | simp only [SSA, RS, ES])
      | ((with_reducible refine Ok_tail (ih2 ..) ?_); first | rfl | (simp only [SSA, RS, ES, reduceAdd, reduceSub, reduceMul, reduceLeDiff, reduceLT, reduceEqDiff, Nat.reduceBEq, ↓reduceIte, reduceCtorEq] <;> rfl))
      | ((first | with_reducible refine Ok_if (fun h => ?_) (fun h => ?_)) <;> simp only [SSA, RS, ES, *, reduceAdd, reduceSub, reduceMul, reduceLeDiff, reduceLT, reduceEqDiff, Nat.reduceBEq, ↓reduceIte, reduceCtorEq])
  · intro F0 F2 ih0 ih2 a left1 i
    show Ok _ _ _
    have ih0 : ∀ (a : GNode) (left : Int), Ok (F0 a left) _ _ := ih0
    have ih2 : ∀ (a : List GNode) (left1 : Int) (i : Int), Ok (F2 a left1 i) _ _ := ih2
    rw [ev_loop]
    have g0 := ih0; try simp only [SSA, RS, reduceAdd, reduceSub, reduceMul, reduceLeDiff, reduceLT, reduceEqDiff, Nat.reduceBEq, ↓reduceIte, reduceCtorEq] at g0
    simp only [SSA, RS, ES, k_laws_szNodeS_l16, k_laws_szNodeS_r12, reduceAdd, reduceSub, reduceMul, reduceLeDiff, reduceLT, reduceEqDiff, Nat.reduceBEq, ↓reduceIte, reduceCtorEq]
    repeat' first
      | with_reducible exact Ok_none
      | ((with_reducible refine Ok_ret ?_); first | rfl | simp only [SSA, RS, ES])
      | ((with_reducible refine Ok_tail (ih2 ..) ?_); first | rfl | (simp only [SSA, RS, ES, reduceAdd, reduceSub, reduceMul, reduceLeDiff, reduceLT, reduceEqDiff, Nat.reduceBEq, ↓reduceIte, reduceCtorEq] <;> rfl))
      | ((first | with_reducible refine Ok_if (fun h => ?_) (fun h => ?_) | with_reducible refine Ok_get fun a h => ?_ | with_reducible refine Ok_call (g0 ..) fun v => ?_ | refine Ok_call (g0 ..) fun v => ?_) <;> simp only [SSA, RS, ES, *, k_laws_szNodeS_r12, reduceAdd, reduceSub, reduceMul, reduceLeDiff, reduceLT, reduceEqDiff, Nat.reduceBEq, ↓reduceIte, reduceCtorEq])
theorem laws_szNode_ok (a : GNode) (left : Int) : Ok (laws_szNode a left) e_laws_szNode (dn FTA n_laws_szNode [.agg (((GNode.row false) a).map .t), .t (.v (.int .i64 left))]) := G_laws_szNode.1 a left
theorem laws_szIntS_ok : ∀ (a : List Int) (left : Int), Ok (laws_szIntS a left) e_laws_szIntS (dn FTA n_laws_szIntS [.t (.sl false (a.map rI)), .t (.v (.int .i64 left))]) := by
  intro a left
  rw [den_ev FTA (fn := k_laws_szIntS) rfl (xN rfl rfl _) (lB rfl)]
  simp only [SSA, RS, ES, k_laws_szIntS, laws_szIntS, reduceAdd, reduceSub, reduceMul, reduceLeDiff, reduceLT, reduceEqDiff, Nat.reduceBEq, ↓reduceIte, reduceCtorEq]
  repeat' first
    | with_reducible exact Ok_none
    | ((with_reducible refine Ok_ret ?_); first | rfl | simp only [SSA, RS, ES])
    | ((first | with_reducible refine Ok_if (fun h => ?_) (fun h => ?_)) <;> simp only [SSA, RS, ES, *, reduceAdd, reduceSub, reduceMul, reduceLeDiff, reduceLT, reduceEqDiff, Nat.reduceBEq, ↓reduceIte, reduceCtorEq])
theorem laws_szWalk_ok : ∀ (a : GWalk) (left : Int), Ok (laws_szWalk a left) e_laws_szWalk (dn FTA n_laws_szWalk [.agg (((GWalk.row false) a).map .t), .t (.v (.int .i64 left))]) := by
  intro a left
  rw [den_ev FTA (fn := k_laws_szWalk) rfl (xN rfl rfl _) (lB rfl)]
  have g0 := laws_szNode_ok; have g1 := laws_szIntS_ok; try simp only [SSA, RS, reduceAdd, reduceSub, reduceMul, reduceLeDiff, reduceLT, reduceEqDiff, Nat.reduceBEq, ↓reduceIte, reduceCtorEq] at g0 g1
  simp only [SSA, RS, ES, k_laws_szWalk, laws_szWalk, reduceAdd, reduceSub, reduceMul, reduceLeDiff, reduceLT, reduceEqDiff, Nat.reduceBEq, ↓reduceIte, reduceCtorEq]
  repeat' first
    | with_reducible exact Ok_none
    | ((with_reducible refine Ok_ret ?_); first | rfl | simp only [SSA, RS, ES])
    | ((first | with_reducible refine Ok_if (fun h => ?_) (fun h => ?_) | with_reducible refine Ok_call (g0 ..) fun v => ?_ | with_reducible refine Ok_call (g1 ..) fun v => ?_ | refine Ok_call (g0 ..) fun v => ?_ | refine Ok_call (g1 ..) fun v => ?_) <;> simp only [SSA, RS, ES, *, reduceAdd, reduceSub, reduceMul, reduceLeDiff, reduceLT, reduceEqDiff, Nat.reduceBEq, ↓reduceIte, reduceCtorEq])
theorem laws_toDecl_ok : ∀ (a : GDecl), Ok (laws_toDecl a) e_laws_toDecl (dn FTA n_laws_toDecl [.agg ((GDecl.row a).map .t)]) := by
  intro a
  rw [den_ev FTA (fn := k_laws_toDecl) rfl (xN rfl rfl _) (lB rfl)]
  simp only [SSA, RS, ES, k_laws_toDecl, laws_toDecl, reduceAdd, reduceSub, reduceMul, reduceLeDiff, reduceLT, reduceEqDiff, Nat.reduceBEq, ↓reduceIte, reduceCtorEq]
  repeat' first
    | with_reducible exact Ok_none
    | ((with_reducible refine Ok_ret ?_); first | rfl | simp only [SSA, RS, ES])
theorem laws_toDeclS_l8_ok (a : List GDecl) : ∀ (out : List (GDecl)) (i : Int), Ok (laws_toDeclS_l8 a out i) e_laws_toDeclS (ev FTA c_laws_toDeclS (.loop k_laws_toDeclS_l8) [.lv 0, .th k_laws_toDeclS_r4] (putS (List.replicate 23 .dead) [(0, .t (.sl false (a.map GDecl.row))), (3, .ref (7, 0) out.length), (4, .t (.v (.int .i64 i)))]) (putR (List.replicate 23 []) [(7, [.mem (out.map GDecl.row) 0 false])])) := by
  unfold Ok
  refine laws_toDeclS_l8.partial_correctness a _ ?_
  intro F ih out i
  show Ok _ _ _
  have ih : ∀ (out : List (GDecl)) (i : Int), Ok (F out i) _ _ := ih
  rw [ev_loop]
  have g0 := laws_toDecl_ok; try simp only [SSA, RS, reduceAdd, reduceSub, reduceMul, reduceLeDiff, reduceLT, reduceEqDiff, Nat.reduceBEq, ↓reduceIte, reduceCtorEq] at g0
  simp only [SSA, RS, ES, k_laws_toDeclS_l8, k_laws_toDeclS_r4, reduceAdd, reduceSub, reduceMul, reduceLeDiff, reduceLT, reduceEqDiff, Nat.reduceBEq, ↓reduceIte, reduceCtorEq]
  repeat' first
    | with_reducible exact Ok_none
    | ((with_reducible refine Ok_ret ?_); first | rfl | simp only [SSA, RS, ES])
    | ((with_reducible refine Ok_tail (ih ..) ?_); first | rfl | (simp only [SSA, RS, ES, reduceAdd, reduceSub, reduceMul, reduceLeDiff, reduceLT, reduceEqDiff, Nat.reduceBEq, ↓reduceIte, reduceCtorEq] <;> rfl))
    | ((first | with_reducible refine Ok_if (fun h => ?_) (fun h => ?_) | with_reducible refine Ok_get fun a h => ?_ | with_reducible refine Ok_call (g0 ..) fun v => ?_ | refine Ok_call (g0 ..) fun v => ?_) <;> simp only [SSA, RS, ES, *, k_laws_toDeclS_r4, reduceAdd, reduceSub, reduceMul, reduceLeDiff, reduceLT, reduceEqDiff, Nat.reduceBEq, ↓reduceIte, reduceCtorEq])
theorem laws_toDeclS_ok : ∀ (a : List GDecl), Ok (laws_toDeclS a) e_laws_toDeclS (dn FTA n_laws_toDeclS [.t (.sl false (a.map GDecl.row))]) := by
  intro a
  rw [den_ev FTA (fn := k_laws_toDeclS) rfl (xN rfl rfl _) (lB rfl)]
  simp only [SSA, RS, ES, k_laws_toDeclS, laws_toDeclS, reduceAdd, reduceSub, reduceMul, reduceLeDiff, reduceLT, reduceEqDiff, Nat.reduceBEq, ↓reduceIte, reduceCtorEq]
  repeat' first
    | with_reducible exact Ok_none
    | ((with_reducible refine Ok_ret ?_); first | rfl | simp only [SSA, RS, ES])
    | ((with_reducible refine Ok_tail (laws_toDeclS_l8_ok ..) ?_); first | rfl | (simp only [SSA, RS, ES, reduceAdd, reduceSub, reduceMul, reduceLeDiff, reduceLT, reduceEqDiff, Nat.reduceBEq, ↓reduceIte, reduceCtorEq] <;> rfl))
    | ((first | with_reducible refine Ok_prim (p := mkN _ _) fun a h => ?_) <;> simp only [SSA, RS, ES, *, reduceAdd, reduceSub, reduceMul, reduceLeDiff, reduceLT, reduceEqDiff, Nat.reduceBEq, ↓reduceIte, reduceCtorEq])
theorem laws_toAttr_ok : ∀ (a : GAttr), Ok (laws_toAttr a) e_laws_toAttr (dn FTA n_laws_toAttr [.agg ((GAttr.row a).map .t)]) := by
  intro a
  rw [den_ev FTA (fn := k_laws_toAttr) rfl (xN rfl rfl _) (lB rfl)]
  simp only [SSA, RS, ES, k_laws_toAttr, laws_toAttr, reduceAdd, reduceSub, reduceMul, reduceLeDiff, reduceLT, reduceEqDiff, Nat.reduceBEq, ↓reduceIte, reduceCtorEq]
  repeat' first
    | with_reducible exact Ok_none
    | ((with_reducible refine Ok_ret ?_); first | rfl | simp only [SSA, RS, ES])
theorem laws_toAttrS_l8_ok (a : List GAttr) : ∀ (out : List (GAttr)) (i : Int), Ok (laws_toAttrS_l8 a out i) e_laws_toAttrS (ev FTA c_laws_toAttrS (.loop k_laws_toAttrS_l8) [.lv 0, .th k_laws_toAttrS_r4] (putS (List.replicate 23 .dead) [(0, .t (.sl false (a.map GAttr.row))), (3, .ref (7, 0) out.length), (4, .t (.v (.int .i64 i)))]) (putR (List.replicate 23 []) [(7, [.mem (out.map GAttr.row) 0 false])])) := by
  unfold Ok
  refine laws_toAttrS_l8.partial_correctness a _ ?_
  intro F ih out i
  show Ok _ _ _
  have ih : ∀ (out : List (GAttr)) (i : Int), Ok (F out i) _ _ := ih
  rw [ev_loop]
  have g0 := laws_toAttr_ok; try simp only [SSA, RS, reduceAdd, reduceSub, reduceMul, reduceLeDiff, reduceLT, reduceEqDiff, Nat.reduceBEq, ↓reduceIte, reduceCtorEq] at g0
  simp only [SSA, RS, ES, k_laws_toAttrS_l8, k_laws_toAttrS_r4, reduceAdd, reduceSub, reduceMul, reduceLeDiff, reduceLT, reduceEqDiff, Nat.reduceBEq, ↓reduceIte, reduceCtorEq]
  repeat' first
    | with_reducible exact Ok_none
    | ((with_reducible refine Ok_ret ?_); first | rfl | simp only [SSA, RS, ES])
    | ((with_reducible refine Ok_tail (ih ..) ?_); first | rfl | (simp only [SSA, RS, ES, reduceAdd, reduceSub, reduceMul, reduceLeDiff, reduceLT, reduceEqDiff, Nat.reduceBEq, ↓reduceIte, reduceCtorEq] <;> rfl))
    | ((first | with_reducible refine Ok_if (fun h => ?_) (fun h => ?_) | with_reducible refine Ok_get fun a h => ?_ | with_reducible refine Ok_call (g0 ..) fun v => ?_ | refine Ok_call (g0 ..) fun v => ?_) <;> simp only [SSA, RS, ES, *, k_laws_toAttrS_r4, reduceAdd, reduceSub, reduceMul, reduceLeDiff, reduceLT, reduceEqDiff, Nat.reduceBEq, ↓reduceIte, reduceCtorEq])
theorem laws_toAttrS_ok : ∀ (a : List GAttr), Ok (laws_toAttrS a) e_laws_toAttrS (dn FTA n_laws_toAttrS [.t (.sl false (a.map GAttr.row))]) := by
  intro a
  rw [den_ev FTA (fn := k_laws_toAttrS) rfl (xN rfl rfl _) (lB rfl)]
  simp only [SSA, RS, ES, k_laws_toAttrS, laws_toAttrS, reduceAdd, reduceSub, reduceMul, reduceLeDiff, reduceLT, reduceEqDiff, Nat.reduceBEq, ↓reduceIte, reduceCtorEq]
  repeat' first
    | with_reducible exact Ok_none
    | ((with_reducible refine Ok_ret ?_); first | rfl | simp only [SSA, RS, ES])
    | ((with_reducible refine Ok_tail (laws_toAttrS_l8_ok ..) ?_); first | rfl | (simp only [SSA, RS, ES, reduceAdd, reduceSub, reduceMul, reduceLeDiff, reduceLT, reduceEqDiff, Nat.reduceBEq, ↓reduceIte, reduceCtorEq] <;> rfl))
    | ((first | with_reducible refine Ok_prim (p := mkN _ _) fun a h => ?_) <;> simp only [SSA, RS, ES, *, reduceAdd, reduceSub, reduceMul, reduceLeDiff, reduceLT, reduceEqDiff, Nat.reduceBEq, ↓reduceIte, reduceCtorEq])
theorem G_laws_toNode : (∀ (a : GNode), Ok (laws_toNode a) e_laws_toNode (dn FTA n_laws_toNode [.agg (((GNode.row false) a).map .t)])) ∧
    (∀ (a : List GNode), Ok (laws_toNodeS a) e_laws_toNodeS (dn FTA n_laws_toNodeS [.t (.sl false (a.map (GNode.row false)))])) ∧
    (∀ (a : List GNode) (out : List (GNode)) (i : Int), Ok (laws_toNodeS_l8 a out i) e_laws_toNodeS (ev FTA c_laws_toNodeS (.loop k_laws_toNodeS_l8) [.lv 0, .th k_laws_toNodeS_r4] (putS (List.replicate 23 .dead) [(0, .t (.sl false (a.map (GNode.row false)))), (3, .ref (7, 0) out.length), (4, .t (.v (.int .i64 i)))]) (putR (List.replicate 23 []) [(7, [.mem (out.map (GNode.row true)) 0 false])]))) := by
  unfold Ok
  refine laws_toNode.mutual_partial_correctness _ _ _ ?_ ?_ ?_ 
  · intro F1 ih1 a
    show Ok _ _ _
    have ih1 : ∀ (a : List GNode), Ok (F1 a) _ _ := ih1
    rw [den_ev FTA (fn := k_laws_toNode) rfl (xN rfl rfl _) (lB rfl)]
    have g0 := laws_toDeclS_ok; have g1 := laws_toAttrS_ok; have g2 := ih1; try simp only [SSA, RS, reduceAdd, reduceSub, reduceMul, reduceLeDiff, reduceLT, reduceEqDiff, Nat.reduceBEq, ↓reduceIte, reduceCtorEq] at g0 g1 g2
    simp only [SSA, RS, ES, k_laws_toNode, reduceAdd, reduceSub, reduceMul, reduceLeDiff, reduceLT, reduceEqDiff, Nat.reduceBEq, ↓reduceIte, reduceCtorEq]
    repeat' first
      | with_reducible exact Ok_none
      | ((with_reducible refine Ok_ret ?_); first | rfl | simp only [SSA, RS, ES])
      | ((first | with_reducible refine Ok_call (g0 ..) fun v => ?_ | with_reducible refine Ok_call (g1 ..) fun v => ?_ | with_reducible refine Ok_call (g2 ..) fun v => ?_ | refine Ok_call (g0 ..) fun v => ?_ | refine Ok_call (g1 ..) fun v => ?_ | refine Ok_call (g2 ..) fun v => ?_) <;> simp only [SSA, RS, ES, *, reduceAdd, reduceSub, reduceMul, reduceLeDiff, reduceLT, reduceEqDiff, Nat.reduceBEq, ↓reduceIte, reduceCtorEq])
  · intro F2 ih2 a
    show Ok _ _ _
    have ih2 : ∀ (a : List GNode) (out : List (GNode)) (i : Int), Ok (F2 a out i) _ _ := ih2
    rw [den_ev FTA (fn := k_laws_toNodeS) rfl (xN rfl rfl _) (lB rfl)]
    simp only [SSA, RS, ES, k_laws_toNodeS, reduceAdd, reduceSub, reduceMul, reduceLeDiff, reduceLT, reduceEqDiff, Nat.reduceBEq, ↓reduceIte, reduceCtorEq]
    repeat' first
      | with_reducible exact Ok_none
      | ((with_reducible refine Ok_ret ?_); first | rfl | simp only [SSA, RS, ES])
      | ((with_reducible refine Ok_tail (ih2 ..) ?_); first | rfl | (simp only [SSA, RS, ES, reduceAdd, reduceSub, reduceMul, reduceLeDiff, reduceLT, reduceEqDiff, Nat.reduceBEq, ↓reduceIte, reduceCtorEq] <;> rfl))
      | ((first | with_reducible refine Ok_prim (p := mkN _ _) fun a h => ?_) <;> simp only [SSA, RS, ES, *, reduceAdd, reduceSub, reduceMul, reduceLeDiff, reduceLT, reduceEqDiff, Nat.reduceBEq, ↓reduceIte, reduceCtorEq])
  · intro F0 F2 ih0 ih2 a out i
    show Ok _ _ _
    have ih0 : ∀ (a : GNode), Ok (F0 a) _ _ := ih0
    have ih2 : ∀ (a : List GNode) (out : List (GNode)) (i : Int), Ok (F2 a out i) _ _ := ih2
    rw [ev_loop]
    have g0 := ih0; try simp only [SSA, RS, reduceAdd, reduceSub, reduceMul, reduceLeDiff, reduceLT, reduceEqDiff, Nat.reduceBEq, ↓reduceIte, reduceCtorEq] at g0
    simp only [SSA, RS, ES, k_laws_toNodeS_l8, k_laws_toNodeS_r4, reduceAdd, reduceSub, reduceMul, reduceLeDiff, reduceLT, reduceEqDiff, Nat.reduceBEq, ↓reduceIte, reduceCtorEq]
    repeat' first
      | with_reducible exact Ok_none
      | ((with_reducible refine Ok_ret ?_); first | rfl | simp only [SSA, RS, ES])
      | ((with_reducible refine Ok_tail (ih2 ..) ?_); first | rfl | (simp only [SSA, RS, ES, reduceAdd, reduceSub, reduceMul, reduceLeDiff, reduceLT, reduceEqDiff, Nat.reduceBEq, ↓reduceIte, reduceCtorEq] <;> rfl))
      | ((first | with_reducible refine Ok_if (fun h => ?_) (fun h => ?_) | with_reducible refine Ok_get fun a h => ?_ | with_reducible refine Ok_call (g0 ..) fun v => ?_ | refine Ok_call (g0 ..) fun v => ?_) <;> simp only [SSA, RS, ES, *, k_laws_toNodeS_r4, reduceAdd, reduceSub, reduceMul, reduceLeDiff, reduceLT, reduceEqDiff, Nat.reduceBEq, ↓reduceIte, reduceCtorEq])
theorem laws_toNode_ok (a : GNode) : Ok (laws_toNode a) e_laws_toNode (dn FTA n_laws_toNode [.agg (((GNode.row false) a).map .t)]) := G_laws_toNode.1 a
theorem laws_toIntS_l8_ok (a : List Int) : ∀ (out : List (Int)) (i : Int), Ok (laws_toIntS_l8 a out i) e_laws_toIntS (ev FTA c_laws_toIntS (.loop k_laws_toIntS_l8) [.lv 0, .th k_laws_toIntS_r4] (putS (List.replicate 22 .dead) [(0, .t (.sl false (a.map rI))), (3, .ref (7, 0) out.length), (4, .t (.v (.int .i64 i)))]) (putR (List.replicate 22 []) [(7, [.mem (out.map rI) 0 false])])) := by
  unfold Ok
  refine laws_toIntS_l8.partial_correctness a _ ?_
  intro F ih out i
  show Ok _ _ _
  have ih : ∀ (out : List (Int)) (i : Int), Ok (F out i) _ _ := ih
  rw [ev_loop]
  simp only [SSA, RS, ES, k_laws_toIntS_l8, k_laws_toIntS_r4, reduceAdd, reduceSub, reduceMul, reduceLeDiff, reduceLT, reduceEqDiff, Nat.reduceBEq, ↓reduceIte, reduceCtorEq]
  repeat' first
    | with_reducible exact Ok_none
    | ((with_reducible refine Ok_ret ?_); first | rfl | simp only [SSA, RS, ES])
    | ((with_reducible refine Ok_tail (ih ..) ?_); first | rfl | (simp only [SSA, RS, ES, reduceAdd, reduceSub, reduceMul, reduceLeDiff, reduceLT, reduceEqDiff, Nat.reduceBEq, ↓reduceIte, reduceCtorEq] <;> rfl))
    | ((first | with_reducible refine Ok_if (fun h => ?_) (fun h => ?_) | with_reducible refine Ok_get fun a h => ?_) <;> simp only [SSA, RS, ES, *, k_laws_toIntS_r4, reduceAdd, reduceSub, reduceMul, reduceLeDiff, reduceLT, reduceEqDiff, Nat.reduceBEq, ↓reduceIte, reduceCtorEq])
theorem laws_toIntS_ok : ∀ (a : List Int), Ok (laws_toIntS a) e_laws_toIntS (dn FTA n_laws_toIntS [.t (.sl false (a.map rI))]) := by
  intro a
  rw [den_ev FTA (fn := k_laws_toIntS) rfl (xN rfl rfl _) (lB rfl)]
  simp only [SSA, RS, ES, k_laws_toIntS, laws_toIntS, reduceAdd, reduceSub, reduceMul, reduceLeDiff, reduceLT, reduceEqDiff, Nat.reduceBEq, ↓reduceIte, reduceCtorEq]
  repeat' first
    | with_reducible exact Ok_none
    | ((with_reducible refine Ok_ret ?_); first | rfl | simp only [SSA, RS, ES])
    | ((with_reducible refine Ok_tail (laws_toIntS_l8_ok ..) ?_); first | rfl | (simp only [SSA, RS, ES, reduceAdd, reduceSub, reduceMul, reduceLeDiff, reduceLT, reduceEqDiff, Nat.reduceBEq, ↓reduceIte, reduceCtorEq] <;> rfl))
    | ((first | with_reducible refine Ok_prim (p := mkN _ _) fun a h => ?_) <;> simp only [SSA, RS, ES, *, reduceAdd, reduceSub, reduceMul, reduceLeDiff, reduceLT, reduceEqDiff, Nat.reduceBEq, ↓reduceIte, reduceCtorEq])
theorem laws_toWalk_ok : ∀ (a : GWalk), Ok (laws_toWalk a) e_laws_toWalk (dn FTA n_laws_toWalk [.agg (((GWalk.row false) a).map .t)]) := by
  intro a
  rw [den_ev FTA (fn := k_laws_toWalk) rfl (xN rfl rfl _) (lB rfl)]
  have g0 := laws_toNode_ok; have g1 := laws_toIntS_ok; try simp only [SSA, RS, reduceAdd, reduceSub, reduceMul, reduceLeDiff, reduceLT, reduceEqDiff, Nat.reduceBEq, ↓reduceIte, reduceCtorEq] at g0 g1
  simp only [SSA, RS, ES, k_laws_toWalk, laws_toWalk, reduceAdd, reduceSub, reduceMul, reduceLeDiff, reduceLT, reduceEqDiff, Nat.reduceBEq, ↓reduceIte, reduceCtorEq]
  repeat' first
    | with_reducible exact Ok_none
    | ((with_reducible refine Ok_ret ?_); first | rfl | simp only [SSA, RS, ES])
    | ((first | with_reducible refine Ok_call (g0 ..) fun v => ?_ | with_reducible refine Ok_call (g1 ..) fun v => ?_ | refine Ok_call (g0 ..) fun v => ?_ | refine Ok_call (g1 ..) fun v => ?_) <;> simp only [SSA, RS, ES, *, reduceAdd, reduceSub, reduceMul, reduceLeDiff, reduceLT, reduceEqDiff, Nat.reduceBEq, ↓reduceIte, reduceCtorEq])
theorem spec_l1In_ok : ∀ (a0 : Int) (least : Int) (most : Int), Ok (spec_l1In a0 least most) e_spec_l1In (dn FTA n_spec_l1In [.t (.v (.int .i64 a0)), .t (.v (.int .i64 least)), .t (.v (.int .i64 most))]) := by
  intro a0 least most
  rw [den_ev FTA (fn := k_spec_l1In) rfl (xN rfl rfl _) (lB rfl)]
  simp only [SSA, RS, ES, k_spec_l1In, spec_l1In, reduceAdd, reduceSub, reduceMul, reduceLeDiff, reduceLT, reduceEqDiff, Nat.reduceBEq, ↓reduceIte, reduceCtorEq]
  repeat' first
    | with_reducible exact Ok_none
    | ((with_reducible refine Ok_ret ?_); first | rfl | simp only [SSA, RS, ES])
    | ((first | with_reducible refine Ok_if (fun h => ?_) (fun h => ?_)) <;> simp only [SSA, RS, ES, *, reduceAdd, reduceSub, reduceMul, reduceLeDiff, reduceLT, reduceEqDiff, Nat.reduceBEq, ↓reduceIte, reduceCtorEq])
theorem G_spec_l5All : (∀ (l : List GNode), Ok (spec_l5All l) e_spec_l5All (dn FTA n_spec_l5All [.t (.sl false (l.map (GNode.row false)))])) ∧
    (∀ (l : List GNode) (out : List (GNode)) (i : Int), Ok (spec_l5All_l8 l out i) e_spec_l5All (ev FTA c_spec_l5All (.loop k_spec_l5All_l8) [.lv 0, .th k_spec_l5All_r4] (putS (List.replicate 23 .dead) [(0, .t (.sl false (l.map (GNode.row false)))), (3, .ref (6, 0) out.length), (4, .t (.v (.int .i64 i)))]) (putR (List.replicate 23 []) [(6, [.mem (out.map (GNode.row true)) 0 false])]))) ∧
    (∀ (n : GNode), Ok (spec_l5Copy n) e_spec_l5Copy (dn FTA n_spec_l5Copy [.agg (((GNode.row false) n).map .t)])) := by
  unfold Ok
  refine spec_l5All.mutual_partial_correctness _ _ _ ?_ ?_ ?_ 
  · intro F1 ih1 l
    show Ok _ _ _
    have ih1 : ∀ (l : List GNode) (out : List (GNode)) (i : Int), Ok (F1 l out i) _ _ := ih1
    rw [den_ev FTA (fn := k_spec_l5All) rfl (xN rfl rfl _) (lB rfl)]
    simp only [SSA, RS, ES, k_spec_l5All, reduceAdd, reduceSub, reduceMul, reduceLeDiff, reduceLT, reduceEqDiff, Nat.reduceBEq, ↓reduceIte, reduceCtorEq]
    repeat' first
      | with_reducible exact Ok_none
      | ((with_reducible refine Ok_ret ?_); first | rfl | simp only [SSA, RS, ES])
      | ((with_reducible refine Ok_tail (ih1 ..) ?_); first | rfl | (simp only [SSA, RS, ES, reduceAdd, reduceSub, reduceMul, reduceLeDiff, reduceLT, reduceEqDiff, Nat.reduceBEq, ↓reduceIte, reduceCtorEq] <;> rfl))
  · intro F1 F2 ih1 ih2 l out i
    show Ok _ _ _
    have ih2 : ∀ (n : GNode), Ok (F2 n) _ _ := ih2
    have ih1 : ∀ (l : List GNode) (out : List (GNode)) (i : Int), Ok (F1 l out i) _ _ := ih1
    rw [ev_loop]
    have g0 := ih2; try simp only [SSA, RS, reduceAdd, reduceSub, reduceMul, reduceLeDiff, reduceLT, reduceEqDiff, Nat.reduceBEq, ↓reduceIte, reduceCtorEq] at g0
    simp only [SSA, RS, ES, k_spec_l5All_l8, k_spec_l5All_r4, reduceAdd, reduceSub, reduceMul, reduceLeDiff, reduceLT, reduceEqDiff, Nat.reduceBEq, ↓reduceIte, reduceCtorEq]
    repeat' first
      | with_reducible exact Ok_none
      | ((with_reducible refine Ok_ret ?_); first | rfl | simp only [SSA, RS, ES])
      | ((with_reducible refine Ok_tail (ih1 ..) ?_); first | rfl | (simp only [SSA, RS, ES, reduceAdd, reduceSub, reduceMul, reduceLeDiff, reduceLT, reduceEqDiff, Nat.reduceBEq, ↓reduceIte, reduceCtorEq] <;> rfl))
      | ((first | with_reducible refine Ok_if (fun h => ?_) (fun h => ?_) | with_reducible refine Ok_get fun a h => ?_ | with_reducible refine Ok_call (g0 ..) fun v => ?_ | with_reducible refine Ok_prim (p := room _ _) fun a h => ?_ | refine Ok_call (g0 ..) fun v => ?_) <;> simp only [SSA, RS, ES, *, k_spec_l5All_r4, reduceAdd, reduceSub, reduceMul, reduceLeDiff, reduceLT, reduceEqDiff, Nat.reduceBEq, ↓reduceIte, reduceCtorEq])
  · intro F0 ih0 n
    show Ok _ _ _
    have ih0 : ∀ (l : List GNode), Ok (F0 l) _ _ := ih0
    rw [den_ev FTA (fn := k_spec_l5Copy) rfl (xN rfl rfl _) (lB rfl)]
    have g0 := ih0; try simp only [SSA, RS, reduceAdd, reduceSub, reduceMul, reduceLeDiff, reduceLT, reduceEqDiff, Nat.reduceBEq, ↓reduceIte, reduceCtorEq] at g0
    simp only [SSA, RS, ES, k_spec_l5Copy, reduceAdd, reduceSub, reduceMul, reduceLeDiff, reduceLT, reduceEqDiff, Nat.reduceBEq, ↓reduceIte, reduceCtorEq]
    repeat' first
      | with_reducible exact Ok_none
      | ((with_reducible refine Ok_ret ?_); first | rfl | simp only [SSA, RS, ES])
      | ((first | with_reducible refine Ok_call (g0 ..) fun v => ?_ | with_reducible refine Ok_prim (p := room _ _) fun a h => ?_ | refine Ok_call (g0 ..) fun v => ?_) <;> simp only [SSA, RS, ES, *, reduceAdd, reduceSub, reduceMul, reduceLeDiff, reduceLT, reduceEqDiff, Nat.reduceBEq, ↓reduceIte, reduceCtorEq])
theorem spec_l5Copy_ok (n : GNode) : Ok (spec_l5Copy n) e_spec_l5Copy (dn FTA n_spec_l5Copy [.agg (((GNode.row false) n).map .t)]) := G_spec_l5All.2.2 n
theorem spec_NodeAt_l8_ok (path : List Int) : ∀ (i : Int) (x2 : GNode), Ok (spec_NodeAt_l8 path i x2) e_spec_NodeAt (ev FTA c_spec_NodeAt (.loop k_spec_NodeAt_l8) [.lv 0, .th k_spec_NodeAt_r4] (putS (List.replicate 36 .dead) [(1, .t (.sl false (path.map rI))), (4, .ptr (4, 0) [] 0 0 1 0), (6, .ptr (6, 0) [] 0 0 1 0), (7, .t (.v (.int .i64 i)))]) (putR (List.replicate 36 []) [(4, [.mem [[.v (.int .i64 0), .v (.string (⟨#[]⟩)), .v (.string (⟨#[]⟩)), .v (.string (⟨#[]⟩)), .sl true [], .sl true [], .sl true [], .v (.string (⟨#[]⟩))]] 0 false]), (6, [.mem [[.v (.int .i64 x2.Kind), .v (.string x2.Pre), .v (.string x2.Local), .v (.string x2.Uri), .sl false (x2.Decls.map GDecl.row), .sl false (x2.Attrs.map GAttr.row), .sl false (x2.Kids.map (GNode.row false)), .v (.string x2.Text)]] 0 false])])) := by
  unfold Ok
  refine spec_NodeAt_l8.partial_correctness path _ ?_
  intro F ih i x2
  show Ok _ _ _
  have ih : ∀ (i : Int) (x2 : GNode), Ok (F i x2) _ _ := ih
  rw [ev_loop]
  have g0 := spec_l1In_ok; have g1 := spec_l5Copy_ok; try simp only [SSA, RS, reduceAdd, reduceSub, reduceMul, reduceLeDiff, reduceLT, reduceEqDiff, Nat.reduceBEq, ↓reduceIte, reduceCtorEq] at g0 g1
  simp only [SSA, RS, ES, k_spec_NodeAt_l8, k_spec_NodeAt_r4, reduceAdd, reduceSub, reduceMul, reduceLeDiff, reduceLT, reduceEqDiff, Nat.reduceBEq, ↓reduceIte, reduceCtorEq]
  repeat' first
    | with_reducible exact Ok_none
    | ((with_reducible refine Ok_ret ?_); first | rfl | simp only [SSA, RS, ES])
    | ((with_reducible refine Ok_tail (ih ..) ?_); first | rfl | (simp only [SSA, RS, ES, reduceAdd, reduceSub, reduceMul, reduceLeDiff, reduceLT, reduceEqDiff, Nat.reduceBEq, ↓reduceIte, reduceCtorEq] <;> rfl))
    | ((first | with_reducible refine Ok_if (fun h => ?_) (fun h => ?_) | with_reducible refine Ok_get fun a h => ?_ | with_reducible refine Ok_call (g0 ..) fun v => ?_ | with_reducible refine Ok_call (g1 ..) fun v => ?_ | refine Ok_call (g0 ..) fun v => ?_ | refine Ok_call (g1 ..) fun v => ?_) <;> simp only [SSA, RS, ES, *, k_spec_NodeAt_r4, reduceAdd, reduceSub, reduceMul, reduceLeDiff, reduceLT, reduceEqDiff, Nat.reduceBEq, ↓reduceIte, reduceCtorEq])
theorem spec_NodeAt_ok : ∀ (n : GNode) (path : List Int), Ok (spec_NodeAt n path) e_spec_NodeAt (dn FTA n_spec_NodeAt [.agg (((GNode.row false) n).map .t), .t (.sl false (path.map rI))]) := by
  intro n path
  rw [den_ev FTA (fn := k_spec_NodeAt) rfl (xN rfl rfl _) (lB rfl)]
  simp only [SSA, RS, ES, k_spec_NodeAt, spec_NodeAt, reduceAdd, reduceSub, reduceMul, reduceLeDiff, reduceLT, reduceEqDiff, Nat.reduceBEq, ↓reduceIte, reduceCtorEq]
  repeat' first
    | with_reducible exact Ok_none
    | ((with_reducible refine Ok_ret ?_); first | rfl | simp only [SSA, RS, ES])
    | ((with_reducible refine Ok_tail (spec_NodeAt_l8_ok ..) ?_); first | rfl | (simp only [SSA, RS, ES, reduceAdd, reduceSub, reduceMul, reduceLeDiff, reduceLT, reduceEqDiff, Nat.reduceBEq, ↓reduceIte, reduceCtorEq] <;> rfl))
theorem G_spec_CountOf : (∀ (n : GNode), Ok (spec_CountOf n) e_spec_CountOf (dn FTA n_spec_CountOf [.agg (((GNode.row false) n).map .t)])) ∧
    (∀ (k : Int) (i : Int) (n : GNode), Ok (spec_CountOf_l8 k i n) e_spec_CountOf (ev FTA c_spec_CountOf (.loop k_spec_CountOf_l8) [.lv 0, .th k_spec_CountOf_r4] (putS (List.replicate 25 .dead) [(1, .ptr (1, 0) [] 0 0 1 0), (3, .t (.v (.int .i64 k))), (4, .t (.v (.int .i64 i)))]) (putR (List.replicate 25 []) [(1, [.mem [[.v (.int .i64 n.Kind), .v (.string n.Pre), .v (.string n.Local), .v (.string n.Uri), .sl false (n.Decls.map GDecl.row), .sl false (n.Attrs.map GAttr.row), .sl false (n.Kids.map (GNode.row false)), .v (.string n.Text)]] 0 false])]))) := by
  unfold Ok
  refine spec_CountOf.mutual_partial_correctness _ _ ?_ ?_ 
  · intro F1 ih1 n
    show Ok _ _ _
    have ih1 : ∀ (k : Int) (i : Int) (n : GNode), Ok (F1 k i n) _ _ := ih1
    rw [den_ev FTA (fn := k_spec_CountOf) rfl (xN rfl rfl _) (lB rfl)]
    simp only [SSA, RS, ES, k_spec_CountOf, reduceAdd, reduceSub, reduceMul, reduceLeDiff, reduceLT, reduceEqDiff, Nat.reduceBEq, ↓reduceIte, reduceCtorEq]
    repeat' first
      | with_reducible exact Ok_none
      | ((with_reducible refine Ok_ret ?_); first | rfl | simp only [SSA, RS, ES])
      | ((with_reducible refine Ok_tail (ih1 ..) ?_); first | rfl | (simp only [SSA, RS, ES, reduceAdd, reduceSub, reduceMul, reduceLeDiff, reduceLT, reduceEqDiff, Nat.reduceBEq, ↓reduceIte, reduceCtorEq] <;> rfl))
  · intro F0 F1 ih0 ih1 k i n
    show Ok _ _ _
    have ih0 : ∀ (n : GNode), Ok (F0 n) _ _ := ih0
    have ih1 : ∀ (k : Int) (i : Int) (n : GNode), Ok (F1 k i n) _ _ := ih1
    rw [ev_loop]
    have g0 := ih0; try simp only [SSA, RS, reduceAdd, reduceSub, reduceMul, reduceLeDiff, reduceLT, reduceEqDiff, Nat.reduceBEq, ↓reduceIte, reduceCtorEq] at g0
    simp only [SSA, RS, ES, k_spec_CountOf_l8, k_spec_CountOf_r4, reduceAdd, reduceSub, reduceMul, reduceLeDiff, reduceLT, reduceEqDiff, Nat.reduceBEq, ↓reduceIte, reduceCtorEq]
    repeat' first
      | with_reducible exact Ok_none
      | ((with_reducible refine Ok_ret ?_); first | rfl | simp only [SSA, RS, ES])
      | ((with_reducible refine Ok_tail (ih1 ..) ?_); first | rfl | (simp only [SSA, RS, ES, reduceAdd, reduceSub, reduceMul, reduceLeDiff, reduceLT, reduceEqDiff, Nat.reduceBEq, ↓reduceIte, reduceCtorEq] <;> rfl))
      | ((first | with_reducible refine Ok_if (fun h => ?_) (fun h => ?_) | with_reducible refine Ok_get fun a h => ?_ | with_reducible refine Ok_call (g0 ..) fun v => ?_ | refine Ok_call (g0 ..) fun v => ?_) <;> simp only [SSA, RS, ES, *, k_spec_CountOf_r4, reduceAdd, reduceSub, reduceMul, reduceLeDiff, reduceLT, reduceEqDiff, Nat.reduceBEq, ↓reduceIte, reduceCtorEq])
theorem spec_CountOf_ok (n : GNode) : Ok (spec_CountOf n) e_spec_CountOf (dn FTA n_spec_CountOf [.agg (((GNode.row false) n).map .t)]) := G_spec_CountOf.1 n
theorem spec_SignAt_l55_ok (s : ByteArray) (at1 : Int) (n : Int) (least : Int) : ∀ (v1 : Int) (i : Int), Ok (spec_SignAt_l55 s at1 n least v1 i) e_spec_SignAt (ev FTA c_spec_SignAt (.loop k_spec_SignAt_l55) [.lv 1, .th k_spec_SignAt_r51] (putS (List.replicate 102 .dead) [(0, .t (.v (.string s))), (1, .t (.v (.int .i64 at1))), (8, .t (.v (.int .i64 n))), (9, .t (.v (.int .i64 least))), (10, .t (.v (.int .i64 v1))), (11, .t (.v (.int .i64 i)))]) (putR (List.replicate 102 []) [])) := by
  unfold Ok
  refine spec_SignAt_l55.partial_correctness s at1 n least _ ?_
  intro F ih v1 i
  show Ok _ _ _
  have ih : ∀ (v1 : Int) (i : Int), Ok (F v1 i) _ _ := ih
  rw [ev_loop]
  have g0 := spec_l1In_ok; try simp only [SSA, RS, reduceAdd, reduceSub, reduceMul, reduceLeDiff, reduceLT, reduceEqDiff, Nat.reduceBEq, ↓reduceIte, reduceCtorEq] at g0
  simp only [SSA, RS, ES, k_spec_SignAt_l55, k_spec_SignAt_r51, reduceAdd, reduceSub, reduceMul, reduceLeDiff, reduceLT, reduceEqDiff, Nat.reduceBEq, ↓reduceIte, reduceCtorEq]
  repeat' first
    | with_reducible exact Ok_none
    | ((with_reducible refine Ok_ret ?_); first | rfl | simp only [SSA, RS, ES])
    | ((with_reducible refine Ok_tail (ih ..) ?_); first | rfl | (simp only [SSA, RS, ES, reduceAdd, reduceSub, reduceMul, reduceLeDiff, reduceLT, reduceEqDiff, Nat.reduceBEq, ↓reduceIte, reduceCtorEq] <;> rfl))
    | ((first | with_reducible refine Ok_if (fun h => ?_) (fun h => ?_) | with_reducible refine Ok_call (g0 ..) fun v => ?_ | with_reducible refine Ok_prim (p := atS _ _) fun a h => ?_ | refine Ok_call (g0 ..) fun v => ?_) <;> simp only [SSA, RS, ES, *, k_spec_SignAt_r51, reduceAdd, reduceSub, reduceMul, reduceLeDiff, reduceLT, reduceEqDiff, Nat.reduceBEq, ↓reduceIte, reduceCtorEq])
theorem spec_SignAt_j26_ok : ∀ (s : ByteArray) (at1 : Int) (n : Int) (least : Int) (v : Int), Ok (spec_SignAt_j26 s at1 n least v) e_spec_SignAt (ev FTA c_spec_SignAt k_spec_SignAt_r26 [] (putS (List.replicate 102 .dead) [(0, .t (.v (.string s))), (1, .t (.v (.int .i64 at1))), (8, .t (.v (.int .i64 n))), (9, .t (.v (.int .i64 least))), (10, .t (.v (.int .i64 v)))]) (putR (List.replicate 102 []) [])) := by
  intro s at1 n least v
  simp only [SSA, RS, ES, k_spec_SignAt_r26, spec_SignAt_j26, reduceAdd, reduceSub, reduceMul, reduceLeDiff, reduceLT, reduceEqDiff, Nat.reduceBEq, ↓reduceIte, reduceCtorEq]
  repeat' first
    | with_reducible exact Ok_none
    | ((with_reducible refine Ok_ret ?_); first | rfl | simp only [SSA, RS, ES])
    | ((with_reducible refine Ok_tail (spec_SignAt_l55_ok ..) ?_); first | rfl | (simp only [SSA, RS, ES, reduceAdd, reduceSub, reduceMul, reduceLeDiff, reduceLT, reduceEqDiff, Nat.reduceBEq, ↓reduceIte, reduceCtorEq] <;> rfl))
    | ((first | with_reducible refine Ok_if (fun h => ?_) (fun h => ?_)) <;> simp only [SSA, RS, ES, *, reduceAdd, reduceSub, reduceMul, reduceLeDiff, reduceLT, reduceEqDiff, Nat.reduceBEq, ↓reduceIte, reduceCtorEq])
theorem spec_SignAt_j32_ok : ∀ (s : ByteArray) (at1 : Int) (x : Int) (x2 : Bool), Ok (spec_SignAt_j32 s at1 x x2) e_spec_SignAt (ev FTA c_spec_SignAt k_spec_SignAt_r32 [.lv 0, .hk [.clean []], .th k_spec_SignAt_r26] (putS (List.replicate 102 .dead) [(0, .t (.v (.string s))), (1, .t (.v (.int .i64 at1))), (7, .t (.v (.int .i64 (wr .i64 x)))), (39, .t (.v (.bool x2)))]) (putR (List.replicate 102 []) [])) := by
  intro s at1 x x2
  simp only [SSA, RS, ES, k_spec_SignAt_r32, spec_SignAt_j32, reduceAdd, reduceSub, reduceMul, reduceLeDiff, reduceLT, reduceEqDiff, Nat.reduceBEq, ↓reduceIte, reduceCtorEq]
  repeat' first
    | with_reducible exact Ok_none
    | ((with_reducible refine Ok_ret ?_); first | rfl | simp only [SSA, RS, ES])
    | ((with_reducible refine Ok_tail (spec_SignAt_j26_ok ..) ?_); first | rfl | (simp only [SSA, RS, ES, reduceAdd, reduceSub, reduceMul, reduceLeDiff, reduceLT, reduceEqDiff, Nat.reduceBEq, ↓reduceIte, reduceCtorEq] <;> rfl))
    | ((first | with_reducible refine Ok_if (fun h => ?_) (fun h => ?_)) <;> simp only [SSA, RS, ES, *, reduceAdd, reduceSub, reduceMul, reduceLeDiff, reduceLT, reduceEqDiff, Nat.reduceBEq, ↓reduceIte, reduceCtorEq])
theorem spec_SignAt_j28_ok : ∀ (s : ByteArray) (at1 : Int) (x : Int) (x1 : Bool), Ok (spec_SignAt_j28 s at1 x x1) e_spec_SignAt (ev FTA c_spec_SignAt k_spec_SignAt_r28 [.lv 0, .hk [.clean []], .th k_spec_SignAt_r26] (putS (List.replicate 102 .dead) [(0, .t (.v (.string s))), (1, .t (.v (.int .i64 at1))), (7, .t (.v (.int .i64 (wr .i64 x)))), (30, .t (.v (.bool x1)))]) (putR (List.replicate 102 []) [])) := by
  intro s at1 x x1
  simp only [SSA, RS, ES, k_spec_SignAt_r28, spec_SignAt_j28, reduceAdd, reduceSub, reduceMul, reduceLeDiff, reduceLT, reduceEqDiff, Nat.reduceBEq, ↓reduceIte, reduceCtorEq]
  repeat' first
    | with_reducible exact Ok_none
    | ((with_reducible refine Ok_ret ?_); first | rfl | simp only [SSA, RS, ES])
    | ((with_reducible refine Ok_tail (spec_SignAt_j26_ok ..) ?_); first | rfl | (simp only [SSA, RS, ES, reduceAdd, reduceSub, reduceMul, reduceLeDiff, reduceLT, reduceEqDiff, Nat.reduceBEq, ↓reduceIte, reduceCtorEq] <;> rfl))
    | ((with_reducible refine Ok_tail (spec_SignAt_j32_ok ..) ?_); first | rfl | (simp only [SSA, RS, ES, reduceAdd, reduceSub, reduceMul, reduceLeDiff, reduceLT, reduceEqDiff, Nat.reduceBEq, ↓reduceIte, reduceCtorEq] <;> rfl))
    | ((first | with_reducible refine Ok_if (fun h => ?_) (fun h => ?_)) <;> simp only [SSA, RS, ES, *, reduceAdd, reduceSub, reduceMul, reduceLeDiff, reduceLT, reduceEqDiff, Nat.reduceBEq, ↓reduceIte, reduceCtorEq])
theorem spec_SignAt_ok : ∀ (s : ByteArray) (at1 : Int), Ok (spec_SignAt s at1) e_spec_SignAt (dn FTA n_spec_SignAt [.t (.v (.string s)), .t (.v (.int .i64 at1))]) := by
  intro s at1
  rw [den_ev FTA (fn := k_spec_SignAt) rfl (xN rfl rfl _) (lB rfl)]
  simp only [SSA, RS, ES, k_spec_SignAt, spec_SignAt, reduceAdd, reduceSub, reduceMul, reduceLeDiff, reduceLT, reduceEqDiff, Nat.reduceBEq, ↓reduceIte, reduceCtorEq]
  repeat' first
    | with_reducible exact Ok_none
    | ((with_reducible refine Ok_ret ?_); first | rfl | simp only [SSA, RS, ES])
    | ((with_reducible refine Ok_tail (spec_SignAt_j28_ok ..) ?_); first | rfl | (simp only [SSA, RS, ES, reduceAdd, reduceSub, reduceMul, reduceLeDiff, reduceLT, reduceEqDiff, Nat.reduceBEq, ↓reduceIte, reduceCtorEq] <;> rfl))
    | ((first | with_reducible refine Ok_if (fun h => ?_) (fun h => ?_) | with_reducible refine Ok_prim (p := atS _ _) fun a h => ?_) <;> simp only [SSA, RS, ES, *, reduceAdd, reduceSub, reduceMul, reduceLeDiff, reduceLT, reduceEqDiff, Nat.reduceBEq, ↓reduceIte, reduceCtorEq])
theorem spec_l1Ranges_l6_ok (n : Int) (l : List Int) : ∀ (i : Int), Ok (spec_l1Ranges_l6 n l i) e_spec_l1Ranges (ev FTA c_spec_l1Ranges (.loop k_spec_l1Ranges_l6) [.lv 0, .th k_spec_l1Ranges_r2] (putS (List.replicate 24 .dead) [(0, .t (.v (.int .i64 n))), (1, .t (.sl false (l.map rI))), (5, .t (.v (.int .i64 i)))]) (putR (List.replicate 24 []) [])) := by
  unfold Ok
  refine spec_l1Ranges_l6.partial_correctness n l _ ?_
  intro F ih i
  show Ok _ _ _
  have ih : ∀ (i : Int), Ok (F i) _ _ := ih
  rw [ev_loop]
  have g0 := spec_l1In_ok; try simp only [SSA, RS, reduceAdd, reduceSub, reduceMul, reduceLeDiff, reduceLT, reduceEqDiff, Nat.reduceBEq, ↓reduceIte, reduceCtorEq] at g0
  simp only [SSA, RS, ES, k_spec_l1Ranges_l6, k_spec_l1Ranges_r2, reduceAdd, reduceSub, reduceMul, reduceLeDiff, reduceLT, reduceEqDiff, Nat.reduceBEq, ↓reduceIte, reduceCtorEq]
  repeat' first
    | with_reducible exact Ok_none
    | ((with_reducible refine Ok_ret ?_); first | rfl | simp only [SSA, RS, ES])
    | ((with_reducible refine Ok_tail (ih ..) ?_); first | rfl | (simp only [SSA, RS, ES, reduceAdd, reduceSub, reduceMul, reduceLeDiff, reduceLT, reduceEqDiff, Nat.reduceBEq, ↓reduceIte, reduceCtorEq] <;> rfl))
    | ((first | with_reducible refine Ok_if (fun h => ?_) (fun h => ?_) | with_reducible refine Ok_get fun a h => ?_ | with_reducible refine Ok_call (g0 ..) fun v => ?_ | refine Ok_call (g0 ..) fun v => ?_) <;> simp only [SSA, RS, ES, *, k_spec_l1Ranges_r2, reduceAdd, reduceSub, reduceMul, reduceLeDiff, reduceLT, reduceEqDiff, Nat.reduceBEq, ↓reduceIte, reduceCtorEq])
theorem spec_l1Ranges_ok : ∀ (n : Int) (l : List Int), Ok (spec_l1Ranges n l) e_spec_l1Ranges (dn FTA n_spec_l1Ranges [.t (.v (.int .i64 n)), .t (.sl false (l.map rI))]) := by
  intro n l
  rw [den_ev FTA (fn := k_spec_l1Ranges) rfl (xN rfl rfl _) (lB rfl)]
  simp only [SSA, RS, ES, k_spec_l1Ranges, spec_l1Ranges, reduceAdd, reduceSub, reduceMul, reduceLeDiff, reduceLT, reduceEqDiff, Nat.reduceBEq, ↓reduceIte, reduceCtorEq]
  repeat' first
    | with_reducible exact Ok_none
    | ((with_reducible refine Ok_ret ?_); first | rfl | simp only [SSA, RS, ES])
    | ((with_reducible refine Ok_tail (spec_l1Ranges_l6_ok ..) ?_); first | rfl | (simp only [SSA, RS, ES, reduceAdd, reduceSub, reduceMul, reduceLeDiff, reduceLT, reduceEqDiff, Nat.reduceBEq, ↓reduceIte, reduceCtorEq] <;> rfl))
theorem spec_IsStart_ok : ∀ (n : Int), Ok (spec_IsStart n) e_spec_IsStart (dn FTA n_spec_IsStart [.t (.v (.int .i64 n))]) := by
  intro n
  rw [den_ev FTA (fn := k_spec_IsStart) rfl (xN rfl rfl _) (lB rfl)]
  have g0 := spec_l1Ranges_ok; try simp only [SSA, RS, reduceAdd, reduceSub, reduceMul, reduceLeDiff, reduceLT, reduceEqDiff, Nat.reduceBEq, ↓reduceIte, reduceCtorEq] at g0
  simp only [SSA, RS, ES, k_spec_IsStart, spec_IsStart, reduceAdd, reduceSub, reduceMul, reduceLeDiff, reduceLT, reduceEqDiff, Nat.reduceBEq, ↓reduceIte, reduceCtorEq]
  repeat' first
    | with_reducible exact Ok_none
    | ((with_reducible refine Ok_ret ?_); first | rfl | simp only [SSA, RS, ES])
    | ((first | with_reducible refine Ok_call (g0 ..) fun v => ?_ | refine Ok_call (g0 ..) fun v => ?_ | refine Ok_callq (g0 _ _) (by simp only [SSA, RS, List.map_cons, List.map_nil]) fun v => ?_) <;> simp only [SSA, RS, ES, *, reduceAdd, reduceSub, reduceMul, reduceLeDiff, reduceLT, reduceEqDiff, Nat.reduceBEq, ↓reduceIte, reduceCtorEq])
theorem spec_IsPart_ok : ∀ (n : Int), Ok (spec_IsPart n) e_spec_IsPart (dn FTA n_spec_IsPart [.t (.v (.int .i64 n))]) := by
  intro n
  rw [den_ev FTA (fn := k_spec_IsPart) rfl (xN rfl rfl _) (lB rfl)]
  have g0 := spec_IsStart_ok; have g1 := spec_l1Ranges_ok; try simp only [SSA, RS, reduceAdd, reduceSub, reduceMul, reduceLeDiff, reduceLT, reduceEqDiff, Nat.reduceBEq, ↓reduceIte, reduceCtorEq] at g0 g1
  simp only [SSA, RS, ES, k_spec_IsPart, spec_IsPart, reduceAdd, reduceSub, reduceMul, reduceLeDiff, reduceLT, reduceEqDiff, Nat.reduceBEq, ↓reduceIte, reduceCtorEq]
  repeat' first
    | with_reducible exact Ok_none
    | ((with_reducible refine Ok_ret ?_); first | rfl | simp only [SSA, RS, ES])
    | ((first | with_reducible refine Ok_if (fun h => ?_) (fun h => ?_) | with_reducible refine Ok_call (g0 ..) fun v => ?_ | with_reducible refine Ok_call (g1 ..) fun v => ?_ | refine Ok_call (g0 ..) fun v => ?_ | refine Ok_call (g1 ..) fun v => ?_ | refine Ok_callq (g1 _ _) (by simp only [SSA, RS, List.map_cons, List.map_nil]) fun v => ?_) <;> simp only [SSA, RS, ES, *, reduceAdd, reduceSub, reduceMul, reduceLeDiff, reduceLT, reduceEqDiff, Nat.reduceBEq, ↓reduceIte, reduceCtorEq])
theorem spec_PlainOk_l14_ok (s : ByteArray) : ∀ (at1 : Int), Ok (spec_PlainOk_l14 s at1) e_spec_PlainOk (ev FTA c_spec_PlainOk (.loop k_spec_PlainOk_l14) [.lv 0, .th k_spec_PlainOk_r10] (putS (List.replicate 39 .dead) [(0, .t (.v (.string s))), (3, .t (.v (.int .i64 at1)))]) (putR (List.replicate 39 []) [])) := by
  unfold Ok
  refine spec_PlainOk_l14.partial_correctness s _ ?_
  intro F ih at1
  show Ok _ _ _
  have ih : ∀ (at1 : Int), Ok (F at1) _ _ := ih
  rw [ev_loop]
  have g0 := spec_SignAt_ok; have g1 := spec_IsStart_ok; have g2 := spec_IsPart_ok; try simp only [SSA, RS, reduceAdd, reduceSub, reduceMul, reduceLeDiff, reduceLT, reduceEqDiff, Nat.reduceBEq, ↓reduceIte, reduceCtorEq] at g0 g1 g2
  simp only [SSA, RS, ES, k_spec_PlainOk_l14, k_spec_PlainOk_r10, reduceAdd, reduceSub, reduceMul, reduceLeDiff, reduceLT, reduceEqDiff, Nat.reduceBEq, ↓reduceIte, reduceCtorEq]
  repeat' first
    | with_reducible exact Ok_none
    | ((with_reducible refine Ok_ret ?_); first | rfl | simp only [SSA, RS, ES])
    | ((with_reducible refine Ok_tail (ih ..) ?_); first | rfl | (simp only [SSA, RS, ES, reduceAdd, reduceSub, reduceMul, reduceLeDiff, reduceLT, reduceEqDiff, Nat.reduceBEq, ↓reduceIte, reduceCtorEq] <;> rfl))
    | ((first | with_reducible refine Ok_if (fun h => ?_) (fun h => ?_) | with_reducible refine Ok_call (g0 ..) fun v => ?_ | with_reducible refine Ok_call (g1 ..) fun v => ?_ | with_reducible refine Ok_call (g2 ..) fun v => ?_ | refine Ok_call (g0 ..) fun v => ?_ | refine Ok_call (g1 ..) fun v => ?_ | refine Ok_call (g2 ..) fun v => ?_) <;> simp only [SSA, RS, ES, *, k_spec_PlainOk_r10, reduceAdd, reduceSub, reduceMul, reduceLeDiff, reduceLT, reduceEqDiff, Nat.reduceBEq, ↓reduceIte, reduceCtorEq])
theorem spec_PlainOk_ok : ∀ (s : ByteArray), Ok (spec_PlainOk s) e_spec_PlainOk (dn FTA n_spec_PlainOk [.t (.v (.string s))]) := by
  intro s
  rw [den_ev FTA (fn := k_spec_PlainOk) rfl (xN rfl rfl _) (lB rfl)]
  have g0 := spec_l1In_ok; try simp only [SSA, RS, reduceAdd, reduceSub, reduceMul, reduceLeDiff, reduceLT, reduceEqDiff, Nat.reduceBEq, ↓reduceIte, reduceCtorEq] at g0
  simp only [SSA, RS, ES, k_spec_PlainOk, spec_PlainOk, reduceAdd, reduceSub, reduceMul, reduceLeDiff, reduceLT, reduceEqDiff, Nat.reduceBEq, ↓reduceIte, reduceCtorEq]
  repeat' first
    | with_reducible exact Ok_none
    | ((with_reducible refine Ok_ret ?_); first | rfl | simp only [SSA, RS, ES])
    | ((with_reducible refine Ok_tail (spec_PlainOk_l14_ok ..) ?_); first | rfl | (simp only [SSA, RS, ES, reduceAdd, reduceSub, reduceMul, reduceLeDiff, reduceLT, reduceEqDiff, Nat.reduceBEq, ↓reduceIte, reduceCtorEq] <;> rfl))
    | ((first | with_reducible refine Ok_if (fun h => ?_) (fun h => ?_) | with_reducible refine Ok_call (g0 ..) fun v => ?_ | refine Ok_call (g0 ..) fun v => ?_) <;> simp only [SSA, RS, ES, *, reduceAdd, reduceSub, reduceMul, reduceLeDiff, reduceLT, reduceEqDiff, Nat.reduceBEq, ↓reduceIte, reduceCtorEq])
theorem spec_l4Xml_ok : ∀ (s : ByteArray), Ok (spec_l4Xml s) e_spec_l4Xml (dn FTA n_spec_l4Xml [.t (.v (.string s))]) := by
  intro s
  rw [den_ev FTA (fn := k_spec_l4Xml) rfl (xN rfl rfl _) (lB rfl)]
  simp only [SSA, RS, ES, k_spec_l4Xml, spec_l4Xml, reduceAdd, reduceSub, reduceMul, reduceLeDiff, reduceLT, reduceEqDiff, Nat.reduceBEq, ↓reduceIte, reduceCtorEq]
  repeat' first
    | with_reducible exact Ok_none
    | ((with_reducible refine Ok_ret ?_); first | rfl | simp only [SSA, RS, ES])
    | ((first | with_reducible refine Ok_if (fun h => ?_) (fun h => ?_) | with_reducible refine Ok_prim (p := subS _ _ _) fun a h => ?_) <;> simp only [SSA, RS, ES, *, reduceAdd, reduceSub, reduceMul, reduceLeDiff, reduceLT, reduceEqDiff, Nat.reduceBEq, ↓reduceIte, reduceCtorEq])
theorem spec_l5Pre_ok : ∀ (s : ByteArray), Ok (spec_l5Pre s) e_spec_l5Pre (dn FTA n_spec_l5Pre [.t (.v (.string s))]) := by
  intro s
  rw [den_ev FTA (fn := k_spec_l5Pre) rfl (xN rfl rfl _) (lB rfl)]
  have g0 := spec_PlainOk_ok; have g1 := spec_l4Xml_ok; try simp only [SSA, RS, reduceAdd, reduceSub, reduceMul, reduceLeDiff, reduceLT, reduceEqDiff, Nat.reduceBEq, ↓reduceIte, reduceCtorEq] at g0 g1
  simp only [SSA, RS, ES, k_spec_l5Pre, spec_l5Pre, reduceAdd, reduceSub, reduceMul, reduceLeDiff, reduceLT, reduceEqDiff, Nat.reduceBEq, ↓reduceIte, reduceCtorEq]
  repeat' first
    | with_reducible exact Ok_none
    | ((with_reducible refine Ok_ret ?_); first | rfl | simp only [SSA, RS, ES])
    | ((first | with_reducible refine Ok_if (fun h => ?_) (fun h => ?_) | with_reducible refine Ok_call (g0 ..) fun v => ?_ | with_reducible refine Ok_call (g1 ..) fun v => ?_ | refine Ok_call (g0 ..) fun v => ?_ | refine Ok_call (g1 ..) fun v => ?_) <;> simp only [SSA, RS, ES, *, reduceAdd, reduceSub, reduceMul, reduceLeDiff, reduceLT, reduceEqDiff, Nat.reduceBEq, ↓reduceIte, reduceCtorEq])
theorem spec_IsSign_ok : ∀ (n : Int), Ok (spec_IsSign n) e_spec_IsSign (dn FTA n_spec_IsSign [.t (.v (.int .i64 n))]) := by
  intro n
  rw [den_ev FTA (fn := k_spec_IsSign) rfl (xN rfl rfl _) (lB rfl)]
  have g0 := spec_l1In_ok; try simp only [SSA, RS, reduceAdd, reduceSub, reduceMul, reduceLeDiff, reduceLT, reduceEqDiff, Nat.reduceBEq, ↓reduceIte, reduceCtorEq] at g0
  simp only [SSA, RS, ES, k_spec_IsSign, spec_IsSign, reduceAdd, reduceSub, reduceMul, reduceLeDiff, reduceLT, reduceEqDiff, Nat.reduceBEq, ↓reduceIte, reduceCtorEq]
  repeat' first
    | with_reducible exact Ok_none
    | ((with_reducible refine Ok_ret ?_); first | rfl | simp only [SSA, RS, ES])
    | ((first | with_reducible refine Ok_if (fun h => ?_) (fun h => ?_) | with_reducible refine Ok_call (g0 ..) fun v => ?_ | refine Ok_call (g0 ..) fun v => ?_) <;> simp only [SSA, RS, ES, *, reduceAdd, reduceSub, reduceMul, reduceLeDiff, reduceLT, reduceEqDiff, Nat.reduceBEq, ↓reduceIte, reduceCtorEq])
theorem spec_l1Signs_l6_ok (s : ByteArray) : ∀ (at1 : Int), Ok (spec_l1Signs_l6 s at1) e_spec_l1Signs (ev FTA c_spec_l1Signs (.loop k_spec_l1Signs_l6) [.lv 0, .th k_spec_l1Signs_r2] (putS (List.replicate 29 .dead) [(0, .t (.v (.string s))), (3, .t (.v (.int .i64 at1)))]) (putR (List.replicate 29 []) [])) := by
  unfold Ok
  refine spec_l1Signs_l6.partial_correctness s _ ?_
  intro F ih at1
  show Ok _ _ _
  have ih : ∀ (at1 : Int), Ok (F at1) _ _ := ih
  rw [ev_loop]
  have g0 := spec_SignAt_ok; have g1 := spec_IsSign_ok; try simp only [SSA, RS, reduceAdd, reduceSub, reduceMul, reduceLeDiff, reduceLT, reduceEqDiff, Nat.reduceBEq, ↓reduceIte, reduceCtorEq] at g0 g1
  simp only [SSA, RS, ES, k_spec_l1Signs_l6, k_spec_l1Signs_r2, reduceAdd, reduceSub, reduceMul, reduceLeDiff, reduceLT, reduceEqDiff, Nat.reduceBEq, ↓reduceIte, reduceCtorEq]
  repeat' first
    | with_reducible exact Ok_none
    | ((with_reducible refine Ok_ret ?_); first | rfl | simp only [SSA, RS, ES])
    | ((with_reducible refine Ok_tail (ih ..) ?_); first | rfl | (simp only [SSA, RS, ES, reduceAdd, reduceSub, reduceMul, reduceLeDiff, reduceLT, reduceEqDiff, Nat.reduceBEq, ↓reduceIte, reduceCtorEq] <;> rfl))
    | ((first | with_reducible refine Ok_if (fun h => ?_) (fun h => ?_) | with_reducible refine Ok_call (g0 ..) fun v => ?_ | with_reducible refine Ok_call (g1 ..) fun v => ?_ | refine Ok_call (g0 ..) fun v => ?_ | refine Ok_call (g1 ..) fun v => ?_) <;> simp only [SSA, RS, ES, *, k_spec_l1Signs_r2, reduceAdd, reduceSub, reduceMul, reduceLeDiff, reduceLT, reduceEqDiff, Nat.reduceBEq, ↓reduceIte, reduceCtorEq])
theorem spec_l1Signs_ok : ∀ (s : ByteArray), Ok (spec_l1Signs s) e_spec_l1Signs (dn FTA n_spec_l1Signs [.t (.v (.string s))]) := by
  intro s
  rw [den_ev FTA (fn := k_spec_l1Signs) rfl (xN rfl rfl _) (lB rfl)]
  simp only [SSA, RS, ES, k_spec_l1Signs, spec_l1Signs, reduceAdd, reduceSub, reduceMul, reduceLeDiff, reduceLT, reduceEqDiff, Nat.reduceBEq, ↓reduceIte, reduceCtorEq]
  repeat' first
    | with_reducible exact Ok_none
    | ((with_reducible refine Ok_ret ?_); first | rfl | simp only [SSA, RS, ES])
    | ((with_reducible refine Ok_tail (spec_l1Signs_l6_ok ..) ?_); first | rfl | (simp only [SSA, RS, ES, reduceAdd, reduceSub, reduceMul, reduceLeDiff, reduceLT, reduceEqDiff, Nat.reduceBEq, ↓reduceIte, reduceCtorEq] <;> rfl))
theorem spec_TextOk_ok : ∀ (s : ByteArray), Ok (spec_TextOk s) e_spec_TextOk (dn FTA n_spec_TextOk [.t (.v (.string s))]) := by
  intro s
  rw [den_ev FTA (fn := k_spec_TextOk) rfl (xN rfl rfl _) (lB rfl)]
  have g0 := spec_l1Signs_ok; try simp only [SSA, RS, reduceAdd, reduceSub, reduceMul, reduceLeDiff, reduceLT, reduceEqDiff, Nat.reduceBEq, ↓reduceIte, reduceCtorEq] at g0
  simp only [SSA, RS, ES, k_spec_TextOk, spec_TextOk, reduceAdd, reduceSub, reduceMul, reduceLeDiff, reduceLT, reduceEqDiff, Nat.reduceBEq, ↓reduceIte, reduceCtorEq]
  repeat' first
    | with_reducible exact Ok_none
    | ((with_reducible refine Ok_ret ?_); first | rfl | simp only [SSA, RS, ES])
    | ((first | with_reducible refine Ok_if (fun h => ?_) (fun h => ?_) | with_reducible refine Ok_call (g0 ..) fun v => ?_ | refine Ok_call (g0 ..) fun v => ?_) <;> simp only [SSA, RS, ES, *, reduceAdd, reduceSub, reduceMul, reduceLeDiff, reduceLT, reduceEqDiff, Nat.reduceBEq, ↓reduceIte, reduceCtorEq])
theorem spec_DeclOk_j2_ok : ∀ (d : GDecl), Ok (spec_DeclOk_j2 d) e_spec_DeclOk (ev FTA c_spec_DeclOk k_spec_DeclOk_r2 [] (putS (List.replicate 31 .dead) [(1, .ptr (1, 0) [] 0 0 1 0)]) (putR (List.replicate 31 []) [(1, [.mem [[.v (.string d.Pre), .v (.string d.Uri)]] 0 false])])) := by
  intro d
  have g0 := spec_TextOk_ok; try simp only [SSA, RS, reduceAdd, reduceSub, reduceMul, reduceLeDiff, reduceLT, reduceEqDiff, Nat.reduceBEq, ↓reduceIte, reduceCtorEq] at g0
  simp only [SSA, RS, ES, k_spec_DeclOk_r2, spec_DeclOk_j2, reduceAdd, reduceSub, reduceMul, reduceLeDiff, reduceLT, reduceEqDiff, Nat.reduceBEq, ↓reduceIte, reduceCtorEq]
  repeat' first
    | with_reducible exact Ok_none
    | ((with_reducible refine Ok_ret ?_); first | rfl | simp only [SSA, RS, ES])
    | ((first | with_reducible refine Ok_if (fun h => ?_) (fun h => ?_) | with_reducible refine Ok_call (g0 ..) fun v => ?_ | refine Ok_call (g0 ..) fun v => ?_) <;> simp only [SSA, RS, ES, *, reduceAdd, reduceSub, reduceMul, reduceLeDiff, reduceLT, reduceEqDiff, Nat.reduceBEq, ↓reduceIte, reduceCtorEq])
theorem spec_DeclOk_ok : ∀ (d : GDecl), Ok (spec_DeclOk d) e_spec_DeclOk (dn FTA n_spec_DeclOk [.agg ((GDecl.row d).map .t)]) := by
  intro d
  rw [den_ev FTA (fn := k_spec_DeclOk) rfl (xN rfl rfl _) (lB rfl)]
  have g0 := spec_PlainOk_ok; have g1 := spec_l4Xml_ok; try simp only [SSA, RS, reduceAdd, reduceSub, reduceMul, reduceLeDiff, reduceLT, reduceEqDiff, Nat.reduceBEq, ↓reduceIte, reduceCtorEq] at g0 g1
  simp only [SSA, RS, ES, k_spec_DeclOk, spec_DeclOk, reduceAdd, reduceSub, reduceMul, reduceLeDiff, reduceLT, reduceEqDiff, Nat.reduceBEq, ↓reduceIte, reduceCtorEq]
  repeat' first
    | with_reducible exact Ok_none
    | ((with_reducible refine Ok_ret ?_); first | rfl | simp only [SSA, RS, ES])
    | ((with_reducible refine Ok_tail (spec_DeclOk_j2_ok ..) ?_); first | rfl | (simp only [SSA, RS, ES, reduceAdd, reduceSub, reduceMul, reduceLeDiff, reduceLT, reduceEqDiff, Nat.reduceBEq, ↓reduceIte, reduceCtorEq] <;> rfl))
    | ((first | with_reducible refine Ok_if (fun h => ?_) (fun h => ?_) | with_reducible refine Ok_call (g0 ..) fun v => ?_ | with_reducible refine Ok_call (g1 ..) fun v => ?_ | refine Ok_call (g0 ..) fun v => ?_ | refine Ok_call (g1 ..) fun v => ?_) <;> simp only [SSA, RS, ES, *, reduceAdd, reduceSub, reduceMul, reduceLeDiff, reduceLT, reduceEqDiff, Nat.reduceBEq, ↓reduceIte, reduceCtorEq])
theorem spec_DeclsOk_l6_ok (l : List GDecl) : ∀ (i : Int), Ok (spec_DeclsOk_l6 l i) e_spec_DeclsOk (ev FTA c_spec_DeclsOk (.loop k_spec_DeclsOk_l6) [.lv 0, .th k_spec_DeclsOk_r2] (putS (List.replicate 37 .dead) [(0, .t (.sl false (l.map GDecl.row))), (3, .t (.v (.int .i64 i)))]) (putR (List.replicate 37 []) [])) := by
  unfold Ok
  refine spec_DeclsOk_l6.partial_correctness l _ ?_
  intro F ih i
  show Ok _ _ _
  have ih : ∀ (i : Int), Ok (F i) _ _ := ih
  rw [ev_loop]
  have g0 := spec_DeclOk_ok; try simp only [SSA, RS, reduceAdd, reduceSub, reduceMul, reduceLeDiff, reduceLT, reduceEqDiff, Nat.reduceBEq, ↓reduceIte, reduceCtorEq] at g0
  simp only [SSA, RS, ES, k_spec_DeclsOk_l6, k_spec_DeclsOk_r2, reduceAdd, reduceSub, reduceMul, reduceLeDiff, reduceLT, reduceEqDiff, Nat.reduceBEq, ↓reduceIte, reduceCtorEq]
  repeat' first
    | with_reducible exact Ok_none
    | ((with_reducible refine Ok_ret ?_); first | rfl | simp only [SSA, RS, ES])
    | ((with_reducible refine Ok_tail (ih ..) ?_); first | rfl | (simp only [SSA, RS, ES, reduceAdd, reduceSub, reduceMul, reduceLeDiff, reduceLT, reduceEqDiff, Nat.reduceBEq, ↓reduceIte, reduceCtorEq] <;> rfl))
    | ((first | with_reducible refine Ok_if (fun h => ?_) (fun h => ?_) | with_reducible refine Ok_get fun a h => ?_ | with_reducible refine Ok_call (g0 ..) fun v => ?_ | refine Ok_call (g0 ..) fun v => ?_) <;> simp only [SSA, RS, ES, *, k_spec_DeclsOk_r2, reduceAdd, reduceSub, reduceMul, reduceLeDiff, reduceLT, reduceEqDiff, Nat.reduceBEq, ↓reduceIte, reduceCtorEq])
theorem spec_DeclsOk_ok : ∀ (l : List GDecl), Ok (spec_DeclsOk l) e_spec_DeclsOk (dn FTA n_spec_DeclsOk [.t (.sl false (l.map GDecl.row))]) := by
  intro l
  rw [den_ev FTA (fn := k_spec_DeclsOk) rfl (xN rfl rfl _) (lB rfl)]
  simp only [SSA, RS, ES, k_spec_DeclsOk, spec_DeclsOk, reduceAdd, reduceSub, reduceMul, reduceLeDiff, reduceLT, reduceEqDiff, Nat.reduceBEq, ↓reduceIte, reduceCtorEq]
  repeat' first
    | with_reducible exact Ok_none
    | ((with_reducible refine Ok_ret ?_); first | rfl | simp only [SSA, RS, ES])
    | ((with_reducible refine Ok_tail (spec_DeclsOk_l6_ok ..) ?_); first | rfl | (simp only [SSA, RS, ES, reduceAdd, reduceSub, reduceMul, reduceLeDiff, reduceLT, reduceEqDiff, Nat.reduceBEq, ↓reduceIte, reduceCtorEq] <;> rfl))
theorem spec_l5Bare_ok : ∀ (n : GNode), Ok (spec_l5Bare n) e_spec_l5Bare (dn FTA n_spec_l5Bare [.agg (((GNode.row false) n).map .t)]) := by
  intro n
  rw [den_ev FTA (fn := k_spec_l5Bare) rfl (xN rfl rfl _) (lB rfl)]
  simp only [SSA, RS, ES, k_spec_l5Bare, spec_l5Bare, reduceAdd, reduceSub, reduceMul, reduceLeDiff, reduceLT, reduceEqDiff, Nat.reduceBEq, ↓reduceIte, reduceCtorEq]
  repeat' first
    | with_reducible exact Ok_none
    | ((with_reducible refine Ok_ret ?_); first | rfl | simp only [SSA, RS, ES])
    | ((first | with_reducible refine Ok_if (fun h => ?_) (fun h => ?_)) <;> simp only [SSA, RS, ES, *, reduceAdd, reduceSub, reduceMul, reduceLeDiff, reduceLT, reduceEqDiff, Nat.reduceBEq, ↓reduceIte, reduceCtorEq])
theorem spec_l5Has_l6_ok (s : ByteArray) (t : ByteArray) : ∀ (i : Int), Ok (spec_l5Has_l6 s t i) e_spec_l5Has (ev FTA c_spec_l5Has (.loop k_spec_l5Has_l6) [.lv 0, .th k_spec_l5Has_r2] (putS (List.replicate 24 .dead) [(0, .t (.v (.string s))), (1, .t (.v (.string t))), (5, .t (.v (.int .i64 i)))]) (putR (List.replicate 24 []) [])) := by
  unfold Ok
  refine spec_l5Has_l6.partial_correctness s t _ ?_
  intro F ih i
  show Ok _ _ _
  have ih : ∀ (i : Int), Ok (F i) _ _ := ih
  rw [ev_loop]
  simp only [SSA, RS, ES, k_spec_l5Has_l6, k_spec_l5Has_r2, reduceAdd, reduceSub, reduceMul, reduceLeDiff, reduceLT, reduceEqDiff, Nat.reduceBEq, ↓reduceIte, reduceCtorEq]
  repeat' first
    | with_reducible exact Ok_none
    | ((with_reducible refine Ok_ret ?_); first | rfl | simp only [SSA, RS, ES])
    | ((with_reducible refine Ok_tail (ih ..) ?_); first | rfl | (simp only [SSA, RS, ES, reduceAdd, reduceSub, reduceMul, reduceLeDiff, reduceLT, reduceEqDiff, Nat.reduceBEq, ↓reduceIte, reduceCtorEq] <;> rfl))
    | ((first | with_reducible refine Ok_if (fun h => ?_) (fun h => ?_) | with_reducible refine Ok_prim (p := subS _ _ _) fun a h => ?_) <;> simp only [SSA, RS, ES, *, k_spec_l5Has_r2, reduceAdd, reduceSub, reduceMul, reduceLeDiff, reduceLT, reduceEqDiff, Nat.reduceBEq, ↓reduceIte, reduceCtorEq])
theorem spec_l5Has_ok : ∀ (s : ByteArray) (t : ByteArray), Ok (spec_l5Has s t) e_spec_l5Has (dn FTA n_spec_l5Has [.t (.v (.string s)), .t (.v (.string t))]) := by
  intro s t
  rw [den_ev FTA (fn := k_spec_l5Has) rfl (xN rfl rfl _) (lB rfl)]
  simp only [SSA, RS, ES, k_spec_l5Has, spec_l5Has, reduceAdd, reduceSub, reduceMul, reduceLeDiff, reduceLT, reduceEqDiff, Nat.reduceBEq, ↓reduceIte, reduceCtorEq]
  repeat' first
    | with_reducible exact Ok_none
    | ((with_reducible refine Ok_ret ?_); first | rfl | simp only [SSA, RS, ES])
    | ((with_reducible refine Ok_tail (spec_l5Has_l6_ok ..) ?_); first | rfl | (simp only [SSA, RS, ES, reduceAdd, reduceSub, reduceMul, reduceLeDiff, reduceLT, reduceEqDiff, Nat.reduceBEq, ↓reduceIte, reduceCtorEq] <;> rfl))
theorem spec_l5Xml_ok : ∀ (s : ByteArray), Ok (spec_l5Xml s) e_spec_l5Xml (dn FTA n_spec_l5Xml [.t (.v (.string s))]) := by
  intro s
  rw [den_ev FTA (fn := k_spec_l5Xml) rfl (xN rfl rfl _) (lB rfl)]
  simp only [SSA, RS, ES, k_spec_l5Xml, spec_l5Xml, reduceAdd, reduceSub, reduceMul, reduceLeDiff, reduceLT, reduceEqDiff, Nat.reduceBEq, ↓reduceIte, reduceCtorEq]
  repeat' first
    | with_reducible exact Ok_none
    | ((with_reducible refine Ok_ret ?_); first | rfl | simp only [SSA, RS, ES])
    | ((first | with_reducible refine Ok_if (fun h => ?_) (fun h => ?_) | with_reducible refine Ok_prim (p := atS _ _) fun a h => ?_) <;> simp only [SSA, RS, ES, *, reduceAdd, reduceSub, reduceMul, reduceLeDiff, reduceLT, reduceEqDiff, Nat.reduceBEq, ↓reduceIte, reduceCtorEq])
theorem spec_IsBlank_ok : ∀ (n : Int), Ok (spec_IsBlank n) e_spec_IsBlank (dn FTA n_spec_IsBlank [.t (.v (.int .i64 n))]) := by
  intro n
  rw [den_ev FTA (fn := k_spec_IsBlank) rfl (xN rfl rfl _) (lB rfl)]
  simp only [SSA, RS, ES, k_spec_IsBlank, spec_IsBlank, reduceAdd, reduceSub, reduceMul, reduceLeDiff, reduceLT, reduceEqDiff, Nat.reduceBEq, ↓reduceIte, reduceCtorEq]
  repeat' first
    | with_reducible exact Ok_none
    | ((with_reducible refine Ok_ret ?_); first | rfl | simp only [SSA, RS, ES])
    | ((first | with_reducible refine Ok_if (fun h => ?_) (fun h => ?_)) <;> simp only [SSA, RS, ES, *, reduceAdd, reduceSub, reduceMul, reduceLeDiff, reduceLT, reduceEqDiff, Nat.reduceBEq, ↓reduceIte, reduceCtorEq])
theorem spec_l5AttrOk_j2_ok : ∀ (a : GAttr), Ok (spec_l5AttrOk_j2 a) e_spec_l5AttrOk (ev FTA c_spec_l5AttrOk k_spec_l5AttrOk_r2 [] (putS (List.replicate 46 .dead) [(1, .ptr (1, 0) [] 0 0 1 0)]) (putR (List.replicate 46 []) [(1, [.mem [[.v (.string a.Pre), .v (.string a.Local), .v (.string a.Uri), .v (.string a.Val)]] 0 false])])) := by
  intro a
  have g0 := spec_TextOk_ok; try simp only [SSA, RS, reduceAdd, reduceSub, reduceMul, reduceLeDiff, reduceLT, reduceEqDiff, Nat.reduceBEq, ↓reduceIte, reduceCtorEq] at g0
  simp only [SSA, RS, ES, k_spec_l5AttrOk_r2, spec_l5AttrOk_j2, reduceAdd, reduceSub, reduceMul, reduceLeDiff, reduceLT, reduceEqDiff, Nat.reduceBEq, ↓reduceIte, reduceCtorEq]
  repeat' first
    | with_reducible exact Ok_none
    | ((with_reducible refine Ok_ret ?_); first | rfl | simp only [SSA, RS, ES])
    | ((first | with_reducible refine Ok_if (fun h => ?_) (fun h => ?_) | with_reducible refine Ok_call (g0 ..) fun v => ?_ | refine Ok_call (g0 ..) fun v => ?_) <;> simp only [SSA, RS, ES, *, reduceAdd, reduceSub, reduceMul, reduceLeDiff, reduceLT, reduceEqDiff, Nat.reduceBEq, ↓reduceIte, reduceCtorEq])
theorem spec_l5AttrOk_ok : ∀ (a : GAttr), Ok (spec_l5AttrOk a) e_spec_l5AttrOk (dn FTA n_spec_l5AttrOk [.agg ((GAttr.row a).map .t)]) := by
  intro a
  rw [den_ev FTA (fn := k_spec_l5AttrOk) rfl (xN rfl rfl _) (lB rfl)]
  have g0 := spec_l5Pre_ok; have g1 := spec_PlainOk_ok; try simp only [SSA, RS, reduceAdd, reduceSub, reduceMul, reduceLeDiff, reduceLT, reduceEqDiff, Nat.reduceBEq, ↓reduceIte, reduceCtorEq] at g0 g1
  simp only [SSA, RS, ES, k_spec_l5AttrOk, spec_l5AttrOk, reduceAdd, reduceSub, reduceMul, reduceLeDiff, reduceLT, reduceEqDiff, Nat.reduceBEq, ↓reduceIte, reduceCtorEq]
  repeat' first
    | with_reducible exact Ok_none
    | ((with_reducible refine Ok_ret ?_); first | rfl | simp only [SSA, RS, ES])
    | ((with_reducible refine Ok_tail (spec_l5AttrOk_j2_ok ..) ?_); first | rfl | (simp only [SSA, RS, ES, reduceAdd, reduceSub, reduceMul, reduceLeDiff, reduceLT, reduceEqDiff, Nat.reduceBEq, ↓reduceIte, reduceCtorEq] <;> rfl))
    | ((first | with_reducible refine Ok_if (fun h => ?_) (fun h => ?_) | with_reducible refine Ok_call (g0 ..) fun v => ?_ | with_reducible refine Ok_call (g1 ..) fun v => ?_ | refine Ok_call (g0 ..) fun v => ?_ | refine Ok_call (g1 ..) fun v => ?_) <;> simp only [SSA, RS, ES, *, reduceAdd, reduceSub, reduceMul, reduceLeDiff, reduceLT, reduceEqDiff, Nat.reduceBEq, ↓reduceIte, reduceCtorEq])
theorem spec_l5Less_ok : ∀ (a : GAttr) (b : GAttr), Ok (spec_l5Less a b) e_spec_l5Less (dn FTA n_spec_l5Less [.agg ((GAttr.row a).map .t), .agg ((GAttr.row b).map .t)]) := by
  intro a b
  rw [den_ev FTA (fn := k_spec_l5Less) rfl (xN rfl rfl _) (lB rfl)]
  simp only [SSA, RS, ES, k_spec_l5Less, spec_l5Less, reduceAdd, reduceSub, reduceMul, reduceLeDiff, reduceLT, reduceEqDiff, Nat.reduceBEq, ↓reduceIte, reduceCtorEq]
  repeat' first
    | with_reducible exact Ok_none
    | ((with_reducible refine Ok_ret ?_); first | rfl | simp only [SSA, RS, ES])
    | ((first | with_reducible refine Ok_if (fun h => ?_) (fun h => ?_)) <;> simp only [SSA, RS, ES, *, reduceAdd, reduceSub, reduceMul, reduceLeDiff, reduceLT, reduceEqDiff, Nat.reduceBEq, ↓reduceIte, reduceCtorEq])
theorem spec_l5One_l21_ok (n : GNode) : ∀ (i : Int), Ok (spec_l5One_l21 i n) e_spec_l5One (ev FTA c_spec_l5One (.loop k_spec_l5One_l21) [.lv 1, .th k_spec_l5One_r17, .lv 0, .th k_spec_l5One_r2] (putS (List.replicate 195 .dead) [(1, .ptr (1, 0) [] 0 0 1 0), (3, .t (.v (.int .i64 i)))]) (putR (List.replicate 195 []) [(1, [.mem [[.v (.int .i64 n.Kind), .v (.string n.Pre), .v (.string n.Local), .v (.string n.Uri), .sl false (n.Decls.map GDecl.row), .sl false (n.Attrs.map GAttr.row), .sl false (n.Kids.map (GNode.row false)), .v (.string n.Text)]] 0 false])])) := by
  unfold Ok
  refine spec_l5One_l21.partial_correctness n _ ?_
  intro F ih i
  show Ok _ _ _
  have ih : ∀ (i : Int), Ok (F i) _ _ := ih
  rw [ev_loop]
  have g0 := spec_l5AttrOk_ok; have g1 := spec_l5Less_ok; try simp only [SSA, RS, reduceAdd, reduceSub, reduceMul, reduceLeDiff, reduceLT, reduceEqDiff, Nat.reduceBEq, ↓reduceIte, reduceCtorEq] at g0 g1
  simp only [SSA, RS, ES, k_spec_l5One_l21, k_spec_l5One_r17, reduceAdd, reduceSub, reduceMul, reduceLeDiff, reduceLT, reduceEqDiff, Nat.reduceBEq, ↓reduceIte, reduceCtorEq]
  repeat' first
    | with_reducible exact Ok_none
    | ((with_reducible refine Ok_ret ?_); first | rfl | simp only [SSA, RS, ES])
    | ((with_reducible refine Ok_tail (ih ..) ?_); first | rfl | (simp only [SSA, RS, ES, reduceAdd, reduceSub, reduceMul, reduceLeDiff, reduceLT, reduceEqDiff, Nat.reduceBEq, ↓reduceIte, reduceCtorEq] <;> rfl))
    | ((first | with_reducible refine Ok_if (fun h => ?_) (fun h => ?_) | with_reducible refine Ok_get fun a h => ?_ | with_reducible refine Ok_call (g0 ..) fun v => ?_ | with_reducible refine Ok_call (g1 ..) fun v => ?_ | refine Ok_call (g0 ..) fun v => ?_ | refine Ok_call (g1 ..) fun v => ?_) <;> simp only [SSA, RS, ES, *, k_spec_l5One_r17, reduceAdd, reduceSub, reduceMul, reduceLeDiff, reduceLT, reduceEqDiff, Nat.reduceBEq, ↓reduceIte, reduceCtorEq])
theorem spec_l5One_j9_ok : ∀ (n : GNode), Ok (spec_l5One_j9 n) e_spec_l5One (ev FTA c_spec_l5One k_spec_l5One_r9 [.lv 0, .th k_spec_l5One_r2] (putS (List.replicate 195 .dead) [(1, .ptr (1, 0) [] 0 0 1 0)]) (putR (List.replicate 195 []) [(1, [.mem [[.v (.int .i64 n.Kind), .v (.string n.Pre), .v (.string n.Local), .v (.string n.Uri), .sl false (n.Decls.map GDecl.row), .sl false (n.Attrs.map GAttr.row), .sl false (n.Kids.map (GNode.row false)), .v (.string n.Text)]] 0 false])])) := by
  intro n
  simp only [SSA, RS, ES, k_spec_l5One_r9, spec_l5One_j9, reduceAdd, reduceSub, reduceMul, reduceLeDiff, reduceLT, reduceEqDiff, Nat.reduceBEq, ↓reduceIte, reduceCtorEq]
  repeat' first
    | with_reducible exact Ok_none
    | ((with_reducible refine Ok_ret ?_); first | rfl | simp only [SSA, RS, ES])
    | ((with_reducible refine Ok_tail (spec_l5One_l21_ok ..) ?_); first | rfl | (simp only [SSA, RS, ES, reduceAdd, reduceSub, reduceMul, reduceLeDiff, reduceLT, reduceEqDiff, Nat.reduceBEq, ↓reduceIte, reduceCtorEq] <;> rfl))
theorem spec_l5One_ok : ∀ (n : GNode), Ok (spec_l5One n) e_spec_l5One (dn FTA n_spec_l5One [.agg (((GNode.row false) n).map .t)]) := by
  intro n
  rw [den_ev FTA (fn := k_spec_l5One) rfl (xN rfl rfl _) (lB rfl)]
  have g0 := spec_l5Pre_ok; have g1 := spec_PlainOk_ok; have g2 := spec_TextOk_ok; have g3 := spec_DeclsOk_ok; have g4 := spec_l5Bare_ok; have g5 := spec_l5Has_ok; have g6 := spec_l5Xml_ok; have g7 := spec_IsBlank_ok; try simp only [SSA, RS, reduceAdd, reduceSub, reduceMul, reduceLeDiff, reduceLT, reduceEqDiff, Nat.reduceBEq, ↓reduceIte, reduceCtorEq] at g0 g1 g2 g3 g4 g5 g6 g7
  simp only [SSA, RS, ES, k_spec_l5One, k_spec_l5One_r2, spec_l5One, reduceAdd, reduceSub, reduceMul, reduceLeDiff, reduceLT, reduceEqDiff, Nat.reduceBEq, ↓reduceIte, reduceCtorEq]
  repeat' first
    | with_reducible exact Ok_none
    | ((with_reducible refine Ok_ret ?_); first | rfl | simp only [SSA, RS, ES])
    | ((with_reducible refine Ok_tail (spec_l5One_j9_ok ..) ?_); first | rfl | (simp only [SSA, RS, ES, reduceAdd, reduceSub, reduceMul, reduceLeDiff, reduceLT, reduceEqDiff, Nat.reduceBEq, ↓reduceIte, reduceCtorEq] <;> rfl))
    | ((first | with_reducible refine Ok_if (fun h => ?_) (fun h => ?_) | with_reducible refine Ok_call (g0 ..) fun v => ?_ | with_reducible refine Ok_call (g1 ..) fun v => ?_ | with_reducible refine Ok_call (g2 ..) fun v => ?_ | with_reducible refine Ok_call (g3 ..) fun v => ?_ | with_reducible refine Ok_call (g4 ..) fun v => ?_ | with_reducible refine Ok_call (g5 ..) fun v => ?_ | with_reducible refine Ok_call (g6 ..) fun v => ?_ | with_reducible refine Ok_call (g7 ..) fun v => ?_ | with_reducible refine Ok_prim (p := atS _ _) fun a h => ?_ | refine Ok_call (g0 ..) fun v => ?_ | refine Ok_call (g1 ..) fun v => ?_ | refine Ok_call (g2 ..) fun v => ?_ | refine Ok_call (g3 ..) fun v => ?_ | refine Ok_call (g4 ..) fun v => ?_ | refine Ok_call (g5 ..) fun v => ?_ | refine Ok_call (g6 ..) fun v => ?_ | refine Ok_call (g7 ..) fun v => ?_) <;> simp only [SSA, RS, ES, *, k_spec_l5One_r2, reduceAdd, reduceSub, reduceMul, reduceLeDiff, reduceLT, reduceEqDiff, Nat.reduceBEq, ↓reduceIte, reduceCtorEq])
theorem G_spec_l5Kids : (∀ (l : List GNode) (deep : Int), Ok (spec_l5Kids l deep) e_spec_l5Kids (dn FTA n_spec_l5Kids [.t (.sl false (l.map (GNode.row false))), .t (.v (.int .i64 deep))])) ∧
    (∀ (l : List GNode) (deep : Int) (i : Int), Ok (spec_l5Kids_l6 l deep i) e_spec_l5Kids (ev FTA c_spec_l5Kids (.loop k_spec_l5Kids_l6) [.lv 0, .th k_spec_l5Kids_r2] (putS (List.replicate 53 .dead) [(0, .t (.sl false (l.map (GNode.row false)))), (1, .t (.v (.int .i64 deep))), (5, .t (.v (.int .i64 i)))]) (putR (List.replicate 53 []) []))) ∧
    (∀ (l : List GNode) (deep : Int) (i : Int) (x2 : GNode), Ok (spec_l5Kids_j17 l deep i x2) e_spec_l5Kids (ev FTA c_spec_l5Kids k_spec_l5Kids_r17 [.lv 1, .th k_spec_l5Kids_r13, .hk [.clean [6]], .th (.loop k_spec_l5Kids_l6), .lv 0, .th k_spec_l5Kids_r2] (putS (List.replicate 53 .dead) [(0, .t (.sl false (l.map (GNode.row false)))), (1, .t (.v (.int .i64 deep))), (5, .t (.v (.int .i64 i))), (6, .ptr (6, 0) [] 0 0 1 0)]) (putR (List.replicate 53 []) [(6, [.mem [[.v (.int .i64 x2.Kind), .v (.string x2.Pre), .v (.string x2.Local), .v (.string x2.Uri), .sl false (x2.Decls.map GDecl.row), .sl false (x2.Attrs.map GAttr.row), .sl false (x2.Kids.map (GNode.row false)), .v (.string x2.Text)]] 0 false])]))) := by
  unfold Ok
  refine spec_l5Kids.mutual_partial_correctness _ _ _ ?_ ?_ ?_ 
  · intro F1 ih1 l deep
    show Ok _ _ _
    have ih1 : ∀ (l : List GNode) (deep : Int) (i : Int), Ok (F1 l deep i) _ _ := ih1
    rw [den_ev FTA (fn := k_spec_l5Kids) rfl (xN rfl rfl _) (lB rfl)]
    simp only [SSA, RS, ES, k_spec_l5Kids, reduceAdd, reduceSub, reduceMul, reduceLeDiff, reduceLT, reduceEqDiff, Nat.reduceBEq, ↓reduceIte, reduceCtorEq]
    repeat' first
      | with_reducible exact Ok_none
      | ((with_reducible refine Ok_ret ?_); first | rfl | simp only [SSA, RS, ES])
      | ((with_reducible refine Ok_tail (ih1 ..) ?_); first | rfl | (simp only [SSA, RS, ES, reduceAdd, reduceSub, reduceMul, reduceLeDiff, reduceLT, reduceEqDiff, Nat.reduceBEq, ↓reduceIte, reduceCtorEq] <;> rfl))
  · intro F2 ih2 l deep i
    show Ok _ _ _
    have ih2 : ∀ (l : List GNode) (deep : Int) (i : Int) (x2 : GNode), Ok (F2 l deep i x2) _ _ := ih2
    rw [ev_loop]
    have g0 := spec_l5One_ok; try simp only [SSA, RS, reduceAdd, reduceSub, reduceMul, reduceLeDiff, reduceLT, reduceEqDiff, Nat.reduceBEq, ↓reduceIte, reduceCtorEq] at g0
    simp only [SSA, RS, ES, k_spec_l5Kids_l6, k_spec_l5Kids_r2, reduceAdd, reduceSub, reduceMul, reduceLeDiff, reduceLT, reduceEqDiff, Nat.reduceBEq, ↓reduceIte, reduceCtorEq]
    repeat' first
      | with_reducible exact Ok_none
      | ((with_reducible refine Ok_ret ?_); first | rfl | simp only [SSA, RS, ES])
      | ((with_reducible refine Ok_tail (ih2 ..) ?_); first | rfl | (simp only [SSA, RS, ES, reduceAdd, reduceSub, reduceMul, reduceLeDiff, reduceLT, reduceEqDiff, Nat.reduceBEq, ↓reduceIte, reduceCtorEq] <;> rfl))
      | ((first | with_reducible refine Ok_if (fun h => ?_) (fun h => ?_) | with_reducible refine Ok_get fun a h => ?_ | with_reducible refine Ok_call (g0 ..) fun v => ?_ | refine Ok_call (g0 ..) fun v => ?_) <;> simp only [SSA, RS, ES, *, k_spec_l5Kids_r2, reduceAdd, reduceSub, reduceMul, reduceLeDiff, reduceLT, reduceEqDiff, Nat.reduceBEq, ↓reduceIte, reduceCtorEq])
  · intro F0 F1 ih0 ih1 l deep i x2
    show Ok _ _ _
    have ih0 : ∀ (l : List GNode) (deep : Int), Ok (F0 l deep) _ _ := ih0
    have ih1 : ∀ (l : List GNode) (deep : Int) (i : Int), Ok (F1 l deep i) _ _ := ih1
    have g0 := ih0; try simp only [SSA, RS, reduceAdd, reduceSub, reduceMul, reduceLeDiff, reduceLT, reduceEqDiff, Nat.reduceBEq, ↓reduceIte, reduceCtorEq] at g0
    simp only [SSA, RS, ES, k_spec_l5Kids_r17, k_spec_l5Kids_r13, reduceAdd, reduceSub, reduceMul, reduceLeDiff, reduceLT, reduceEqDiff, Nat.reduceBEq, ↓reduceIte, reduceCtorEq]
    repeat' first
      | with_reducible exact Ok_none
      | ((with_reducible refine Ok_ret ?_); first | rfl | simp only [SSA, RS, ES])
      | ((with_reducible refine Ok_tail (ih1 ..) ?_); first | rfl | (simp only [SSA, RS, ES, reduceAdd, reduceSub, reduceMul, reduceLeDiff, reduceLT, reduceEqDiff, Nat.reduceBEq, ↓reduceIte, reduceCtorEq] <;> rfl))
      | ((first | with_reducible refine Ok_if (fun h => ?_) (fun h => ?_) | with_reducible refine Ok_call (g0 ..) fun v => ?_ | refine Ok_call (g0 ..) fun v => ?_) <;> simp only [SSA, RS, ES, *, k_spec_l5Kids_r13, reduceAdd, reduceSub, reduceMul, reduceLeDiff, reduceLT, reduceEqDiff, Nat.reduceBEq, ↓reduceIte, reduceCtorEq])
theorem spec_l5Kids_ok (l : List GNode) (deep : Int) : Ok (spec_l5Kids l deep) e_spec_l5Kids (dn FTA n_spec_l5Kids [.t (.sl false (l.map (GNode.row false))), .t (.v (.int .i64 deep))]) := G_spec_l5Kids.1 l deep
theorem G_spec_NodeOk_j33 (n : GNode) : (∀ (k2 : Int) (i : Int), Ok (spec_NodeOk_j33 k2 i n) e_spec_NodeOk (ev FTA c_spec_NodeOk k_spec_NodeOk_r33 [.lv 1, .th k_spec_NodeOk_r31, .hk [.clean []], .th (.loop k_spec_NodeOk_l24), .lv 0, .th k_spec_NodeOk_r20] (putS (List.replicate 76 .dead) [(1, .ptr (1, 0) [] 0 0 1 0), (3, .t (.v (.int .i64 k2))), (4, .t (.v (.int .i64 i)))]) (putR (List.replicate 76 []) [(1, [.mem [[.v (.int .i64 n.Kind), .v (.string n.Pre), .v (.string n.Local), .v (.string n.Uri), .sl false (n.Decls.map GDecl.row), .sl false (n.Attrs.map GAttr.row), .sl false (n.Kids.map (GNode.row false)), .v (.string n.Text)]] 0 false])]))) ∧
    (∀ (k1 : Int) (i : Int), Ok (spec_NodeOk_l24 k1 i n) e_spec_NodeOk (ev FTA c_spec_NodeOk (.loop k_spec_NodeOk_l24) [.lv 0, .th k_spec_NodeOk_r20] (putS (List.replicate 76 .dead) [(1, .ptr (1, 0) [] 0 0 1 0), (3, .t (.v (.int .i64 k1))), (4, .t (.v (.int .i64 i)))]) (putR (List.replicate 76 []) [(1, [.mem [[.v (.int .i64 n.Kind), .v (.string n.Pre), .v (.string n.Local), .v (.string n.Uri), .sl false (n.Decls.map GDecl.row), .sl false (n.Attrs.map GAttr.row), .sl false (n.Kids.map (GNode.row false)), .v (.string n.Text)]] 0 false])]))) := by
  unfold Ok
  refine spec_NodeOk_j33.mutual_partial_correctness n _ _ ?_ ?_ 
  · intro F1 ih1 k2 i
    show Ok _ _ _
    have ih1 : ∀ (k1 : Int) (i : Int), Ok (F1 k1 i) _ _ := ih1
    simp only [SSA, RS, ES, k_spec_NodeOk_r33, k_spec_NodeOk_r31, reduceAdd, reduceSub, reduceMul, reduceLeDiff, reduceLT, reduceEqDiff, Nat.reduceBEq, ↓reduceIte, reduceCtorEq]
    repeat' first
      | with_reducible exact Ok_none
      | ((with_reducible refine Ok_ret ?_); first | rfl | simp only [SSA, RS, ES])
      | ((with_reducible refine Ok_tail (ih1 ..) ?_); first | rfl | (simp only [SSA, RS, ES, reduceAdd, reduceSub, reduceMul, reduceLeDiff, reduceLT, reduceEqDiff, Nat.reduceBEq, ↓reduceIte, reduceCtorEq] <;> rfl))
      | ((first | with_reducible refine Ok_if (fun h => ?_) (fun h => ?_) | with_reducible refine Ok_get fun a h => ?_) <;> simp only [SSA, RS, ES, *, k_spec_NodeOk_r31, reduceAdd, reduceSub, reduceMul, reduceLeDiff, reduceLT, reduceEqDiff, Nat.reduceBEq, ↓reduceIte, reduceCtorEq])
  · intro F0 ih0 k1 i
    show Ok _ _ _
    have ih0 : ∀ (k2 : Int) (i : Int), Ok (F0 k2 i) _ _ := ih0
    rw [ev_loop]
    have g0 := spec_l5Kids_ok; try simp only [SSA, RS, reduceAdd, reduceSub, reduceMul, reduceLeDiff, reduceLT, reduceEqDiff, Nat.reduceBEq, ↓reduceIte, reduceCtorEq] at g0
    simp only [SSA, RS, ES, k_spec_NodeOk_l24, k_spec_NodeOk_r20, reduceAdd, reduceSub, reduceMul, reduceLeDiff, reduceLT, reduceEqDiff, Nat.reduceBEq, ↓reduceIte, reduceCtorEq]
    repeat' first
      | with_reducible exact Ok_none
      | ((with_reducible refine Ok_ret ?_); first | rfl | simp only [SSA, RS, ES])
      | ((with_reducible refine Ok_tail (ih0 ..) ?_); first | rfl | (simp only [SSA, RS, ES, reduceAdd, reduceSub, reduceMul, reduceLeDiff, reduceLT, reduceEqDiff, Nat.reduceBEq, ↓reduceIte, reduceCtorEq] <;> rfl))
      | ((first | with_reducible refine Ok_if (fun h => ?_) (fun h => ?_) | with_reducible refine Ok_get fun a h => ?_ | with_reducible refine Ok_call (g0 ..) fun v => ?_ | refine Ok_call (g0 ..) fun v => ?_) <;> simp only [SSA, RS, ES, *, k_spec_NodeOk_r20, reduceAdd, reduceSub, reduceMul, reduceLeDiff, reduceLT, reduceEqDiff, Nat.reduceBEq, ↓reduceIte, reduceCtorEq])
theorem spec_NodeOk_ok : ∀ (n : GNode), Ok (spec_NodeOk n) e_spec_NodeOk (dn FTA n_spec_NodeOk [.agg (((GNode.row false) n).map .t)]) := by
  intro n
  rw [den_ev FTA (fn := k_spec_NodeOk) rfl (xN rfl rfl _) (lB rfl)]
  have g0 := spec_CountOf_ok; have g1 := spec_l5Kids_ok; try simp only [SSA, RS, reduceAdd, reduceSub, reduceMul, reduceLeDiff, reduceLT, reduceEqDiff, Nat.reduceBEq, ↓reduceIte, reduceCtorEq] at g0 g1
  simp only [SSA, RS, ES, k_spec_NodeOk, spec_NodeOk, reduceAdd, reduceSub, reduceMul, reduceLeDiff, reduceLT, reduceEqDiff, Nat.reduceBEq, ↓reduceIte, reduceCtorEq]
  repeat' first
    | with_reducible exact Ok_none
    | ((with_reducible refine Ok_ret ?_); first | rfl | simp only [SSA, RS, ES])
    | ((with_reducible refine Ok_tail ((G_spec_NodeOk_j33 ..).2 ..) ?_); first | rfl | (simp only [SSA, RS, ES, reduceAdd, reduceSub, reduceMul, reduceLeDiff, reduceLT, reduceEqDiff, Nat.reduceBEq, ↓reduceIte, reduceCtorEq] <;> rfl))
    | ((first | with_reducible refine Ok_if (fun h => ?_) (fun h => ?_) | with_reducible refine Ok_call (g0 ..) fun v => ?_ | with_reducible refine Ok_call (g1 ..) fun v => ?_ | refine Ok_call (g0 ..) fun v => ?_ | refine Ok_call (g1 ..) fun v => ?_ | refine Ok_callq (g1 _ _) (by simp only [SSA, RS, List.map_cons, List.map_nil]) fun v => ?_) <;> simp only [SSA, RS, ES, *, reduceAdd, reduceSub, reduceMul, reduceLeDiff, reduceLT, reduceEqDiff, Nat.reduceBEq, ↓reduceIte, reduceCtorEq])
theorem spec_Inner_ok : ∀ (l : List GDecl) (more : List GDecl), Ok (spec_Inner l more) e_spec_Inner (dn FTA n_spec_Inner [.t (.sl false (l.map GDecl.row)), .t (.sl false (more.map GDecl.row))]) := by
  intro l more
  rw [den_ev FTA (fn := k_spec_Inner) rfl (xN rfl rfl _) (lB rfl)]
  simp only [SSA, RS, ES, k_spec_Inner, spec_Inner, reduceAdd, reduceSub, reduceMul, reduceLeDiff, reduceLT, reduceEqDiff, Nat.reduceBEq, ↓reduceIte, reduceCtorEq]
  repeat' first
    | with_reducible exact Ok_none
    | ((with_reducible refine Ok_ret ?_); first | rfl | simp only [SSA, RS, ES])
    | ((first | with_reducible refine Ok_prim (p := room _ _) fun a h => ?_) <;> simp only [SSA, RS, ES, *, reduceAdd, reduceSub, reduceMul, reduceLeDiff, reduceLT, reduceEqDiff, Nat.reduceBEq, ↓reduceIte, reduceCtorEq])
theorem spec_SpaceOf_l6_ok (l : List GDecl) (pre : ByteArray) : ∀ (i : Int), Ok (spec_SpaceOf_l6 l pre i) e_spec_SpaceOf (ev FTA c_spec_SpaceOf (.loop k_spec_SpaceOf_l6) [.lv 0, .th k_spec_SpaceOf_r2] (putS (List.replicate 28 .dead) [(0, .t (.sl false (l.map GDecl.row))), (1, .t (.v (.string pre))), (6, .t (.v (.int .i64 i)))]) (putR (List.replicate 28 []) [])) := by
  unfold Ok
  refine spec_SpaceOf_l6.partial_correctness l pre _ ?_
  intro F ih i
  show Ok _ _ _
  have ih : ∀ (i : Int), Ok (F i) _ _ := ih
  rw [ev_loop]
  simp only [SSA, RS, ES, k_spec_SpaceOf_l6, k_spec_SpaceOf_r2, reduceAdd, reduceSub, reduceMul, reduceLeDiff, reduceLT, reduceEqDiff, Nat.reduceBEq, ↓reduceIte, reduceCtorEq]
  repeat' first
    | with_reducible exact Ok_none
    | ((with_reducible refine Ok_ret ?_); first | rfl | simp only [SSA, RS, ES])
    | ((with_reducible refine Ok_tail (ih ..) ?_); first | rfl | (simp only [SSA, RS, ES, reduceAdd, reduceSub, reduceMul, reduceLeDiff, reduceLT, reduceEqDiff, Nat.reduceBEq, ↓reduceIte, reduceCtorEq] <;> rfl))
    | ((first | with_reducible refine Ok_if (fun h => ?_) (fun h => ?_) | with_reducible refine Ok_get fun a h => ?_) <;> simp only [SSA, RS, ES, *, k_spec_SpaceOf_r2, reduceAdd, reduceSub, reduceMul, reduceLeDiff, reduceLT, reduceEqDiff, Nat.reduceBEq, ↓reduceIte, reduceCtorEq])
theorem spec_SpaceOf_ok : ∀ (l : List GDecl) (pre : ByteArray), Ok (spec_SpaceOf l pre) e_spec_SpaceOf (dn FTA n_spec_SpaceOf [.t (.sl false (l.map GDecl.row)), .t (.v (.string pre))]) := by
  intro l pre
  rw [den_ev FTA (fn := k_spec_SpaceOf) rfl (xN rfl rfl _) (lB rfl)]
  simp only [SSA, RS, ES, k_spec_SpaceOf, spec_SpaceOf, reduceAdd, reduceSub, reduceMul, reduceLeDiff, reduceLT, reduceEqDiff, Nat.reduceBEq, ↓reduceIte, reduceCtorEq]
  repeat' first
    | with_reducible exact Ok_none
    | ((with_reducible refine Ok_ret ?_); first | rfl | simp only [SSA, RS, ES])
    | ((with_reducible refine Ok_tail (spec_SpaceOf_l6_ok ..) ?_); first | rfl | (simp only [SSA, RS, ES, reduceAdd, reduceSub, reduceMul, reduceLeDiff, reduceLT, reduceEqDiff, Nat.reduceBEq, ↓reduceIte, reduceCtorEq] <;> rfl))
theorem G_spec_FitsIn : (∀ (n : GNode) (l : List GDecl), Ok (spec_FitsIn n l) e_spec_FitsIn (dn FTA n_spec_FitsIn [.agg (((GNode.row false) n).map .t), .t (.sl false (l.map GDecl.row))])) ∧
    (∀ (r : List GDecl) (n : GNode), Ok (spec_FitsIn_j4 r n) e_spec_FitsIn (ev FTA c_spec_FitsIn k_spec_FitsIn_r4 [] (putS (List.replicate 88 .dead) [(2, .ptr (2, 0) [] 0 0 1 0), (5, .ref (15, 0) r.length)]) (putR (List.replicate 88 []) [(2, [.mem [[.v (.int .i64 n.Kind), .v (.string n.Pre), .v (.string n.Local), .v (.string n.Uri), .sl false (n.Decls.map GDecl.row), .sl false (n.Attrs.map GAttr.row), .sl false (n.Kids.map (GNode.row false)), .v (.string n.Text)]] 0 false]), (15, [.mem (r.map GDecl.row) 0 false])]))) ∧
    (∀ (r : List GDecl) (i1 : Int) (n : GNode), Ok (spec_FitsIn_l22 r i1 n) e_spec_FitsIn (ev FTA c_spec_FitsIn (.loop k_spec_FitsIn_l22) [.lv 0, .th k_spec_FitsIn_r18] (putS (List.replicate 88 .dead) [(2, .ptr (2, 0) [] 0 0 1 0), (5, .ref (15, 0) r.length), (8, .t (.v (.int .i64 i1)))]) (putR (List.replicate 88 []) [(2, [.mem [[.v (.int .i64 n.Kind), .v (.string n.Pre), .v (.string n.Local), .v (.string n.Uri), .sl false (n.Decls.map GDecl.row), .sl false (n.Attrs.map GAttr.row), .sl false (n.Kids.map (GNode.row false)), .v (.string n.Text)]] 0 false]), (15, [.mem (r.map GDecl.row) 0 false])]))) ∧
    (∀ (r : List GDecl) (i2 : Int) (n : GNode), Ok (spec_FitsIn_l45 r i2 n) e_spec_FitsIn (ev FTA c_spec_FitsIn (.loop k_spec_FitsIn_l45) [.lv 2, .th k_spec_FitsIn_r41] (putS (List.replicate 88 .dead) [(2, .ptr (2, 0) [] 0 0 1 0), (5, .ref (15, 0) r.length), (11, .t (.v (.int .i64 i2)))]) (putR (List.replicate 88 []) [(2, [.mem [[.v (.int .i64 n.Kind), .v (.string n.Pre), .v (.string n.Local), .v (.string n.Uri), .sl false (n.Decls.map GDecl.row), .sl false (n.Attrs.map GAttr.row), .sl false (n.Kids.map (GNode.row false)), .v (.string n.Text)]] 0 false]), (15, [.mem (r.map GDecl.row) 0 false])]))) := by
  unfold Ok
  refine spec_FitsIn.mutual_partial_correctness _ _ _ _ ?_ ?_ ?_ ?_ 
  · intro F1 ih1 n l
    show Ok _ _ _
    have ih1 : ∀ (r : List GDecl) (n : GNode), Ok (F1 r n) _ _ := ih1
    rw [den_ev FTA (fn := k_spec_FitsIn) rfl (xN rfl rfl _) (lB rfl)]
    have g0 := spec_Inner_ok; have g1 := spec_SpaceOf_ok; try simp only [SSA, RS, reduceAdd, reduceSub, reduceMul, reduceLeDiff, reduceLT, reduceEqDiff, Nat.reduceBEq, ↓reduceIte, reduceCtorEq] at g0 g1
    simp only [SSA, RS, ES, k_spec_FitsIn, reduceAdd, reduceSub, reduceMul, reduceLeDiff, reduceLT, reduceEqDiff, Nat.reduceBEq, ↓reduceIte, reduceCtorEq]
    repeat' first
      | with_reducible exact Ok_none
      | ((with_reducible refine Ok_ret ?_); first | rfl | simp only [SSA, RS, ES])
      | ((with_reducible refine Ok_tail (ih1 ..) ?_); first | rfl | (simp only [SSA, RS, ES, reduceAdd, reduceSub, reduceMul, reduceLeDiff, reduceLT, reduceEqDiff, Nat.reduceBEq, ↓reduceIte, reduceCtorEq] <;> rfl))
      | ((first | with_reducible refine Ok_if (fun h => ?_) (fun h => ?_) | with_reducible refine Ok_call (g0 ..) fun v => ?_ | with_reducible refine Ok_call (g1 ..) fun v => ?_ | refine Ok_call (g0 ..) fun v => ?_ | refine Ok_call (g1 ..) fun v => ?_) <;> simp only [SSA, RS, ES, *, reduceAdd, reduceSub, reduceMul, reduceLeDiff, reduceLT, reduceEqDiff, Nat.reduceBEq, ↓reduceIte, reduceCtorEq])
  · intro F2 ih2 r n
    show Ok _ _ _
    have ih2 : ∀ (r : List GDecl) (i1 : Int) (n : GNode), Ok (F2 r i1 n) _ _ := ih2
    simp only [SSA, RS, ES, k_spec_FitsIn_r4, reduceAdd, reduceSub, reduceMul, reduceLeDiff, reduceLT, reduceEqDiff, Nat.reduceBEq, ↓reduceIte, reduceCtorEq]
    repeat' first
      | with_reducible exact Ok_none
      | ((with_reducible refine Ok_ret ?_); first | rfl | simp only [SSA, RS, ES])
      | ((with_reducible refine Ok_tail (ih2 ..) ?_); first | rfl | (simp only [SSA, RS, ES, reduceAdd, reduceSub, reduceMul, reduceLeDiff, reduceLT, reduceEqDiff, Nat.reduceBEq, ↓reduceIte, reduceCtorEq] <;> rfl))
  · intro F2 F3 ih2 ih3 r i1 n
    show Ok _ _ _
    have ih2 : ∀ (r : List GDecl) (i1 : Int) (n : GNode), Ok (F2 r i1 n) _ _ := ih2
    have ih3 : ∀ (r : List GDecl) (i2 : Int) (n : GNode), Ok (F3 r i2 n) _ _ := ih3
    rw [ev_loop]
    have g0 := spec_SpaceOf_ok; try simp only [SSA, RS, reduceAdd, reduceSub, reduceMul, reduceLeDiff, reduceLT, reduceEqDiff, Nat.reduceBEq, ↓reduceIte, reduceCtorEq] at g0
    simp only [SSA, RS, ES, k_spec_FitsIn_l22, k_spec_FitsIn_r18, reduceAdd, reduceSub, reduceMul, reduceLeDiff, reduceLT, reduceEqDiff, Nat.reduceBEq, ↓reduceIte, reduceCtorEq]
    repeat' first
      | with_reducible exact Ok_none
      | ((with_reducible refine Ok_ret ?_); first | rfl | simp only [SSA, RS, ES])
      | ((with_reducible refine Ok_tail (ih2 ..) ?_); first | rfl | (simp only [SSA, RS, ES, reduceAdd, reduceSub, reduceMul, reduceLeDiff, reduceLT, reduceEqDiff, Nat.reduceBEq, ↓reduceIte, reduceCtorEq] <;> rfl))
      | ((with_reducible refine Ok_tail (ih3 ..) ?_); first | rfl | (simp only [SSA, RS, ES, reduceAdd, reduceSub, reduceMul, reduceLeDiff, reduceLT, reduceEqDiff, Nat.reduceBEq, ↓reduceIte, reduceCtorEq] <;> rfl))
      | ((first | with_reducible refine Ok_if (fun h => ?_) (fun h => ?_) | with_reducible refine Ok_get fun a h => ?_ | with_reducible refine Ok_call (g0 ..) fun v => ?_ | refine Ok_call (g0 ..) fun v => ?_) <;> simp only [SSA, RS, ES, *, k_spec_FitsIn_r18, reduceAdd, reduceSub, reduceMul, reduceLeDiff, reduceLT, reduceEqDiff, Nat.reduceBEq, ↓reduceIte, reduceCtorEq])
  · intro F0 F3 ih0 ih3 r i2 n
    show Ok _ _ _
    have ih0 : ∀ (n : GNode) (l : List GDecl), Ok (F0 n l) _ _ := ih0
    have ih3 : ∀ (r : List GDecl) (i2 : Int) (n : GNode), Ok (F3 r i2 n) _ _ := ih3
    rw [ev_loop]
    have g0 := ih0; try simp only [SSA, RS, reduceAdd, reduceSub, reduceMul, reduceLeDiff, reduceLT, reduceEqDiff, Nat.reduceBEq, ↓reduceIte, reduceCtorEq] at g0
    simp only [SSA, RS, ES, k_spec_FitsIn_l45, k_spec_FitsIn_r41, reduceAdd, reduceSub, reduceMul, reduceLeDiff, reduceLT, reduceEqDiff, Nat.reduceBEq, ↓reduceIte, reduceCtorEq]
    repeat' first
      | with_reducible exact Ok_none
      | ((with_reducible refine Ok_ret ?_); first | rfl | simp only [SSA, RS, ES])
      | ((with_reducible refine Ok_tail (ih3 ..) ?_); first | rfl | (simp only [SSA, RS, ES, reduceAdd, reduceSub, reduceMul, reduceLeDiff, reduceLT, reduceEqDiff, Nat.reduceBEq, ↓reduceIte, reduceCtorEq] <;> rfl))
      | ((first | with_reducible refine Ok_if (fun h => ?_) (fun h => ?_) | with_reducible refine Ok_get fun a h => ?_ | with_reducible refine Ok_call (g0 ..) fun v => ?_ | refine Ok_call (g0 ..) fun v => ?_) <;> simp only [SSA, RS, ES, *, k_spec_FitsIn_r41, reduceAdd, reduceSub, reduceMul, reduceLeDiff, reduceLT, reduceEqDiff, Nat.reduceBEq, ↓reduceIte, reduceCtorEq])
theorem spec_FitsIn_ok (n : GNode) (l : List GDecl) : Ok (spec_FitsIn n l) e_spec_FitsIn (dn FTA n_spec_FitsIn [.agg (((GNode.row false) n).map .t), .t (.sl false (l.map GDecl.row))]) := G_spec_FitsIn.1 n l
theorem spec_TreeOk_ok : ∀ (n : GNode), Ok (spec_TreeOk n) e_spec_TreeOk (dn FTA n_spec_TreeOk [.agg (((GNode.row false) n).map .t)]) := by
  intro n
  rw [den_ev FTA (fn := k_spec_TreeOk) rfl (xN rfl rfl _) (lB rfl)]
  have g0 := spec_NodeOk_ok; have g1 := spec_FitsIn_ok; try simp only [SSA, RS, reduceAdd, reduceSub, reduceMul, reduceLeDiff, reduceLT, reduceEqDiff, Nat.reduceBEq, ↓reduceIte, reduceCtorEq] at g0 g1
  simp only [SSA, RS, ES, k_spec_TreeOk, spec_TreeOk, reduceAdd, reduceSub, reduceMul, reduceLeDiff, reduceLT, reduceEqDiff, Nat.reduceBEq, ↓reduceIte, reduceCtorEq]
  repeat' first
    | with_reducible exact Ok_none
    | ((with_reducible refine Ok_ret ?_); first | rfl | simp only [SSA, RS, ES])
    | ((first | with_reducible refine Ok_if (fun h => ?_) (fun h => ?_) | with_reducible refine Ok_call (g0 ..) fun v => ?_ | with_reducible refine Ok_call (g1 ..) fun v => ?_ | refine Ok_call (g0 ..) fun v => ?_ | refine Ok_call (g1 ..) fun v => ?_) <;> simp only [SSA, RS, ES, *, reduceAdd, reduceSub, reduceMul, reduceLeDiff, reduceLT, reduceEqDiff, Nat.reduceBEq, ↓reduceIte, reduceCtorEq])
theorem spec_WalkOk_ok : ∀ (w : GWalk), Ok (spec_WalkOk w) e_spec_WalkOk (dn FTA n_spec_WalkOk [.agg (((GWalk.row false) w).map .t)]) := by
  intro w
  rw [den_ev FTA (fn := k_spec_WalkOk) rfl (xN rfl rfl _) (lB rfl)]
  have g0 := spec_NodeAt_ok; have g1 := spec_TreeOk_ok; try simp only [SSA, RS, reduceAdd, reduceSub, reduceMul, reduceLeDiff, reduceLT, reduceEqDiff, Nat.reduceBEq, ↓reduceIte, reduceCtorEq] at g0 g1
  simp only [SSA, RS, ES, k_spec_WalkOk, spec_WalkOk, reduceAdd, reduceSub, reduceMul, reduceLeDiff, reduceLT, reduceEqDiff, Nat.reduceBEq, ↓reduceIte, reduceCtorEq]
  repeat' first
    | with_reducible exact Ok_none
    | ((with_reducible refine Ok_ret ?_); first | rfl | simp only [SSA, RS, ES])
    | ((first | with_reducible refine Ok_if (fun h => ?_) (fun h => ?_) | with_reducible refine Ok_call (g0 ..) fun v => ?_ | with_reducible refine Ok_call (g1 ..) fun v => ?_ | refine Ok_call (g0 ..) fun v => ?_ | refine Ok_call (g1 ..) fun v => ?_) <;> simp only [SSA, RS, ES, *, reduceAdd, reduceSub, reduceMul, reduceLeDiff, reduceLT, reduceEqDiff, Nat.reduceBEq, ↓reduceIte, reduceCtorEq])
theorem impl_in_ok : ∀ (n : Int) (lo : Int) (hi : Int), Ok (impl_in n lo hi) e_impl_in (dn FTA n_impl_in [.t (.v (.int .i64 n)), .t (.v (.int .i64 lo)), .t (.v (.int .i64 hi))]) := by
  intro n lo hi
  rw [den_ev FTA (fn := k_impl_in) rfl (xN rfl rfl _) (lB rfl)]
  simp only [SSA, RS, ES, k_impl_in, impl_in, reduceAdd, reduceSub, reduceMul, reduceLeDiff, reduceLT, reduceEqDiff, Nat.reduceBEq, ↓reduceIte, reduceCtorEq]
  repeat' first
    | with_reducible exact Ok_none
    | ((with_reducible refine Ok_ret ?_); first | rfl | simp only [SSA, RS, ES])
    | ((first | with_reducible refine Ok_if (fun h => ?_) (fun h => ?_)) <;> simp only [SSA, RS, ES, *, reduceAdd, reduceSub, reduceMul, reduceLeDiff, reduceLT, reduceEqDiff, Nat.reduceBEq, ↓reduceIte, reduceCtorEq])
theorem slices_Clone_Decl_ok : ∀ (s : List (GDecl)), Ok (slices_Clone_Decl s) e_slices_Clone_Decl (dn FTA n_slices_Clone_Decl [.t (.sl false (s.map GDecl.row))]) := by
  intro s
  cases s with
  | nil =>
    intro r hr
    unfold slices_Clone_Decl at hr
    obtain ⟨_, _, h⟩ := Option.bind_eq_some_iff.1 hr
    cases h
    exact den_ext FTA.ft (xOf FTA) (xOf_nil rfl)
  | cons x s =>
    simp only [List.map_cons]
    rw [den_ev FTA (fn := k_slices_Clone_Decl) rfl (xOf_cons rfl _ _) (Nat.le_of_ble_eq_true rfl)]
    simp only [SSA, RS, c_slices_Clone_Decl, k_slices_Clone_Decl, slices_Clone_Decl, reduceAdd, reduceSub, reduceMul, reduceLeDiff, reduceLT, reduceEqDiff, Nat.reduceBEq, ↓reduceIte, reduceCtorEq]
    refine Ok_prim fun a h => ?_
    simp only [SSA, RS, *, reduceAdd, reduceSub, reduceMul, reduceLeDiff, reduceLT, reduceEqDiff, Nat.reduceBEq, ↓reduceIte, reduceCtorEq]
    exact Ok_ret rfl
theorem slices_Clone_Attr_ok : ∀ (s : List (GAttr)), Ok (slices_Clone_Attr s) e_slices_Clone_Attr (dn FTA n_slices_Clone_Attr [.t (.sl false (s.map GAttr.row))]) := by
  intro s
  cases s with
  | nil =>
    intro r hr
    unfold slices_Clone_Attr at hr
    obtain ⟨_, _, h⟩ := Option.bind_eq_some_iff.1 hr
    cases h
    exact den_ext FTA.ft (xOf FTA) (xOf_nil rfl)
  | cons x s =>
    simp only [List.map_cons]
    rw [den_ev FTA (fn := k_slices_Clone_Attr) rfl (xOf_cons rfl _ _) (Nat.le_of_ble_eq_true rfl)]
    simp only [SSA, RS, c_slices_Clone_Attr, k_slices_Clone_Attr, slices_Clone_Attr, reduceAdd, reduceSub, reduceMul, reduceLeDiff, reduceLT, reduceEqDiff, Nat.reduceBEq, ↓reduceIte, reduceCtorEq]
    refine Ok_prim fun a h => ?_
    simp only [SSA, RS, *, reduceAdd, reduceSub, reduceMul, reduceLeDiff, reduceLT, reduceEqDiff, Nat.reduceBEq, ↓reduceIte, reduceCtorEq]
    exact Ok_ret rfl
theorem G_impl_cloneNode : (∀ (n : GNode), Ok (impl_cloneNode n) e_impl_cloneNode (dn FTA n_impl_cloneNode [.agg (((GNode.row false) n).map .t)])) ∧
    (∀ (l : List GNode), Ok (impl_cloneNodes l) e_impl_cloneNodes (dn FTA n_impl_cloneNodes [.t (.sl false (l.map (GNode.row false)))])) ∧
    (∀ (out : List (GNode)) (l : List GNode) (x1 : Int), Ok (impl_cloneNodes_l8 out l x1) e_impl_cloneNodes (ev FTA c_impl_cloneNodes (.loop k_impl_cloneNodes_l8) [.lv 0, .th k_impl_cloneNodes_r4] (putS (List.replicate 19 .dead) [(3, .ref (16, 0) out.length), (6, .t (.sl false (l.map (GNode.row false)))), (7, .t (.v (.int .i64 (lenL l)))), (8, .t (.v (.int .i64 x1)))]) (putR (List.replicate 19 []) [(16, [.mem (out.map (GNode.row true)) 0 false])]))) := by
  unfold Ok
  refine impl_cloneNode.mutual_partial_correctness _ _ _ ?_ ?_ ?_ 
  · intro F1 ih1 n
    show Ok _ _ _
    have ih1 : ∀ (l : List GNode), Ok (F1 l) _ _ := ih1
    rw [den_ev FTA (fn := k_impl_cloneNode) rfl (xN rfl rfl _) (lB rfl)]
    have g0 := slices_Clone_Decl_ok; have g1 := slices_Clone_Attr_ok; have g2 := ih1; try simp only [SSA, RS, reduceAdd, reduceSub, reduceMul, reduceLeDiff, reduceLT, reduceEqDiff, Nat.reduceBEq, ↓reduceIte, reduceCtorEq] at g0 g1 g2
    simp only [SSA, RS, ES, k_impl_cloneNode, reduceAdd, reduceSub, reduceMul, reduceLeDiff, reduceLT, reduceEqDiff, Nat.reduceBEq, ↓reduceIte, reduceCtorEq]
    repeat' first
      | with_reducible exact Ok_none
      | ((with_reducible refine Ok_ret ?_); first | rfl | simp only [SSA, RS, ES])
      | ((first | with_reducible refine Ok_call (g0 ..) fun v => ?_ | with_reducible refine Ok_call (g1 ..) fun v => ?_ | with_reducible refine Ok_call (g2 ..) fun v => ?_ | refine Ok_call (g0 ..) fun v => ?_ | refine Ok_call (g1 ..) fun v => ?_ | refine Ok_call (g2 ..) fun v => ?_) <;> simp only [SSA, RS, ES, *, reduceAdd, reduceSub, reduceMul, reduceLeDiff, reduceLT, reduceEqDiff, Nat.reduceBEq, ↓reduceIte, reduceCtorEq])
  · intro F2 ih2 l
    show Ok _ _ _
    have ih2 : ∀ (out : List (GNode)) (l : List GNode) (x1 : Int), Ok (F2 out l x1) _ _ := ih2
    rw [den_ev FTA (fn := k_impl_cloneNodes) rfl (xN rfl rfl _) (lB rfl)]
    simp only [SSA, RS, ES, k_impl_cloneNodes, reduceAdd, reduceSub, reduceMul, reduceLeDiff, reduceLT, reduceEqDiff, Nat.reduceBEq, ↓reduceIte, reduceCtorEq]
    repeat' first
      | with_reducible exact Ok_none
      | ((with_reducible refine Ok_ret ?_); first | rfl | simp only [SSA, RS, ES])
      | ((with_reducible refine Ok_tail (ih2 ..) ?_); first | rfl | (simp only [SSA, RS, ES, reduceAdd, reduceSub, reduceMul, reduceLeDiff, reduceLT, reduceEqDiff, Nat.reduceBEq, ↓reduceIte, reduceCtorEq] <;> rfl))
  · intro F0 F2 ih0 ih2 out l x1
    show Ok _ _ _
    have ih0 : ∀ (n : GNode), Ok (F0 n) _ _ := ih0
    have ih2 : ∀ (out : List (GNode)) (l : List GNode) (x1 : Int), Ok (F2 out l x1) _ _ := ih2
    rw [ev_loop]
    have g0 := ih0; try simp only [SSA, RS, reduceAdd, reduceSub, reduceMul, reduceLeDiff, reduceLT, reduceEqDiff, Nat.reduceBEq, ↓reduceIte, reduceCtorEq] at g0
    simp only [SSA, RS, ES, k_impl_cloneNodes_l8, k_impl_cloneNodes_r4, reduceAdd, reduceSub, reduceMul, reduceLeDiff, reduceLT, reduceEqDiff, Nat.reduceBEq, ↓reduceIte, reduceCtorEq]
    repeat' first
      | with_reducible exact Ok_none
      | ((with_reducible refine Ok_ret ?_); first | rfl | simp only [SSA, RS, ES])
      | ((with_reducible refine Ok_tail (ih2 ..) ?_); first | rfl | (simp only [SSA, RS, ES, reduceAdd, reduceSub, reduceMul, reduceLeDiff, reduceLT, reduceEqDiff, Nat.reduceBEq, ↓reduceIte, reduceCtorEq] <;> rfl))
      | ((first | with_reducible refine Ok_if (fun h => ?_) (fun h => ?_) | with_reducible refine Ok_get fun a h => ?_ | with_reducible refine Ok_call (g0 ..) fun v => ?_ | with_reducible refine Ok_prim (p := room _ _) fun a h => ?_ | refine Ok_call (g0 ..) fun v => ?_) <;> simp only [SSA, RS, ES, *, k_impl_cloneNodes_r4, reduceAdd, reduceSub, reduceMul, reduceLeDiff, reduceLT, reduceEqDiff, Nat.reduceBEq, ↓reduceIte, reduceCtorEq])
theorem impl_cloneNode_ok (n : GNode) : Ok (impl_cloneNode n) e_impl_cloneNode (dn FTA n_impl_cloneNode [.agg (((GNode.row false) n).map .t)]) := G_impl_cloneNode.1 n
theorem impl_NodeAt_l6_ok (path : List Int) : ∀ (x2 : Int) (n1 : GNode), Ok (impl_NodeAt_l6 path x2 n1) e_impl_NodeAt (ev FTA c_impl_NodeAt (.loop k_impl_NodeAt_l6) [.lv 0, .th k_impl_NodeAt_r2] (putS (List.replicate 30 .dead) [(2, .ptr (2, 0) [] 0 0 1 0), (4, .ptr (4, 0) [] 0 0 1 0), (8, .t (.sl false (path.map rI))), (9, .t (.v (.int .i64 (lenL path)))), (10, .t (.v (.int .i64 x2)))]) (putR (List.replicate 30 []) [(2, [.mem [[.v (.int .i64 n1.Kind), .v (.string n1.Pre), .v (.string n1.Local), .v (.string n1.Uri), .sl false (n1.Decls.map GDecl.row), .sl false (n1.Attrs.map GAttr.row), .sl false (n1.Kids.map (GNode.row false)), .v (.string n1.Text)]] 0 false]), (4, [.mem [[.v (.int .i64 0), .v (.string (⟨#[]⟩)), .v (.string (⟨#[]⟩)), .v (.string (⟨#[]⟩)), .sl true [], .sl true [], .sl true [], .v (.string (⟨#[]⟩))]] 0 false])])) := by
  unfold Ok
  refine impl_NodeAt_l6.partial_correctness path _ ?_
  intro F ih x2 n1
  show Ok _ _ _
  have ih : ∀ (x2 : Int) (n1 : GNode), Ok (F x2 n1) _ _ := ih
  rw [ev_loop]
  have g0 := impl_in_ok; have g1 := impl_cloneNode_ok; try simp only [SSA, RS, reduceAdd, reduceSub, reduceMul, reduceLeDiff, reduceLT, reduceEqDiff, Nat.reduceBEq, ↓reduceIte, reduceCtorEq] at g0 g1
  simp only [SSA, RS, ES, k_impl_NodeAt_l6, k_impl_NodeAt_r2, reduceAdd, reduceSub, reduceMul, reduceLeDiff, reduceLT, reduceEqDiff, Nat.reduceBEq, ↓reduceIte, reduceCtorEq]
  repeat' first
    | with_reducible exact Ok_none
    | ((with_reducible refine Ok_ret ?_); first | rfl | simp only [SSA, RS, ES])
    | ((with_reducible refine Ok_tail (ih ..) ?_); first | rfl | (simp only [SSA, RS, ES, reduceAdd, reduceSub, reduceMul, reduceLeDiff, reduceLT, reduceEqDiff, Nat.reduceBEq, ↓reduceIte, reduceCtorEq] <;> rfl))
    | ((first | with_reducible refine Ok_if (fun h => ?_) (fun h => ?_) | with_reducible refine Ok_get fun a h => ?_ | with_reducible refine Ok_call (g0 ..) fun v => ?_ | with_reducible refine Ok_call (g1 ..) fun v => ?_ | refine Ok_call (g0 ..) fun v => ?_ | refine Ok_call (g1 ..) fun v => ?_) <;> simp only [SSA, RS, ES, *, k_impl_NodeAt_r2, reduceAdd, reduceSub, reduceMul, reduceLeDiff, reduceLT, reduceEqDiff, Nat.reduceBEq, ↓reduceIte, reduceCtorEq])
theorem impl_NodeAt_ok : ∀ (n : GNode) (path : List Int), Ok (impl_NodeAt n path) e_impl_NodeAt (dn FTA n_impl_NodeAt [.agg (((GNode.row false) n).map .t), .t (.sl false (path.map rI))]) := by
  intro n path
  rw [den_ev FTA (fn := k_impl_NodeAt) rfl (xN rfl rfl _) (lB rfl)]
  simp only [SSA, RS, ES, k_impl_NodeAt, impl_NodeAt, reduceAdd, reduceSub, reduceMul, reduceLeDiff, reduceLT, reduceEqDiff, Nat.reduceBEq, ↓reduceIte, reduceCtorEq]
  repeat' first
    | with_reducible exact Ok_none
    | ((with_reducible refine Ok_ret ?_); first | rfl | simp only [SSA, RS, ES])
    | ((with_reducible refine Ok_tail (impl_NodeAt_l6_ok ..) ?_); first | rfl | (simp only [SSA, RS, ES, reduceAdd, reduceSub, reduceMul, reduceLeDiff, reduceLT, reduceEqDiff, Nat.reduceBEq, ↓reduceIte, reduceCtorEq] <;> rfl))
theorem G_impl_CountOf : (∀ (n : GNode), Ok (impl_CountOf n) e_impl_CountOf (dn FTA n_impl_CountOf [.agg (((GNode.row false) n).map .t)])) ∧
    (∀ (out : Int) (n : GNode) (x1 : Int), Ok (impl_CountOf_l8 out n x1) e_impl_CountOf (ev FTA c_impl_CountOf (.loop k_impl_CountOf_l8) [.lv 0, .th k_impl_CountOf_r4] (putS (List.replicate 23 .dead) [(3, .t (.v (.int .i64 out))), (11, .t (.sl false (n.Kids.map (GNode.row false)))), (12, .t (.v (.int .i64 (lenL n.Kids)))), (13, .t (.v (.int .i64 x1)))]) (putR (List.replicate 23 []) []))) := by
  unfold Ok
  refine impl_CountOf.mutual_partial_correctness _ _ ?_ ?_ 
  · intro F1 ih1 n
    show Ok _ _ _
    have ih1 : ∀ (out : Int) (n : GNode) (x1 : Int), Ok (F1 out n x1) _ _ := ih1
    rw [den_ev FTA (fn := k_impl_CountOf) rfl (xN rfl rfl _) (lB rfl)]
    simp only [SSA, RS, ES, k_impl_CountOf, reduceAdd, reduceSub, reduceMul, reduceLeDiff, reduceLT, reduceEqDiff, Nat.reduceBEq, ↓reduceIte, reduceCtorEq]
    repeat' first
      | with_reducible exact Ok_none
      | ((with_reducible refine Ok_ret ?_); first | rfl | simp only [SSA, RS, ES])
      | ((with_reducible refine Ok_tail (ih1 ..) ?_); first | rfl | (simp only [SSA, RS, ES, reduceAdd, reduceSub, reduceMul, reduceLeDiff, reduceLT, reduceEqDiff, Nat.reduceBEq, ↓reduceIte, reduceCtorEq] <;> rfl))
  · intro F0 F1 ih0 ih1 out n x1
    show Ok _ _ _
    have ih0 : ∀ (n : GNode), Ok (F0 n) _ _ := ih0
    have ih1 : ∀ (out : Int) (n : GNode) (x1 : Int), Ok (F1 out n x1) _ _ := ih1
    rw [ev_loop]
    have g0 := ih0; try simp only [SSA, RS, reduceAdd, reduceSub, reduceMul, reduceLeDiff, reduceLT, reduceEqDiff, Nat.reduceBEq, ↓reduceIte, reduceCtorEq] at g0
    simp only [SSA, RS, ES, k_impl_CountOf_l8, k_impl_CountOf_r4, reduceAdd, reduceSub, reduceMul, reduceLeDiff, reduceLT, reduceEqDiff, Nat.reduceBEq, ↓reduceIte, reduceCtorEq]
    repeat' first
      | with_reducible exact Ok_none
      | ((with_reducible refine Ok_ret ?_); first | rfl | simp only [SSA, RS, ES])
      | ((with_reducible refine Ok_tail (ih1 ..) ?_); first | rfl | (simp only [SSA, RS, ES, reduceAdd, reduceSub, reduceMul, reduceLeDiff, reduceLT, reduceEqDiff, Nat.reduceBEq, ↓reduceIte, reduceCtorEq] <;> rfl))
      | ((first | with_reducible refine Ok_if (fun h => ?_) (fun h => ?_) | with_reducible refine Ok_get fun a h => ?_ | with_reducible refine Ok_call (g0 ..) fun v => ?_ | refine Ok_call (g0 ..) fun v => ?_) <;> simp only [SSA, RS, ES, *, k_impl_CountOf_r4, reduceAdd, reduceSub, reduceMul, reduceLeDiff, reduceLT, reduceEqDiff, Nat.reduceBEq, ↓reduceIte, reduceCtorEq])
theorem impl_CountOf_ok (n : GNode) : Ok (impl_CountOf n) e_impl_CountOf (dn FTA n_impl_CountOf [.agg (((GNode.row false) n).map .t)]) := G_impl_CountOf.1 n
theorem unicode_utf8_DecodeRuneInString_ok : ∀ (s : ByteArray), Ok (unicode_utf8_DecodeRuneInString s) e_unicode_utf8_DecodeRuneInString (dn FTA n_unicode_utf8_DecodeRuneInString [.t (.v (.string s))]) := by
  intro s r hr
  exact den_ext FTA.ft (xOf FTA) (x_decode_ok s (e := e_unicode_utf8_DecodeRuneInString) (fun _ => rfl) hr)
theorem impl_SignAt_ok : ∀ (s : ByteArray) (at1 : Int), Ok (impl_SignAt s at1) e_impl_SignAt (dn FTA n_impl_SignAt [.t (.v (.string s)), .t (.v (.int .i64 at1))]) := by
  intro s at1
  rw [den_ev FTA (fn := k_impl_SignAt) rfl (xN rfl rfl _) (lB rfl)]
  have g0 := impl_in_ok; have g1 := unicode_utf8_DecodeRuneInString_ok; try simp only [SSA, RS, reduceAdd, reduceSub, reduceMul, reduceLeDiff, reduceLT, reduceEqDiff, Nat.reduceBEq, ↓reduceIte, reduceCtorEq] at g0 g1
  simp only [SSA, RS, ES, k_impl_SignAt, impl_SignAt, reduceAdd, reduceSub, reduceMul, reduceLeDiff, reduceLT, reduceEqDiff, Nat.reduceBEq, ↓reduceIte, reduceCtorEq]
  repeat' first
    | with_reducible exact Ok_none
    | ((with_reducible refine Ok_ret ?_); first | rfl | simp only [SSA, RS, ES])
    | ((first | with_reducible refine Ok_if (fun h => ?_) (fun h => ?_) | with_reducible refine Ok_call (g0 ..) fun v => ?_ | with_reducible refine Ok_call (g1 ..) fun v => ?_ | with_reducible refine Ok_prim (p := subS _ _ _) fun a h => ?_ | refine Ok_call (g0 ..) fun v => ?_ | refine Ok_call (g1 ..) fun v => ?_) <;> simp only [SSA, RS, ES, *, reduceAdd, reduceSub, reduceMul, reduceLeDiff, reduceLT, reduceEqDiff, Nat.reduceBEq, ↓reduceIte, reduceCtorEq])
theorem impl_inAny_1_ok : ∀ (r : GArr2Int) (a1 : Int), Ok (impl_inAny_1 r a1) e_impl_inAny_1 (dn FTA n_impl_inAny_1 [.agg ((GArr2Int.row r).map .t), .lp [.v (.int .i64 a1)] 0]) := by
  intro r a1
  rw [den_ev FTA (fn := k_impl_inAny_1) rfl (xN rfl rfl _) (lB rfl)]
  have g0 := impl_in_ok; try simp only [SSA, RS, reduceAdd, reduceSub, reduceMul, reduceLeDiff, reduceLT, reduceEqDiff, Nat.reduceBEq, ↓reduceIte, reduceCtorEq] at g0
  simp only [SSA, RS, ES, k_impl_inAny_1, impl_inAny_1, reduceAdd, reduceSub, reduceMul, reduceLeDiff, reduceLT, reduceEqDiff, Nat.reduceBEq, ↓reduceIte, reduceCtorEq]
  repeat' first
    | with_reducible exact Ok_none
    | ((with_reducible refine Ok_ret ?_); first | rfl | simp only [SSA, RS, ES])
    | ((first | with_reducible refine Ok_call (g0 ..) fun v => ?_ | refine Ok_call (g0 ..) fun v => ?_) <;> simp only [SSA, RS, ES, *, reduceAdd, reduceSub, reduceMul, reduceLeDiff, reduceLT, reduceEqDiff, Nat.reduceBEq, ↓reduceIte, reduceCtorEq])
theorem slices_IndexFunc_A2int_inAny_1_l6_ok (s : List GArr2Int) : ∀ (x1 : Int) (f : Int), Ok (slices_IndexFunc_A2int_inAny_1_l6 s x1 f) e_slices_IndexFunc_A2int_inAny_1 (ev FTA c_slices_IndexFunc_A2int_inAny_1 (.loop k_slices_IndexFunc_A2int_l6) [.lv 0, .th k_slices_IndexFunc_A2int_r2] (putS (List.replicate 19 .dead) [(0, .t (.sl false (s.map GArr2Int.row))), (1, .fn n_impl_inAny_1 [.ptr (1, 0) [] 0 0 1 0]), (7, .t (.v (.int .i64 (lenL s)))), (8, .t (.v (.int .i64 x1)))]) (putR (List.replicate 19 []) [(1, [.mem [[.v (.int .i64 f)]] 0 true])])) := by
  unfold Ok
  refine slices_IndexFunc_A2int_inAny_1_l6.partial_correctness s _ ?_
  intro F ih x1 f
  show Ok _ _ _
  have ih : ∀ (x1 : Int) (f : Int), Ok (F x1 f) _ _ := ih
  rw [ev_loop]
  have g0 := impl_inAny_1_ok; try simp only [SSA, RS, reduceAdd, reduceSub, reduceMul, reduceLeDiff, reduceLT, reduceEqDiff, Nat.reduceBEq, ↓reduceIte, reduceCtorEq] at g0
  simp only [SSA, RS, ES, k_slices_IndexFunc_A2int_l6, k_slices_IndexFunc_A2int_r2, reduceAdd, reduceSub, reduceMul, reduceLeDiff, reduceLT, reduceEqDiff, Nat.reduceBEq, ↓reduceIte, reduceCtorEq]
  repeat' first
    | with_reducible exact Ok_none
    | ((with_reducible refine Ok_ret ?_); first | rfl | simp only [SSA, RS, ES])
    | ((with_reducible refine Ok_tail (ih ..) ?_); first | rfl | (simp only [SSA, RS, ES, reduceAdd, reduceSub, reduceMul, reduceLeDiff, reduceLT, reduceEqDiff, Nat.reduceBEq, ↓reduceIte, reduceCtorEq] <;> rfl))
    | ((first | with_reducible refine Ok_if (fun h => ?_) (fun h => ?_) | with_reducible refine Ok_get fun a h => ?_ | with_reducible refine Ok_call (g0 ..) fun v => ?_ | refine Ok_call (g0 ..) fun v => ?_) <;> simp only [SSA, RS, ES, *, k_slices_IndexFunc_A2int_r2, reduceAdd, reduceSub, reduceMul, reduceLeDiff, reduceLT, reduceEqDiff, Nat.reduceBEq, ↓reduceIte, reduceCtorEq])
theorem slices_IndexFunc_A2int_inAny_1_ok : ∀ (s : List GArr2Int) (fc0 : Int), Ok (slices_IndexFunc_A2int_inAny_1 s fc0) e_slices_IndexFunc_A2int_inAny_1 (dn FTA n_slices_IndexFunc_A2int [.t (.sl false (s.map GArr2Int.row)), .fn n_impl_inAny_1 [.lp [.v (.int .i64 fc0)] 0]]) := by
  intro s fc0
  rw [den_ev FTA (fn := k_slices_IndexFunc_A2int) rfl (xN rfl rfl _) (lB rfl)]
  simp only [SSA, RS, ES, k_slices_IndexFunc_A2int, slices_IndexFunc_A2int_inAny_1, reduceAdd, reduceSub, reduceMul, reduceLeDiff, reduceLT, reduceEqDiff, Nat.reduceBEq, ↓reduceIte, reduceCtorEq]
  repeat' first
    | with_reducible exact Ok_none
    | ((with_reducible refine Ok_ret ?_); first | rfl | simp only [SSA, RS, ES])
    | ((with_reducible refine Ok_tail (slices_IndexFunc_A2int_inAny_1_l6_ok ..) ?_); first | rfl | (simp only [SSA, RS, ES, reduceAdd, reduceSub, reduceMul, reduceLeDiff, reduceLT, reduceEqDiff, Nat.reduceBEq, ↓reduceIte, reduceCtorEq] <;> rfl))
theorem slices_ContainsFunc_A2int_inAny_1_ok : ∀ (s : List GArr2Int) (fc0 : Int), Ok (slices_ContainsFunc_A2int_inAny_1 s fc0) e_slices_ContainsFunc_A2int_inAny_1 (dn FTA n_slices_ContainsFunc_A2int [.t (.sl false (s.map GArr2Int.row)), .fn n_impl_inAny_1 [.lp [.v (.int .i64 fc0)] 0]]) := by
  intro s fc0
  rw [den_ev FTA (fn := k_slices_ContainsFunc_A2int) rfl (xN rfl rfl _) (lB rfl)]
  have g0 := slices_IndexFunc_A2int_inAny_1_ok; try simp only [SSA, RS, reduceAdd, reduceSub, reduceMul, reduceLeDiff, reduceLT, reduceEqDiff, Nat.reduceBEq, ↓reduceIte, reduceCtorEq] at g0
  simp only [SSA, RS, ES, k_slices_ContainsFunc_A2int, slices_ContainsFunc_A2int_inAny_1, reduceAdd, reduceSub, reduceMul, reduceLeDiff, reduceLT, reduceEqDiff, Nat.reduceBEq, ↓reduceIte, reduceCtorEq]
  repeat' first
    | with_reducible exact Ok_none
    | ((with_reducible refine Ok_ret ?_); first | rfl | simp only [SSA, RS, ES])
    | ((first | with_reducible refine Ok_call (g0 ..) fun v => ?_ | refine Ok_call (g0 ..) fun v => ?_) <;> simp only [SSA, RS, ES, *, reduceAdd, reduceSub, reduceMul, reduceLeDiff, reduceLT, reduceEqDiff, Nat.reduceBEq, ↓reduceIte, reduceCtorEq])
theorem impl_inAny_ok : ∀ (n : Int) (ranges : List GArr2Int), Ok (impl_inAny n ranges) e_impl_inAny (dn FTA n_impl_inAny [.t (.v (.int .i64 n)), .t (.sl false (ranges.map GArr2Int.row))]) := by
  intro n ranges
  rw [den_ev FTA (fn := k_impl_inAny) rfl (xN rfl rfl _) (lB rfl)]
  have g0 := slices_ContainsFunc_A2int_inAny_1_ok; try simp only [SSA, RS, reduceAdd, reduceSub, reduceMul, reduceLeDiff, reduceLT, reduceEqDiff, Nat.reduceBEq, ↓reduceIte, reduceCtorEq] at g0
  simp only [SSA, RS, ES, k_impl_inAny, impl_inAny, reduceAdd, reduceSub, reduceMul, reduceLeDiff, reduceLT, reduceEqDiff, Nat.reduceBEq, ↓reduceIte, reduceCtorEq]
  repeat' first
    | with_reducible exact Ok_none
    | ((with_reducible refine Ok_ret ?_); first | rfl | simp only [SSA, RS, ES])
    | ((first | with_reducible refine Ok_call (g0 ..) fun v => ?_ | refine Ok_call (g0 ..) fun v => ?_) <;> simp only [SSA, RS, ES, *, reduceAdd, reduceSub, reduceMul, reduceLeDiff, reduceLT, reduceEqDiff, Nat.reduceBEq, ↓reduceIte, reduceCtorEq])
theorem impl_IsSign_ok : ∀ (n : Int), Ok (impl_IsSign n) e_impl_IsSign (dn FTA n_impl_IsSign [.t (.v (.int .i64 n))]) := by
  intro n
  rw [den_ev FTA (fn := k_impl_IsSign) rfl (xN rfl rfl _) (lB rfl)]
  have g0 := impl_inAny_ok; try simp only [SSA, RS, reduceAdd, reduceSub, reduceMul, reduceLeDiff, reduceLT, reduceEqDiff, Nat.reduceBEq, ↓reduceIte, reduceCtorEq] at g0
  simp only [SSA, RS, ES, k_impl_IsSign, impl_IsSign, reduceAdd, reduceSub, reduceMul, reduceLeDiff, reduceLT, reduceEqDiff, Nat.reduceBEq, ↓reduceIte, reduceCtorEq]
  repeat' first
    | with_reducible exact Ok_none
    | ((with_reducible refine Ok_ret ?_); first | rfl | simp only [SSA, RS, ES])
    | ((first | with_reducible refine Ok_call (g0 ..) fun v => ?_ | refine Ok_call (g0 ..) fun v => ?_ | refine Ok_callq (g0 _ _) (by simp only [SSA, RS, List.map_cons, List.map_nil]) fun v => ?_) <;> simp only [SSA, RS, ES, *, reduceAdd, reduceSub, reduceMul, reduceLeDiff, reduceLT, reduceEqDiff, Nat.reduceBEq, ↓reduceIte, reduceCtorEq])
theorem impl_signsOk_l6_ok (s : ByteArray) : ∀ (at1 : Int), Ok (impl_signsOk_l6 s at1) e_impl_signsOk (ev FTA c_impl_signsOk (.loop k_impl_signsOk_l6) [.lv 0, .th k_impl_signsOk_r2] (putS (List.replicate 26 .dead) [(0, .t (.v (.string s))), (3, .t (.v (.int .i64 at1)))]) (putR (List.replicate 26 []) [])) := by
  unfold Ok
  refine impl_signsOk_l6.partial_correctness s _ ?_
  intro F ih at1
  show Ok _ _ _
  have ih : ∀ (at1 : Int), Ok (F at1) _ _ := ih
  rw [ev_loop]
  have g0 := impl_SignAt_ok; have g1 := impl_IsSign_ok; try simp only [SSA, RS, reduceAdd, reduceSub, reduceMul, reduceLeDiff, reduceLT, reduceEqDiff, Nat.reduceBEq, ↓reduceIte, reduceCtorEq] at g0 g1
  simp only [SSA, RS, ES, k_impl_signsOk_l6, k_impl_signsOk_r2, reduceAdd, reduceSub, reduceMul, reduceLeDiff, reduceLT, reduceEqDiff, Nat.reduceBEq, ↓reduceIte, reduceCtorEq]
  repeat' first
    | with_reducible exact Ok_none
    | ((with_reducible refine Ok_ret ?_); first | rfl | simp only [SSA, RS, ES])
    | ((with_reducible refine Ok_tail (ih ..) ?_); first | rfl | (simp only [SSA, RS, ES, reduceAdd, reduceSub, reduceMul, reduceLeDiff, reduceLT, reduceEqDiff, Nat.reduceBEq, ↓reduceIte, reduceCtorEq] <;> rfl))
    | ((first | with_reducible refine Ok_if (fun h => ?_) (fun h => ?_) | with_reducible refine Ok_call (g0 ..) fun v => ?_ | with_reducible refine Ok_call (g1 ..) fun v => ?_ | refine Ok_call (g0 ..) fun v => ?_ | refine Ok_call (g1 ..) fun v => ?_) <;> simp only [SSA, RS, ES, *, k_impl_signsOk_r2, reduceAdd, reduceSub, reduceMul, reduceLeDiff, reduceLT, reduceEqDiff, Nat.reduceBEq, ↓reduceIte, reduceCtorEq])
theorem impl_signsOk_ok : ∀ (s : ByteArray), Ok (impl_signsOk s) e_impl_signsOk (dn FTA n_impl_signsOk [.t (.v (.string s))]) := by
  intro s
  rw [den_ev FTA (fn := k_impl_signsOk) rfl (xN rfl rfl _) (lB rfl)]
  simp only [SSA, RS, ES, k_impl_signsOk, impl_signsOk, reduceAdd, reduceSub, reduceMul, reduceLeDiff, reduceLT, reduceEqDiff, Nat.reduceBEq, ↓reduceIte, reduceCtorEq]
  repeat' first
    | with_reducible exact Ok_none
    | ((with_reducible refine Ok_ret ?_); first | rfl | simp only [SSA, RS, ES])
    | ((with_reducible refine Ok_tail (impl_signsOk_l6_ok ..) ?_); first | rfl | (simp only [SSA, RS, ES, reduceAdd, reduceSub, reduceMul, reduceLeDiff, reduceLT, reduceEqDiff, Nat.reduceBEq, ↓reduceIte, reduceCtorEq] <;> rfl))
theorem impl_TextOk_ok : ∀ (s : ByteArray), Ok (impl_TextOk s) e_impl_TextOk (dn FTA n_impl_TextOk [.t (.v (.string s))]) := by
  intro s
  rw [den_ev FTA (fn := k_impl_TextOk) rfl (xN rfl rfl _) (lB rfl)]
  have g0 := impl_signsOk_ok; try simp only [SSA, RS, reduceAdd, reduceSub, reduceMul, reduceLeDiff, reduceLT, reduceEqDiff, Nat.reduceBEq, ↓reduceIte, reduceCtorEq] at g0
  simp only [SSA, RS, ES, k_impl_TextOk, impl_TextOk, reduceAdd, reduceSub, reduceMul, reduceLeDiff, reduceLT, reduceEqDiff, Nat.reduceBEq, ↓reduceIte, reduceCtorEq]
  repeat' first
    | with_reducible exact Ok_none
    | ((with_reducible refine Ok_ret ?_); first | rfl | simp only [SSA, RS, ES])
    | ((first | with_reducible refine Ok_if (fun h => ?_) (fun h => ?_) | with_reducible refine Ok_call (g0 ..) fun v => ?_ | refine Ok_call (g0 ..) fun v => ?_) <;> simp only [SSA, RS, ES, *, reduceAdd, reduceSub, reduceMul, reduceLeDiff, reduceLT, reduceEqDiff, Nat.reduceBEq, ↓reduceIte, reduceCtorEq])
theorem strings_Contains_ok : ∀ (s : ByteArray) (t : ByteArray), Ok (strings_Contains s t) e_strings_Contains (dn FTA n_strings_Contains [.t (.v (.string s)), .t (.v (.string t))]) := by
  intro s t r hr
  exact den_ext FTA.ft (xOf FTA) (x_contains_ok s t (e := e_strings_Contains) (fun _ => rfl) hr)
theorem internal_stringslite_HasSuffix_ok : ∀ (s : ByteArray) (suffix : ByteArray), Ok (internal_stringslite_HasSuffix s suffix) e_internal_stringslite_HasSuffix (dn FTA n_internal_stringslite_HasSuffix [.t (.v (.string s)), .t (.v (.string suffix))]) := by
  intro s suffix
  rw [den_ev FTA (fn := k_internal_stringslite_HasSuffix) rfl (xN rfl rfl _) (lB rfl)]
  simp only [SSA, RS, ES, k_internal_stringslite_HasSuffix, internal_stringslite_HasSuffix, reduceAdd, reduceSub, reduceMul, reduceLeDiff, reduceLT, reduceEqDiff, Nat.reduceBEq, ↓reduceIte, reduceCtorEq]
  repeat' first
    | with_reducible exact Ok_none
    | ((with_reducible refine Ok_ret ?_); first | rfl | simp only [SSA, RS, ES])
    | ((first | with_reducible refine Ok_if (fun h => ?_) (fun h => ?_) | with_reducible refine Ok_prim (p := subS _ _ _) fun a h => ?_) <;> simp only [SSA, RS, ES, *, reduceAdd, reduceSub, reduceMul, reduceLeDiff, reduceLT, reduceEqDiff, Nat.reduceBEq, ↓reduceIte, reduceCtorEq])
theorem strings_HasSuffix_ok : ∀ (s : ByteArray) (suffix : ByteArray), Ok (strings_HasSuffix s suffix) e_strings_HasSuffix (dn FTA n_strings_HasSuffix [.t (.v (.string s)), .t (.v (.string suffix))]) := by
  intro s suffix
  rw [den_ev FTA (fn := k_strings_HasSuffix) rfl (xN rfl rfl _) (lB rfl)]
  have g0 := internal_stringslite_HasSuffix_ok; try simp only [SSA, RS, reduceAdd, reduceSub, reduceMul, reduceLeDiff, reduceLT, reduceEqDiff, Nat.reduceBEq, ↓reduceIte, reduceCtorEq] at g0
  simp only [SSA, RS, ES, k_strings_HasSuffix, strings_HasSuffix, reduceAdd, reduceSub, reduceMul, reduceLeDiff, reduceLT, reduceEqDiff, Nat.reduceBEq, ↓reduceIte, reduceCtorEq]
  repeat' first
    | with_reducible exact Ok_none
    | ((with_reducible refine Ok_ret ?_); first | rfl | simp only [SSA, RS, ES])
    | ((first | with_reducible refine Ok_call (g0 ..) fun v => ?_ | refine Ok_call (g0 ..) fun v => ?_) <;> simp only [SSA, RS, ES, *, reduceAdd, reduceSub, reduceMul, reduceLeDiff, reduceLT, reduceEqDiff, Nat.reduceBEq, ↓reduceIte, reduceCtorEq])
theorem impl_noteOk_ok : ∀ (s : ByteArray), Ok (impl_noteOk s) e_impl_noteOk (dn FTA n_impl_noteOk [.t (.v (.string s))]) := by
  intro s
  rw [den_ev FTA (fn := k_impl_noteOk) rfl (xN rfl rfl _) (lB rfl)]
  have g0 := impl_TextOk_ok; have g1 := strings_Contains_ok; have g2 := strings_HasSuffix_ok; try simp only [SSA, RS, reduceAdd, reduceSub, reduceMul, reduceLeDiff, reduceLT, reduceEqDiff, Nat.reduceBEq, ↓reduceIte, reduceCtorEq] at g0 g1 g2
  simp only [SSA, RS, ES, k_impl_noteOk, impl_noteOk, reduceAdd, reduceSub, reduceMul, reduceLeDiff, reduceLT, reduceEqDiff, Nat.reduceBEq, ↓reduceIte, reduceCtorEq]
  repeat' first
    | with_reducible exact Ok_none
    | ((with_reducible refine Ok_ret ?_); first | rfl | simp only [SSA, RS, ES])
    | ((first | with_reducible refine Ok_if (fun h => ?_) (fun h => ?_) | with_reducible refine Ok_call (g0 ..) fun v => ?_ | with_reducible refine Ok_call (g1 ..) fun v => ?_ | with_reducible refine Ok_call (g2 ..) fun v => ?_ | refine Ok_call (g0 ..) fun v => ?_ | refine Ok_call (g1 ..) fun v => ?_ | refine Ok_call (g2 ..) fun v => ?_) <;> simp only [SSA, RS, ES, *, reduceAdd, reduceSub, reduceMul, reduceLeDiff, reduceLT, reduceEqDiff, Nat.reduceBEq, ↓reduceIte, reduceCtorEq])
theorem impl_IsStart_ok : ∀ (n : Int), Ok (impl_IsStart n) e_impl_IsStart (dn FTA n_impl_IsStart [.t (.v (.int .i64 n))]) := by
  intro n
  rw [den_ev FTA (fn := k_impl_IsStart) rfl (xN rfl rfl _) (lB rfl)]
  have g0 := impl_inAny_ok; try simp only [SSA, RS, reduceAdd, reduceSub, reduceMul, reduceLeDiff, reduceLT, reduceEqDiff, Nat.reduceBEq, ↓reduceIte, reduceCtorEq] at g0
  simp only [SSA, RS, ES, k_impl_IsStart, impl_IsStart, reduceAdd, reduceSub, reduceMul, reduceLeDiff, reduceLT, reduceEqDiff, Nat.reduceBEq, ↓reduceIte, reduceCtorEq]
  repeat' first
    | with_reducible exact Ok_none
    | ((with_reducible refine Ok_ret ?_); first | rfl | simp only [SSA, RS, ES])
    | ((first | with_reducible refine Ok_call (g0 ..) fun v => ?_ | refine Ok_call (g0 ..) fun v => ?_ | refine Ok_callq (g0 _ _) (by simp only [SSA, RS, List.map_cons, List.map_nil]) fun v => ?_) <;> simp only [SSA, RS, ES, *, reduceAdd, reduceSub, reduceMul, reduceLeDiff, reduceLT, reduceEqDiff, Nat.reduceBEq, ↓reduceIte, reduceCtorEq])
theorem impl_IsPart_ok : ∀ (n : Int), Ok (impl_IsPart n) e_impl_IsPart (dn FTA n_impl_IsPart [.t (.v (.int .i64 n))]) := by
  intro n
  rw [den_ev FTA (fn := k_impl_IsPart) rfl (xN rfl rfl _) (lB rfl)]
  have g0 := impl_IsStart_ok; have g1 := impl_inAny_ok; try simp only [SSA, RS, reduceAdd, reduceSub, reduceMul, reduceLeDiff, reduceLT, reduceEqDiff, Nat.reduceBEq, ↓reduceIte, reduceCtorEq] at g0 g1
  simp only [SSA, RS, ES, k_impl_IsPart, impl_IsPart, reduceAdd, reduceSub, reduceMul, reduceLeDiff, reduceLT, reduceEqDiff, Nat.reduceBEq, ↓reduceIte, reduceCtorEq]
  repeat' first
    | with_reducible exact Ok_none
    | ((with_reducible refine Ok_ret ?_); first | rfl | simp only [SSA, RS, ES])
    | ((first | with_reducible refine Ok_if (fun h => ?_) (fun h => ?_) | with_reducible refine Ok_call (g0 ..) fun v => ?_ | with_reducible refine Ok_call (g1 ..) fun v => ?_ | refine Ok_call (g0 ..) fun v => ?_ | refine Ok_call (g1 ..) fun v => ?_ | refine Ok_callq (g1 _ _) (by simp only [SSA, RS, List.map_cons, List.map_nil]) fun v => ?_) <;> simp only [SSA, RS, ES, *, reduceAdd, reduceSub, reduceMul, reduceLeDiff, reduceLT, reduceEqDiff, Nat.reduceBEq, ↓reduceIte, reduceCtorEq])
theorem impl_PlainOk_l6_ok (s : ByteArray) : ∀ (at1 : Int), Ok (impl_PlainOk_l6 s at1) e_impl_PlainOk (ev FTA c_impl_PlainOk (.loop k_impl_PlainOk_l6) [.lv 0, .th k_impl_PlainOk_r2] (putS (List.replicate 38 .dead) [(0, .t (.v (.string s))), (3, .t (.v (.int .i64 at1)))]) (putR (List.replicate 38 []) [])) := by
  unfold Ok
  refine impl_PlainOk_l6.partial_correctness s _ ?_
  intro F ih at1
  show Ok _ _ _
  have ih : ∀ (at1 : Int), Ok (F at1) _ _ := ih
  rw [ev_loop]
  have g0 := impl_SignAt_ok; have g1 := impl_IsStart_ok; have g2 := impl_IsPart_ok; have g3 := impl_in_ok; try simp only [SSA, RS, reduceAdd, reduceSub, reduceMul, reduceLeDiff, reduceLT, reduceEqDiff, Nat.reduceBEq, ↓reduceIte, reduceCtorEq] at g0 g1 g2 g3
  simp only [SSA, RS, ES, k_impl_PlainOk_l6, k_impl_PlainOk_r2, reduceAdd, reduceSub, reduceMul, reduceLeDiff, reduceLT, reduceEqDiff, Nat.reduceBEq, ↓reduceIte, reduceCtorEq]
  repeat' first
    | with_reducible exact Ok_none
    | ((with_reducible refine Ok_ret ?_); first | rfl | simp only [SSA, RS, ES])
    | ((with_reducible refine Ok_tail (ih ..) ?_); first | rfl | (simp only [SSA, RS, ES, reduceAdd, reduceSub, reduceMul, reduceLeDiff, reduceLT, reduceEqDiff, Nat.reduceBEq, ↓reduceIte, reduceCtorEq] <;> rfl))
    | ((first | with_reducible refine Ok_if (fun h => ?_) (fun h => ?_) | with_reducible refine Ok_call (g0 ..) fun v => ?_ | with_reducible refine Ok_call (g1 ..) fun v => ?_ | with_reducible refine Ok_call (g2 ..) fun v => ?_ | with_reducible refine Ok_call (g3 ..) fun v => ?_ | refine Ok_call (g0 ..) fun v => ?_ | refine Ok_call (g1 ..) fun v => ?_ | refine Ok_call (g2 ..) fun v => ?_ | refine Ok_call (g3 ..) fun v => ?_) <;> simp only [SSA, RS, ES, *, k_impl_PlainOk_r2, reduceAdd, reduceSub, reduceMul, reduceLeDiff, reduceLT, reduceEqDiff, Nat.reduceBEq, ↓reduceIte, reduceCtorEq])
theorem impl_PlainOk_ok : ∀ (s : ByteArray), Ok (impl_PlainOk s) e_impl_PlainOk (dn FTA n_impl_PlainOk [.t (.v (.string s))]) := by
  intro s
  rw [den_ev FTA (fn := k_impl_PlainOk) rfl (xN rfl rfl _) (lB rfl)]
  simp only [SSA, RS, ES, k_impl_PlainOk, impl_PlainOk, reduceAdd, reduceSub, reduceMul, reduceLeDiff, reduceLT, reduceEqDiff, Nat.reduceBEq, ↓reduceIte, reduceCtorEq]
  repeat' first
    | with_reducible exact Ok_none
    | ((with_reducible refine Ok_ret ?_); first | rfl | simp only [SSA, RS, ES])
    | ((with_reducible refine Ok_tail (impl_PlainOk_l6_ok ..) ?_); first | rfl | (simp only [SSA, RS, ES, reduceAdd, reduceSub, reduceMul, reduceLeDiff, reduceLT, reduceEqDiff, Nat.reduceBEq, ↓reduceIte, reduceCtorEq] <;> rfl))
theorem strings_EqualFold_ok : ∀ (s : ByteArray) (t : ByteArray), Ok (strings_EqualFold s t) e_strings_EqualFold (dn FTA n_strings_EqualFold [.t (.v (.string s)), .t (.v (.string t))]) := by
  intro s t r hr
  exact den_ext FTA.ft (xOf FTA) (x_fold_ok s t (e := e_strings_EqualFold) (fun _ => rfl) hr)
theorem impl_IsBlank_ok : ∀ (n : Int), Ok (impl_IsBlank n) e_impl_IsBlank (dn FTA n_impl_IsBlank [.t (.v (.int .i64 n))]) := by
  intro n
  rw [den_ev FTA (fn := k_impl_IsBlank) rfl (xN rfl rfl _) (lB rfl)]
  simp only [SSA, RS, ES, k_impl_IsBlank, impl_IsBlank, reduceAdd, reduceSub, reduceMul, reduceLeDiff, reduceLT, reduceEqDiff, Nat.reduceBEq, ↓reduceIte, reduceCtorEq]
  repeat' first
    | with_reducible exact Ok_none
    | ((with_reducible refine Ok_ret ?_); first | rfl | simp only [SSA, RS, ES])
    | ((first | with_reducible refine Ok_if (fun h => ?_) (fun h => ?_)) <;> simp only [SSA, RS, ES, *, reduceAdd, reduceSub, reduceMul, reduceLeDiff, reduceLT, reduceEqDiff, Nat.reduceBEq, ↓reduceIte, reduceCtorEq])
theorem impl_toldOk_ok : ∀ (local1 : ByteArray) (s : ByteArray), Ok (impl_toldOk local1 s) e_impl_toldOk (dn FTA n_impl_toldOk [.t (.v (.string local1)), .t (.v (.string s))]) := by
  intro local1 s
  rw [den_ev FTA (fn := k_impl_toldOk) rfl (xN rfl rfl _) (lB rfl)]
  have g0 := impl_PlainOk_ok; have g1 := strings_EqualFold_ok; have g2 := impl_TextOk_ok; have g3 := strings_Contains_ok; have g4 := impl_IsBlank_ok; try simp only [SSA, RS, reduceAdd, reduceSub, reduceMul, reduceLeDiff, reduceLT, reduceEqDiff, Nat.reduceBEq, ↓reduceIte, reduceCtorEq] at g0 g1 g2 g3 g4
  simp only [SSA, RS, ES, k_impl_toldOk, impl_toldOk, reduceAdd, reduceSub, reduceMul, reduceLeDiff, reduceLT, reduceEqDiff, Nat.reduceBEq, ↓reduceIte, reduceCtorEq]
  repeat' first
    | with_reducible exact Ok_none
    | ((with_reducible refine Ok_ret ?_); first | rfl | simp only [SSA, RS, ES])
    | ((first | with_reducible refine Ok_if (fun h => ?_) (fun h => ?_) | with_reducible refine Ok_call (g0 ..) fun v => ?_ | with_reducible refine Ok_call (g1 ..) fun v => ?_ | with_reducible refine Ok_call (g2 ..) fun v => ?_ | with_reducible refine Ok_call (g3 ..) fun v => ?_ | with_reducible refine Ok_call (g4 ..) fun v => ?_ | with_reducible refine Ok_prim (p := atS _ _) fun a h => ?_ | refine Ok_call (g0 ..) fun v => ?_ | refine Ok_call (g1 ..) fun v => ?_ | refine Ok_call (g2 ..) fun v => ?_ | refine Ok_call (g3 ..) fun v => ?_ | refine Ok_call (g4 ..) fun v => ?_) <;> simp only [SSA, RS, ES, *, reduceAdd, reduceSub, reduceMul, reduceLeDiff, reduceLT, reduceEqDiff, Nat.reduceBEq, ↓reduceIte, reduceCtorEq])
theorem impl_leafOk_j2_ok : ∀ (n : GNode), Ok (impl_leafOk_j2 n) e_impl_leafOk (ev FTA c_impl_leafOk k_impl_leafOk_r2 [] (putS (List.replicate 63 .dead) [(1, .ptr (1, 0) [] 0 0 1 0)]) (putR (List.replicate 63 []) [(1, [.mem [[.v (.int .i64 n.Kind), .v (.string n.Pre), .v (.string n.Local), .v (.string n.Uri), .sl false (n.Decls.map GDecl.row), .sl false (n.Attrs.map GAttr.row), .sl false (n.Kids.map (GNode.row false)), .v (.string n.Text)]] 0 false])])) := by
  intro n
  have g0 := impl_TextOk_ok; have g1 := impl_noteOk_ok; have g2 := impl_toldOk_ok; try simp only [SSA, RS, reduceAdd, reduceSub, reduceMul, reduceLeDiff, reduceLT, reduceEqDiff, Nat.reduceBEq, ↓reduceIte, reduceCtorEq] at g0 g1 g2
  simp only [SSA, RS, ES, k_impl_leafOk_r2, impl_leafOk_j2, reduceAdd, reduceSub, reduceMul, reduceLeDiff, reduceLT, reduceEqDiff, Nat.reduceBEq, ↓reduceIte, reduceCtorEq]
  repeat' first
    | with_reducible exact Ok_none
    | ((with_reducible refine Ok_ret ?_); first | rfl | simp only [SSA, RS, ES])
    | ((first | with_reducible refine Ok_if (fun h => ?_) (fun h => ?_) | with_reducible refine Ok_call (g0 ..) fun v => ?_ | with_reducible refine Ok_call (g1 ..) fun v => ?_ | with_reducible refine Ok_call (g2 ..) fun v => ?_ | refine Ok_call (g0 ..) fun v => ?_ | refine Ok_call (g1 ..) fun v => ?_ | refine Ok_call (g2 ..) fun v => ?_) <;> simp only [SSA, RS, ES, *, reduceAdd, reduceSub, reduceMul, reduceLeDiff, reduceLT, reduceEqDiff, Nat.reduceBEq, ↓reduceIte, reduceCtorEq])
theorem impl_leafOk_ok : ∀ (n : GNode), Ok (impl_leafOk n) e_impl_leafOk (dn FTA n_impl_leafOk [.agg (((GNode.row false) n).map .t)]) := by
  intro n
  rw [den_ev FTA (fn := k_impl_leafOk) rfl (xN rfl rfl _) (lB rfl)]
  simp only [SSA, RS, ES, k_impl_leafOk, impl_leafOk, reduceAdd, reduceSub, reduceMul, reduceLeDiff, reduceLT, reduceEqDiff, Nat.reduceBEq, ↓reduceIte, reduceCtorEq]
  repeat' first
    | with_reducible exact Ok_none
    | ((with_reducible refine Ok_ret ?_); first | rfl | simp only [SSA, RS, ES])
    | ((with_reducible refine Ok_tail (impl_leafOk_j2_ok ..) ?_); first | rfl | (simp only [SSA, RS, ES, reduceAdd, reduceSub, reduceMul, reduceLeDiff, reduceLT, reduceEqDiff, Nat.reduceBEq, ↓reduceIte, reduceCtorEq] <;> rfl))
    | ((first | with_reducible refine Ok_if (fun h => ?_) (fun h => ?_)) <;> simp only [SSA, RS, ES, *, reduceAdd, reduceSub, reduceMul, reduceLeDiff, reduceLT, reduceEqDiff, Nat.reduceBEq, ↓reduceIte, reduceCtorEq])
theorem internal_stringslite_HasPrefix_ok : ∀ (s : ByteArray) (prefix1 : ByteArray), Ok (internal_stringslite_HasPrefix s prefix1) e_internal_stringslite_HasPrefix (dn FTA n_internal_stringslite_HasPrefix [.t (.v (.string s)), .t (.v (.string prefix1))]) := by
  intro s prefix1
  rw [den_ev FTA (fn := k_internal_stringslite_HasPrefix) rfl (xN rfl rfl _) (lB rfl)]
  simp only [SSA, RS, ES, k_internal_stringslite_HasPrefix, internal_stringslite_HasPrefix, reduceAdd, reduceSub, reduceMul, reduceLeDiff, reduceLT, reduceEqDiff, Nat.reduceBEq, ↓reduceIte, reduceCtorEq]
  repeat' first
    | with_reducible exact Ok_none
    | ((with_reducible refine Ok_ret ?_); first | rfl | simp only [SSA, RS, ES])
    | ((first | with_reducible refine Ok_if (fun h => ?_) (fun h => ?_) | with_reducible refine Ok_prim (p := subS _ _ _) fun a h => ?_) <;> simp only [SSA, RS, ES, *, reduceAdd, reduceSub, reduceMul, reduceLeDiff, reduceLT, reduceEqDiff, Nat.reduceBEq, ↓reduceIte, reduceCtorEq])
theorem strings_HasPrefix_ok : ∀ (s : ByteArray) (prefix1 : ByteArray), Ok (strings_HasPrefix s prefix1) e_strings_HasPrefix (dn FTA n_strings_HasPrefix [.t (.v (.string s)), .t (.v (.string prefix1))]) := by
  intro s prefix1
  rw [den_ev FTA (fn := k_strings_HasPrefix) rfl (xN rfl rfl _) (lB rfl)]
  have g0 := internal_stringslite_HasPrefix_ok; try simp only [SSA, RS, reduceAdd, reduceSub, reduceMul, reduceLeDiff, reduceLT, reduceEqDiff, Nat.reduceBEq, ↓reduceIte, reduceCtorEq] at g0
  simp only [SSA, RS, ES, k_strings_HasPrefix, strings_HasPrefix, reduceAdd, reduceSub, reduceMul, reduceLeDiff, reduceLT, reduceEqDiff, Nat.reduceBEq, ↓reduceIte, reduceCtorEq]
  repeat' first
    | with_reducible exact Ok_none
    | ((with_reducible refine Ok_ret ?_); first | rfl | simp only [SSA, RS, ES])
    | ((first | with_reducible refine Ok_call (g0 ..) fun v => ?_ | refine Ok_call (g0 ..) fun v => ?_) <;> simp only [SSA, RS, ES, *, reduceAdd, reduceSub, reduceMul, reduceLeDiff, reduceLT, reduceEqDiff, Nat.reduceBEq, ↓reduceIte, reduceCtorEq])
theorem impl_preOk_ok : ∀ (s : ByteArray), Ok (impl_preOk s) e_impl_preOk (dn FTA n_impl_preOk [.t (.v (.string s))]) := by
  intro s
  rw [den_ev FTA (fn := k_impl_preOk) rfl (xN rfl rfl _) (lB rfl)]
  have g0 := impl_PlainOk_ok; have g1 := strings_HasPrefix_ok; try simp only [SSA, RS, reduceAdd, reduceSub, reduceMul, reduceLeDiff, reduceLT, reduceEqDiff, Nat.reduceBEq, ↓reduceIte, reduceCtorEq] at g0 g1
  simp only [SSA, RS, ES, k_impl_preOk, impl_preOk, reduceAdd, reduceSub, reduceMul, reduceLeDiff, reduceLT, reduceEqDiff, Nat.reduceBEq, ↓reduceIte, reduceCtorEq]
  repeat' first
    | with_reducible exact Ok_none
    | ((with_reducible refine Ok_ret ?_); first | rfl | simp only [SSA, RS, ES])
    | ((first | with_reducible refine Ok_if (fun h => ?_) (fun h => ?_) | with_reducible refine Ok_call (g0 ..) fun v => ?_ | with_reducible refine Ok_call (g1 ..) fun v => ?_ | refine Ok_call (g0 ..) fun v => ?_ | refine Ok_call (g1 ..) fun v => ?_) <;> simp only [SSA, RS, ES, *, reduceAdd, reduceSub, reduceMul, reduceLeDiff, reduceLT, reduceEqDiff, Nat.reduceBEq, ↓reduceIte, reduceCtorEq])
theorem impl_uriOk_ok : ∀ (uri : ByteArray) (pre : ByteArray), Ok (impl_uriOk uri pre) e_impl_uriOk (dn FTA n_impl_uriOk [.t (.v (.string uri)), .t (.v (.string pre))]) := by
  intro uri pre
  rw [den_ev FTA (fn := k_impl_uriOk) rfl (xN rfl rfl _) (lB rfl)]
  have g0 := impl_TextOk_ok; try simp only [SSA, RS, reduceAdd, reduceSub, reduceMul, reduceLeDiff, reduceLT, reduceEqDiff, Nat.reduceBEq, ↓reduceIte, reduceCtorEq] at g0
  simp only [SSA, RS, ES, k_impl_uriOk, impl_uriOk, reduceAdd, reduceSub, reduceMul, reduceLeDiff, reduceLT, reduceEqDiff, Nat.reduceBEq, ↓reduceIte, reduceCtorEq]
  repeat' first
    | with_reducible exact Ok_none
    | ((with_reducible refine Ok_ret ?_); first | rfl | simp only [SSA, RS, ES])
    | ((first | with_reducible refine Ok_if (fun h => ?_) (fun h => ?_) | with_reducible refine Ok_call (g0 ..) fun v => ?_ | refine Ok_call (g0 ..) fun v => ?_) <;> simp only [SSA, RS, ES, *, reduceAdd, reduceSub, reduceMul, reduceLeDiff, reduceLT, reduceEqDiff, Nat.reduceBEq, ↓reduceIte, reduceCtorEq])
theorem impl_DeclOk_ok : ∀ (d : GDecl), Ok (impl_DeclOk d) e_impl_DeclOk (dn FTA n_impl_DeclOk [.agg ((GDecl.row d).map .t)]) := by
  intro d
  rw [den_ev FTA (fn := k_impl_DeclOk) rfl (xN rfl rfl _) (lB rfl)]
  have g0 := impl_preOk_ok; have g1 := impl_uriOk_ok; try simp only [SSA, RS, reduceAdd, reduceSub, reduceMul, reduceLeDiff, reduceLT, reduceEqDiff, Nat.reduceBEq, ↓reduceIte, reduceCtorEq] at g0 g1
  simp only [SSA, RS, ES, k_impl_DeclOk, impl_DeclOk, reduceAdd, reduceSub, reduceMul, reduceLeDiff, reduceLT, reduceEqDiff, Nat.reduceBEq, ↓reduceIte, reduceCtorEq]
  repeat' first
    | with_reducible exact Ok_none
    | ((with_reducible refine Ok_ret ?_); first | rfl | simp only [SSA, RS, ES])
    | ((first | with_reducible refine Ok_if (fun h => ?_) (fun h => ?_) | with_reducible refine Ok_call (g0 ..) fun v => ?_ | with_reducible refine Ok_call (g1 ..) fun v => ?_ | refine Ok_call (g0 ..) fun v => ?_ | refine Ok_call (g1 ..) fun v => ?_) <;> simp only [SSA, RS, ES, *, reduceAdd, reduceSub, reduceMul, reduceLeDiff, reduceLT, reduceEqDiff, Nat.reduceBEq, ↓reduceIte, reduceCtorEq])
theorem impl_DeclsOk_l6_ok (l : List GDecl) : ∀ (x2 : Int), Ok (impl_DeclsOk_l6 l x2) e_impl_DeclsOk (ev FTA c_impl_DeclsOk (.loop k_impl_DeclsOk_l6) [.lv 0, .th k_impl_DeclsOk_r2] (putS (List.replicate 34 .dead) [(0, .t (.sl false (l.map GDecl.row))), (5, .t (.sl false (l.map GDecl.row))), (6, .t (.v (.int .i64 (lenL l)))), (7, .t (.v (.int .i64 x2)))]) (putR (List.replicate 34 []) [])) := by
  unfold Ok
  refine impl_DeclsOk_l6.partial_correctness l _ ?_
  intro F ih x2
  show Ok _ _ _
  have ih : ∀ (x2 : Int), Ok (F x2) _ _ := ih
  rw [ev_loop]
  have g0 := impl_DeclOk_ok; try simp only [SSA, RS, reduceAdd, reduceSub, reduceMul, reduceLeDiff, reduceLT, reduceEqDiff, Nat.reduceBEq, ↓reduceIte, reduceCtorEq] at g0
  simp only [SSA, RS, ES, k_impl_DeclsOk_l6, k_impl_DeclsOk_r2, reduceAdd, reduceSub, reduceMul, reduceLeDiff, reduceLT, reduceEqDiff, Nat.reduceBEq, ↓reduceIte, reduceCtorEq]
  repeat' first
    | with_reducible exact Ok_none
    | ((with_reducible refine Ok_ret ?_); first | rfl | simp only [SSA, RS, ES])
    | ((with_reducible refine Ok_tail (ih ..) ?_); first | rfl | (simp only [SSA, RS, ES, reduceAdd, reduceSub, reduceMul, reduceLeDiff, reduceLT, reduceEqDiff, Nat.reduceBEq, ↓reduceIte, reduceCtorEq] <;> rfl))
    | ((first | with_reducible refine Ok_if (fun h => ?_) (fun h => ?_) | with_reducible refine Ok_get fun a h => ?_ | with_reducible refine Ok_call (g0 ..) fun v => ?_ | refine Ok_call (g0 ..) fun v => ?_) <;> simp only [SSA, RS, ES, *, k_impl_DeclsOk_r2, reduceAdd, reduceSub, reduceMul, reduceLeDiff, reduceLT, reduceEqDiff, Nat.reduceBEq, ↓reduceIte, reduceCtorEq])
theorem impl_DeclsOk_ok : ∀ (l : List GDecl), Ok (impl_DeclsOk l) e_impl_DeclsOk (dn FTA n_impl_DeclsOk [.t (.sl false (l.map GDecl.row))]) := by
  intro l
  rw [den_ev FTA (fn := k_impl_DeclsOk) rfl (xN rfl rfl _) (lB rfl)]
  simp only [SSA, RS, ES, k_impl_DeclsOk, impl_DeclsOk, reduceAdd, reduceSub, reduceMul, reduceLeDiff, reduceLT, reduceEqDiff, Nat.reduceBEq, ↓reduceIte, reduceCtorEq]
  repeat' first
    | with_reducible exact Ok_none
    | ((with_reducible refine Ok_ret ?_); first | rfl | simp only [SSA, RS, ES])
    | ((with_reducible refine Ok_tail (impl_DeclsOk_l6_ok ..) ?_); first | rfl | (simp only [SSA, RS, ES, reduceAdd, reduceSub, reduceMul, reduceLeDiff, reduceLT, reduceEqDiff, Nat.reduceBEq, ↓reduceIte, reduceCtorEq] <;> rfl))
theorem impl_attrOk_ok : ∀ (a : GAttr), Ok (impl_attrOk a) e_impl_attrOk (dn FTA n_impl_attrOk [.agg ((GAttr.row a).map .t)]) := by
  intro a
  rw [den_ev FTA (fn := k_impl_attrOk) rfl (xN rfl rfl _) (lB rfl)]
  have g0 := impl_preOk_ok; have g1 := impl_uriOk_ok; have g2 := impl_PlainOk_ok; have g3 := impl_TextOk_ok; try simp only [SSA, RS, reduceAdd, reduceSub, reduceMul, reduceLeDiff, reduceLT, reduceEqDiff, Nat.reduceBEq, ↓reduceIte, reduceCtorEq] at g0 g1 g2 g3
  simp only [SSA, RS, ES, k_impl_attrOk, impl_attrOk, reduceAdd, reduceSub, reduceMul, reduceLeDiff, reduceLT, reduceEqDiff, Nat.reduceBEq, ↓reduceIte, reduceCtorEq]
  repeat' first
    | with_reducible exact Ok_none
    | ((with_reducible refine Ok_ret ?_); first | rfl | simp only [SSA, RS, ES])
    | ((first | with_reducible refine Ok_if (fun h => ?_) (fun h => ?_) | with_reducible refine Ok_call (g0 ..) fun v => ?_ | with_reducible refine Ok_call (g1 ..) fun v => ?_ | with_reducible refine Ok_call (g2 ..) fun v => ?_ | with_reducible refine Ok_call (g3 ..) fun v => ?_ | refine Ok_call (g0 ..) fun v => ?_ | refine Ok_call (g1 ..) fun v => ?_ | refine Ok_call (g2 ..) fun v => ?_ | refine Ok_call (g3 ..) fun v => ?_) <;> simp only [SSA, RS, ES, *, reduceAdd, reduceSub, reduceMul, reduceLeDiff, reduceLT, reduceEqDiff, Nat.reduceBEq, ↓reduceIte, reduceCtorEq])
theorem strings_Compare_ok : ∀ (s : ByteArray) (t : ByteArray), Ok (strings_Compare s t) e_strings_Compare (dn FTA n_strings_Compare [.t (.v (.string s)), .t (.v (.string t))]) := by
  intro s t r hr
  exact den_ext FTA.ft (xOf FTA) (x_compare_ok s t (e := e_strings_Compare) (fun _ => rfl) hr)
theorem impl_compareAttrs_ok : ∀ (a : GAttr) (b : GAttr), Ok (impl_compareAttrs a b) e_impl_compareAttrs (dn FTA n_impl_compareAttrs [.agg ((GAttr.row a).map .t), .agg ((GAttr.row b).map .t)]) := by
  intro a b
  rw [den_ev FTA (fn := k_impl_compareAttrs) rfl (xN rfl rfl _) (lB rfl)]
  have g0 := strings_Compare_ok; try simp only [SSA, RS, reduceAdd, reduceSub, reduceMul, reduceLeDiff, reduceLT, reduceEqDiff, Nat.reduceBEq, ↓reduceIte, reduceCtorEq] at g0
  simp only [SSA, RS, ES, k_impl_compareAttrs, impl_compareAttrs, reduceAdd, reduceSub, reduceMul, reduceLeDiff, reduceLT, reduceEqDiff, Nat.reduceBEq, ↓reduceIte, reduceCtorEq]
  repeat' first
    | with_reducible exact Ok_none
    | ((with_reducible refine Ok_ret ?_); first | rfl | simp only [SSA, RS, ES])
    | ((first | with_reducible refine Ok_if (fun h => ?_) (fun h => ?_) | with_reducible refine Ok_call (g0 ..) fun v => ?_ | refine Ok_call (g0 ..) fun v => ?_) <;> simp only [SSA, RS, ES, *, reduceAdd, reduceSub, reduceMul, reduceLeDiff, reduceLT, reduceEqDiff, Nat.reduceBEq, ↓reduceIte, reduceCtorEq])
theorem impl_attrsOk_l6_ok (l : List GAttr) : ∀ (x2 : Int), Ok (impl_attrsOk_l6 l x2) e_impl_attrsOk (ev FTA c_impl_attrsOk (.loop k_impl_attrsOk_l6) [.lv 0, .th k_impl_attrsOk_r2] (putS (List.replicate 33 .dead) [(0, .t (.sl false (l.map GAttr.row))), (5, .t (.sl false (l.map GAttr.row))), (6, .t (.v (.int .i64 (lenL l)))), (7, .t (.v (.int .i64 x2)))]) (putR (List.replicate 33 []) [])) := by
  unfold Ok
  refine impl_attrsOk_l6.partial_correctness l _ ?_
  intro F ih x2
  show Ok _ _ _
  have ih : ∀ (x2 : Int), Ok (F x2) _ _ := ih
  rw [ev_loop]
  have g0 := impl_attrOk_ok; have g1 := impl_compareAttrs_ok; try simp only [SSA, RS, reduceAdd, reduceSub, reduceMul, reduceLeDiff, reduceLT, reduceEqDiff, Nat.reduceBEq, ↓reduceIte, reduceCtorEq] at g0 g1
  simp only [SSA, RS, ES, k_impl_attrsOk_l6, k_impl_attrsOk_r2, reduceAdd, reduceSub, reduceMul, reduceLeDiff, reduceLT, reduceEqDiff, Nat.reduceBEq, ↓reduceIte, reduceCtorEq]
  repeat' first
    | with_reducible exact Ok_none
    | ((with_reducible refine Ok_ret ?_); first | rfl | simp only [SSA, RS, ES])
    | ((with_reducible refine Ok_tail (ih ..) ?_); first | rfl | (simp only [SSA, RS, ES, reduceAdd, reduceSub, reduceMul, reduceLeDiff, reduceLT, reduceEqDiff, Nat.reduceBEq, ↓reduceIte, reduceCtorEq] <;> rfl))
    | ((first | with_reducible refine Ok_if (fun h => ?_) (fun h => ?_) | with_reducible refine Ok_get fun a h => ?_ | with_reducible refine Ok_call (g0 ..) fun v => ?_ | with_reducible refine Ok_call (g1 ..) fun v => ?_ | refine Ok_call (g0 ..) fun v => ?_ | refine Ok_call (g1 ..) fun v => ?_) <;> simp only [SSA, RS, ES, *, k_impl_attrsOk_r2, reduceAdd, reduceSub, reduceMul, reduceLeDiff, reduceLT, reduceEqDiff, Nat.reduceBEq, ↓reduceIte, reduceCtorEq])
theorem impl_attrsOk_ok : ∀ (l : List GAttr), Ok (impl_attrsOk l) e_impl_attrsOk (dn FTA n_impl_attrsOk [.t (.sl false (l.map GAttr.row))]) := by
  intro l
  rw [den_ev FTA (fn := k_impl_attrsOk) rfl (xN rfl rfl _) (lB rfl)]
  simp only [SSA, RS, ES, k_impl_attrsOk, impl_attrsOk, reduceAdd, reduceSub, reduceMul, reduceLeDiff, reduceLT, reduceEqDiff, Nat.reduceBEq, ↓reduceIte, reduceCtorEq]
  repeat' first
    | with_reducible exact Ok_none
    | ((with_reducible refine Ok_ret ?_); first | rfl | simp only [SSA, RS, ES])
    | ((with_reducible refine Ok_tail (impl_attrsOk_l6_ok ..) ?_); first | rfl | (simp only [SSA, RS, ES, reduceAdd, reduceSub, reduceMul, reduceLeDiff, reduceLT, reduceEqDiff, Nat.reduceBEq, ↓reduceIte, reduceCtorEq] <;> rfl))
theorem impl_noTwoTexts_l6_ok (l : List GNode) : ∀ (x2 : Int), Ok (impl_noTwoTexts_l6 l x2) e_impl_noTwoTexts (ev FTA c_impl_noTwoTexts (.loop k_impl_noTwoTexts_l6) [.lv 0, .th k_impl_noTwoTexts_r2] (putS (List.replicate 29 .dead) [(0, .t (.sl false (l.map (GNode.row false)))), (5, .t (.sl false (l.map (GNode.row false)))), (6, .t (.v (.int .i64 (lenL l)))), (7, .t (.v (.int .i64 x2)))]) (putR (List.replicate 29 []) [])) := by
  unfold Ok
  refine impl_noTwoTexts_l6.partial_correctness l _ ?_
  intro F ih x2
  show Ok _ _ _
  have ih : ∀ (x2 : Int), Ok (F x2) _ _ := ih
  rw [ev_loop]
  simp only [SSA, RS, ES, k_impl_noTwoTexts_l6, k_impl_noTwoTexts_r2, reduceAdd, reduceSub, reduceMul, reduceLeDiff, reduceLT, reduceEqDiff, Nat.reduceBEq, ↓reduceIte, reduceCtorEq]
  repeat' first
    | with_reducible exact Ok_none
    | ((with_reducible refine Ok_ret ?_); first | rfl | simp only [SSA, RS, ES])
    | ((with_reducible refine Ok_tail (ih ..) ?_); first | rfl | (simp only [SSA, RS, ES, reduceAdd, reduceSub, reduceMul, reduceLeDiff, reduceLT, reduceEqDiff, Nat.reduceBEq, ↓reduceIte, reduceCtorEq] <;> rfl))
    | ((first | with_reducible refine Ok_if (fun h => ?_) (fun h => ?_) | with_reducible refine Ok_get fun a h => ?_) <;> simp only [SSA, RS, ES, *, k_impl_noTwoTexts_r2, reduceAdd, reduceSub, reduceMul, reduceLeDiff, reduceLT, reduceEqDiff, Nat.reduceBEq, ↓reduceIte, reduceCtorEq])
theorem impl_noTwoTexts_ok : ∀ (l : List GNode), Ok (impl_noTwoTexts l) e_impl_noTwoTexts (dn FTA n_impl_noTwoTexts [.t (.sl false (l.map (GNode.row false)))]) := by
  intro l
  rw [den_ev FTA (fn := k_impl_noTwoTexts) rfl (xN rfl rfl _) (lB rfl)]
  simp only [SSA, RS, ES, k_impl_noTwoTexts, impl_noTwoTexts, reduceAdd, reduceSub, reduceMul, reduceLeDiff, reduceLT, reduceEqDiff, Nat.reduceBEq, ↓reduceIte, reduceCtorEq]
  repeat' first
    | with_reducible exact Ok_none
    | ((with_reducible refine Ok_ret ?_); first | rfl | simp only [SSA, RS, ES])
    | ((with_reducible refine Ok_tail (impl_noTwoTexts_l6_ok ..) ?_); first | rfl | (simp only [SSA, RS, ES, reduceAdd, reduceSub, reduceMul, reduceLeDiff, reduceLT, reduceEqDiff, Nat.reduceBEq, ↓reduceIte, reduceCtorEq] <;> rfl))
theorem G_impl_kidsOk : (∀ (n : GNode) (deep : Int), Ok (impl_kidsOk n deep) e_impl_kidsOk (dn FTA n_impl_kidsOk [.agg (((GNode.row false) n).map .t), .t (.v (.int .i64 deep))])) ∧
    (∀ (s : List GNode) (fc0 : Int), Ok (slices_ContainsFunc_Node_kidsOk_1 s fc0) e_slices_ContainsFunc_Node_kidsOk_1 (dn FTA n_slices_ContainsFunc_Node [.t (.sl false (s.map (GNode.row false))), .fn n_impl_kidsOk_1 [.lp [.v (.int .i64 fc0)] 0]])) ∧
    (∀ (s : List GNode) (fc0 : Int), Ok (slices_IndexFunc_Node_kidsOk_1 s fc0) e_slices_IndexFunc_Node_kidsOk_1 (dn FTA n_slices_IndexFunc_Node [.t (.sl false (s.map (GNode.row false))), .fn n_impl_kidsOk_1 [.lp [.v (.int .i64 fc0)] 0]])) ∧
    (∀ (s : List GNode) (x1 : Int) (f : Int), Ok (slices_IndexFunc_Node_kidsOk_1_l6 s x1 f) e_slices_IndexFunc_Node_kidsOk_1 (ev FTA c_slices_IndexFunc_Node_kidsOk_1 (.loop k_slices_IndexFunc_Node_l6) [.lv 0, .th k_slices_IndexFunc_Node_r2] (putS (List.replicate 19 .dead) [(0, .t (.sl false (s.map (GNode.row false)))), (1, .fn n_impl_kidsOk_1 [.ptr (1, 0) [] 0 0 1 0]), (7, .t (.v (.int .i64 (lenL s)))), (8, .t (.v (.int .i64 x1)))]) (putR (List.replicate 19 []) [(1, [.mem [[.v (.int .i64 f)]] 0 true])]))) ∧
    (∀ (k : GNode) (a1 : Int), Ok (impl_kidsOk_1 k a1) e_impl_kidsOk_1 (dn FTA n_impl_kidsOk_1 [.agg (((GNode.row false) k).map .t), .lp [.v (.int .i64 a1)] 0])) ∧
    (∀ (n : GNode) (deep : Int), Ok (impl_partOk n deep) e_impl_partOk (dn FTA n_impl_partOk [.agg (((GNode.row false) n).map .t), .t (.v (.int .i64 deep))])) := by
  unfold Ok
  refine impl_kidsOk.mutual_partial_correctness _ _ _ _ _ _ ?_ ?_ ?_ ?_ ?_ ?_ 
  · intro F1 ih1 n deep
    show Ok _ _ _
    have ih1 : ∀ (s : List GNode) (fc0 : Int), Ok (F1 s fc0) _ _ := ih1
    rw [den_ev FTA (fn := k_impl_kidsOk) rfl (xN rfl rfl _) (lB rfl)]
    have g0 := impl_noTwoTexts_ok; have g1 := ih1; try simp only [SSA, RS, reduceAdd, reduceSub, reduceMul, reduceLeDiff, reduceLT, reduceEqDiff, Nat.reduceBEq, ↓reduceIte, reduceCtorEq] at g0 g1
    simp only [SSA, RS, ES, k_impl_kidsOk, reduceAdd, reduceSub, reduceMul, reduceLeDiff, reduceLT, reduceEqDiff, Nat.reduceBEq, ↓reduceIte, reduceCtorEq]
    repeat' first
      | with_reducible exact Ok_none
      | ((with_reducible refine Ok_ret ?_); first | rfl | simp only [SSA, RS, ES])
      | ((first | with_reducible refine Ok_if (fun h => ?_) (fun h => ?_) | with_reducible refine Ok_call (g0 ..) fun v => ?_ | with_reducible refine Ok_call (g1 ..) fun v => ?_ | refine Ok_call (g0 ..) fun v => ?_ | refine Ok_call (g1 ..) fun v => ?_) <;> simp only [SSA, RS, ES, *, reduceAdd, reduceSub, reduceMul, reduceLeDiff, reduceLT, reduceEqDiff, Nat.reduceBEq, ↓reduceIte, reduceCtorEq])
  · intro F2 ih2 s fc0
    show Ok _ _ _
    have ih2 : ∀ (s : List GNode) (fc0 : Int), Ok (F2 s fc0) _ _ := ih2
    rw [den_ev FTA (fn := k_slices_ContainsFunc_Node) rfl (xN rfl rfl _) (lB rfl)]
    have g0 := ih2; try simp only [SSA, RS, reduceAdd, reduceSub, reduceMul, reduceLeDiff, reduceLT, reduceEqDiff, Nat.reduceBEq, ↓reduceIte, reduceCtorEq] at g0
    simp only [SSA, RS, ES, k_slices_ContainsFunc_Node, reduceAdd, reduceSub, reduceMul, reduceLeDiff, reduceLT, reduceEqDiff, Nat.reduceBEq, ↓reduceIte, reduceCtorEq]
    repeat' first
      | with_reducible exact Ok_none
      | ((with_reducible refine Ok_ret ?_); first | rfl | simp only [SSA, RS, ES])
      | ((first | with_reducible refine Ok_call (g0 ..) fun v => ?_ | refine Ok_call (g0 ..) fun v => ?_) <;> simp only [SSA, RS, ES, *, reduceAdd, reduceSub, reduceMul, reduceLeDiff, reduceLT, reduceEqDiff, Nat.reduceBEq, ↓reduceIte, reduceCtorEq])
  · intro F3 ih3 s fc0
    show Ok _ _ _
    have ih3 : ∀ (s : List GNode) (x1 : Int) (f : Int), Ok (F3 s x1 f) _ _ := ih3
    rw [den_ev FTA (fn := k_slices_IndexFunc_Node) rfl (xN rfl rfl _) (lB rfl)]
    simp only [SSA, RS, ES, k_slices_IndexFunc_Node, reduceAdd, reduceSub, reduceMul, reduceLeDiff, reduceLT, reduceEqDiff, Nat.reduceBEq, ↓reduceIte, reduceCtorEq]
    repeat' first
      | with_reducible exact Ok_none
      | ((with_reducible refine Ok_ret ?_); first | rfl | simp only [SSA, RS, ES])
      | ((with_reducible refine Ok_tail (ih3 ..) ?_); first | rfl | (simp only [SSA, RS, ES, reduceAdd, reduceSub, reduceMul, reduceLeDiff, reduceLT, reduceEqDiff, Nat.reduceBEq, ↓reduceIte, reduceCtorEq] <;> rfl))
  · intro F3 F4 ih3 ih4 s x1 f
    show Ok _ _ _
    have ih4 : ∀ (k : GNode) (a1 : Int), Ok (F4 k a1) _ _ := ih4
    have ih3 : ∀ (s : List GNode) (x1 : Int) (f : Int), Ok (F3 s x1 f) _ _ := ih3
    rw [ev_loop]
    have g0 := ih4; try simp only [SSA, RS, reduceAdd, reduceSub, reduceMul, reduceLeDiff, reduceLT, reduceEqDiff, Nat.reduceBEq, ↓reduceIte, reduceCtorEq] at g0
    simp only [SSA, RS, ES, k_slices_IndexFunc_Node_l6, k_slices_IndexFunc_Node_r2, reduceAdd, reduceSub, reduceMul, reduceLeDiff, reduceLT, reduceEqDiff, Nat.reduceBEq, ↓reduceIte, reduceCtorEq]
    repeat' first
      | with_reducible exact Ok_none
      | ((with_reducible refine Ok_ret ?_); first | rfl | simp only [SSA, RS, ES])
      | ((with_reducible refine Ok_tail (ih3 ..) ?_); first | rfl | (simp only [SSA, RS, ES, reduceAdd, reduceSub, reduceMul, reduceLeDiff, reduceLT, reduceEqDiff, Nat.reduceBEq, ↓reduceIte, reduceCtorEq] <;> rfl))
      | ((first | with_reducible refine Ok_if (fun h => ?_) (fun h => ?_) | with_reducible refine Ok_get fun a h => ?_ | with_reducible refine Ok_call (g0 ..) fun v => ?_ | refine Ok_call (g0 ..) fun v => ?_) <;> simp only [SSA, RS, ES, *, k_slices_IndexFunc_Node_r2, reduceAdd, reduceSub, reduceMul, reduceLeDiff, reduceLT, reduceEqDiff, Nat.reduceBEq, ↓reduceIte, reduceCtorEq])
  · intro F5 ih5 k a1
    show Ok _ _ _
    have ih5 : ∀ (n : GNode) (deep : Int), Ok (F5 n deep) _ _ := ih5
    rw [den_ev FTA (fn := k_impl_kidsOk_1) rfl (xN rfl rfl _) (lB rfl)]
    have g0 := ih5; try simp only [SSA, RS, reduceAdd, reduceSub, reduceMul, reduceLeDiff, reduceLT, reduceEqDiff, Nat.reduceBEq, ↓reduceIte, reduceCtorEq] at g0
    simp only [SSA, RS, ES, k_impl_kidsOk_1, reduceAdd, reduceSub, reduceMul, reduceLeDiff, reduceLT, reduceEqDiff, Nat.reduceBEq, ↓reduceIte, reduceCtorEq]
    repeat' first
      | with_reducible exact Ok_none
      | ((with_reducible refine Ok_ret ?_); first | rfl | simp only [SSA, RS, ES])
      | ((first | with_reducible refine Ok_call (g0 ..) fun v => ?_ | refine Ok_call (g0 ..) fun v => ?_) <;> simp only [SSA, RS, ES, *, reduceAdd, reduceSub, reduceMul, reduceLeDiff, reduceLT, reduceEqDiff, Nat.reduceBEq, ↓reduceIte, reduceCtorEq])
  · intro F0 ih0 n deep
    show Ok _ _ _
    have ih0 : ∀ (n : GNode) (deep : Int), Ok (F0 n deep) _ _ := ih0
    rw [den_ev FTA (fn := k_impl_partOk) rfl (xN rfl rfl _) (lB rfl)]
    have g0 := impl_leafOk_ok; have g1 := impl_preOk_ok; have g2 := impl_uriOk_ok; have g3 := impl_PlainOk_ok; have g4 := impl_DeclsOk_ok; have g5 := impl_attrsOk_ok; have g6 := ih0; try simp only [SSA, RS, reduceAdd, reduceSub, reduceMul, reduceLeDiff, reduceLT, reduceEqDiff, Nat.reduceBEq, ↓reduceIte, reduceCtorEq] at g0 g1 g2 g3 g4 g5 g6
    simp only [SSA, RS, ES, k_impl_partOk, reduceAdd, reduceSub, reduceMul, reduceLeDiff, reduceLT, reduceEqDiff, Nat.reduceBEq, ↓reduceIte, reduceCtorEq]
    repeat' first
      | with_reducible exact Ok_none
      | ((with_reducible refine Ok_ret ?_); first | rfl | simp only [SSA, RS, ES])
      | ((first | with_reducible refine Ok_if (fun h => ?_) (fun h => ?_) | with_reducible refine Ok_call (g0 ..) fun v => ?_ | with_reducible refine Ok_call (g1 ..) fun v => ?_ | with_reducible refine Ok_call (g2 ..) fun v => ?_ | with_reducible refine Ok_call (g3 ..) fun v => ?_ | with_reducible refine Ok_call (g4 ..) fun v => ?_ | with_reducible refine Ok_call (g5 ..) fun v => ?_ | with_reducible refine Ok_call (g6 ..) fun v => ?_ | refine Ok_call (g0 ..) fun v => ?_ | refine Ok_call (g1 ..) fun v => ?_ | refine Ok_call (g2 ..) fun v => ?_ | refine Ok_call (g3 ..) fun v => ?_ | refine Ok_call (g4 ..) fun v => ?_ | refine Ok_call (g5 ..) fun v => ?_ | refine Ok_call (g6 ..) fun v => ?_) <;> simp only [SSA, RS, ES, *, reduceAdd, reduceSub, reduceMul, reduceLeDiff, reduceLT, reduceEqDiff, Nat.reduceBEq, ↓reduceIte, reduceCtorEq])
theorem impl_kidsOk_ok (n : GNode) (deep : Int) : Ok (impl_kidsOk n deep) e_impl_kidsOk (dn FTA n_impl_kidsOk [.agg (((GNode.row false) n).map .t), .t (.v (.int .i64 deep))]) := G_impl_kidsOk.1 n deep
theorem impl_partOk_ok (n : GNode) (deep : Int) : Ok (impl_partOk n deep) e_impl_partOk (dn FTA n_impl_partOk [.agg (((GNode.row false) n).map .t), .t (.v (.int .i64 deep))]) := G_impl_kidsOk.2.2.2.2.2 n deep
theorem impl_ofKind_l8_ok (kind : Int) (l : List GNode) : ∀ (n : Int) (x1 : Int), Ok (impl_ofKind_l8 kind n l x1) e_impl_ofKind (ev FTA c_impl_ofKind (.loop k_impl_ofKind_l8) [.lv 0, .th k_impl_ofKind_r4] (putS (List.replicate 22 .dead) [(1, .t (.v (.int .i64 kind))), (5, .t (.v (.int .i64 n))), (8, .t (.sl false (l.map (GNode.row false)))), (9, .t (.v (.int .i64 (lenL l)))), (10, .t (.v (.int .i64 x1)))]) (putR (List.replicate 22 []) [])) := by
  unfold Ok
  refine impl_ofKind_l8.partial_correctness kind l _ ?_
  intro F ih n x1
  show Ok _ _ _
  have ih : ∀ (n : Int) (x1 : Int), Ok (F n x1) _ _ := ih
  rw [ev_loop]
  simp only [SSA, RS, ES, k_impl_ofKind_l8, k_impl_ofKind_r4, reduceAdd, reduceSub, reduceMul, reduceLeDiff, reduceLT, reduceEqDiff, Nat.reduceBEq, ↓reduceIte, reduceCtorEq]
  repeat' first
    | with_reducible exact Ok_none
    | ((with_reducible refine Ok_ret ?_); first | rfl | simp only [SSA, RS, ES])
    | ((with_reducible refine Ok_tail (ih ..) ?_); first | rfl | (simp only [SSA, RS, ES, reduceAdd, reduceSub, reduceMul, reduceLeDiff, reduceLT, reduceEqDiff, Nat.reduceBEq, ↓reduceIte, reduceCtorEq] <;> rfl))
    | ((first | with_reducible refine Ok_if (fun h => ?_) (fun h => ?_) | with_reducible refine Ok_get fun a h => ?_) <;> simp only [SSA, RS, ES, *, k_impl_ofKind_r4, reduceAdd, reduceSub, reduceMul, reduceLeDiff, reduceLT, reduceEqDiff, Nat.reduceBEq, ↓reduceIte, reduceCtorEq])
theorem impl_ofKind_ok : ∀ (l : List GNode) (kind : Int), Ok (impl_ofKind l kind) e_impl_ofKind (dn FTA n_impl_ofKind [.t (.sl false (l.map (GNode.row false))), .t (.v (.int .i64 kind))]) := by
  intro l kind
  rw [den_ev FTA (fn := k_impl_ofKind) rfl (xN rfl rfl _) (lB rfl)]
  simp only [SSA, RS, ES, k_impl_ofKind, impl_ofKind, reduceAdd, reduceSub, reduceMul, reduceLeDiff, reduceLT, reduceEqDiff, Nat.reduceBEq, ↓reduceIte, reduceCtorEq]
  repeat' first
    | with_reducible exact Ok_none
    | ((with_reducible refine Ok_ret ?_); first | rfl | simp only [SSA, RS, ES])
    | ((with_reducible refine Ok_tail (impl_ofKind_l8_ok ..) ?_); first | rfl | (simp only [SSA, RS, ES, reduceAdd, reduceSub, reduceMul, reduceLeDiff, reduceLT, reduceEqDiff, Nat.reduceBEq, ↓reduceIte, reduceCtorEq] <;> rfl))
theorem impl_NodeOk_j18_ok : ∀ (bare : Bool) (n : GNode), Ok (impl_NodeOk_j18 bare n) e_impl_NodeOk (ev FTA c_impl_NodeOk k_impl_NodeOk_r18 [] (putS (List.replicate 59 .dead) [(1, .ptr (1, 0) [] 0 0 1 0), (3, .t (.v (.bool bare)))]) (putR (List.replicate 59 []) [(1, [.mem [[.v (.int .i64 n.Kind), .v (.string n.Pre), .v (.string n.Local), .v (.string n.Uri), .sl false (n.Decls.map GDecl.row), .sl false (n.Attrs.map GAttr.row), .sl false (n.Kids.map (GNode.row false)), .v (.string n.Text)]] 0 false])])) := by
  intro bare n
  have g0 := impl_ofKind_ok; have g1 := impl_kidsOk_ok; try simp only [SSA, RS, reduceAdd, reduceSub, reduceMul, reduceLeDiff, reduceLT, reduceEqDiff, Nat.reduceBEq, ↓reduceIte, reduceCtorEq] at g0 g1
  simp only [SSA, RS, ES, k_impl_NodeOk_r18, impl_NodeOk_j18, reduceAdd, reduceSub, reduceMul, reduceLeDiff, reduceLT, reduceEqDiff, Nat.reduceBEq, ↓reduceIte, reduceCtorEq]
  repeat' first
    | with_reducible exact Ok_none
    | ((with_reducible refine Ok_ret ?_); first | rfl | simp only [SSA, RS, ES])
    | ((first | with_reducible refine Ok_if (fun h => ?_) (fun h => ?_) | with_reducible refine Ok_call (g0 ..) fun v => ?_ | with_reducible refine Ok_call (g1 ..) fun v => ?_ | refine Ok_call (g0 ..) fun v => ?_ | refine Ok_call (g1 ..) fun v => ?_) <;> simp only [SSA, RS, ES, *, reduceAdd, reduceSub, reduceMul, reduceLeDiff, reduceLT, reduceEqDiff, Nat.reduceBEq, ↓reduceIte, reduceCtorEq])
theorem impl_NodeOk_ok : ∀ (n : GNode), Ok (impl_NodeOk n) e_impl_NodeOk (dn FTA n_impl_NodeOk [.agg (((GNode.row false) n).map .t)]) := by
  intro n
  rw [den_ev FTA (fn := k_impl_NodeOk) rfl (xN rfl rfl _) (lB rfl)]
  have g0 := impl_CountOf_ok; have g1 := impl_partOk_ok; try simp only [SSA, RS, reduceAdd, reduceSub, reduceMul, reduceLeDiff, reduceLT, reduceEqDiff, Nat.reduceBEq, ↓reduceIte, reduceCtorEq] at g0 g1
  simp only [SSA, RS, ES, k_impl_NodeOk, impl_NodeOk, reduceAdd, reduceSub, reduceMul, reduceLeDiff, reduceLT, reduceEqDiff, Nat.reduceBEq, ↓reduceIte, reduceCtorEq]
  repeat' first
    | with_reducible exact Ok_none
    | ((with_reducible refine Ok_ret ?_); first | rfl | simp only [SSA, RS, ES])
    | ((with_reducible refine Ok_tail (impl_NodeOk_j18_ok ..) ?_); first | rfl | (simp only [SSA, RS, ES, reduceAdd, reduceSub, reduceMul, reduceLeDiff, reduceLT, reduceEqDiff, Nat.reduceBEq, ↓reduceIte, reduceCtorEq] <;> rfl))
    | ((first | with_reducible refine Ok_if (fun h => ?_) (fun h => ?_) | with_reducible refine Ok_call (g0 ..) fun v => ?_ | with_reducible refine Ok_call (g1 ..) fun v => ?_ | refine Ok_call (g0 ..) fun v => ?_ | refine Ok_call (g1 ..) fun v => ?_) <;> simp only [SSA, RS, ES, *, reduceAdd, reduceSub, reduceMul, reduceLeDiff, reduceLT, reduceEqDiff, Nat.reduceBEq, ↓reduceIte, reduceCtorEq])
theorem impl_FitsIn_ok : ∀ (n : GNode) (l : List (GDecl)), Ok (impl_FitsIn n l) e_impl_FitsIn (dn FTA n_impl_FitsIn [.agg (((GNode.row false) n).map .t), .t (.sl false (l.map GDecl.row))]) := by
  intro n l r hr
  refine den_ext FTA.ft (xOf FTA) ?_
  have hp : ∀ k : List (GDecl), pairsOf (k.map GDecl.row) = some (k.map fun x => (x.Pre, x.Uri)) := fun k => by
    induction k with
    | nil => rfl
    | cons x k ih => show (pairsOf (k.map GDecl.row)).map _ = _; rw [ih]; rfl
  show x_fits [.agg (((GNode.row false) n).map .t), .t (.sl false (l.map GDecl.row))] = some ⟨[.t (.v (.bool r))], []⟩
  have hr' : fitsR ((GNode.row false) n) (l.map fun x => (x.Pre, x.Uri)) = some r := hr
  rw [x_fits, argTs_map, hp]
  simp only [hr', Option.map_some]
theorem impl_TreeOk_ok : ∀ (n : GNode), Ok (impl_TreeOk n) e_impl_TreeOk (dn FTA n_impl_TreeOk [.agg (((GNode.row false) n).map .t)]) := by
  intro n
  rw [den_ev FTA (fn := k_impl_TreeOk) rfl (xN rfl rfl _) (lB rfl)]
  have g0 := impl_NodeOk_ok; have g1 := impl_FitsIn_ok; try simp only [SSA, RS, reduceAdd, reduceSub, reduceMul, reduceLeDiff, reduceLT, reduceEqDiff, Nat.reduceBEq, ↓reduceIte, reduceCtorEq] at g0 g1
  simp only [SSA, RS, ES, k_impl_TreeOk, impl_TreeOk, reduceAdd, reduceSub, reduceMul, reduceLeDiff, reduceLT, reduceEqDiff, Nat.reduceBEq, ↓reduceIte, reduceCtorEq]
  repeat' first
    | with_reducible exact Ok_none
    | ((with_reducible refine Ok_ret ?_); first | rfl | simp only [SSA, RS, ES])
    | ((first | with_reducible refine Ok_if (fun h => ?_) (fun h => ?_) | with_reducible refine Ok_call (g0 ..) fun v => ?_ | with_reducible refine Ok_call (g1 ..) fun v => ?_ | refine Ok_call (g0 ..) fun v => ?_ | refine Ok_call (g1 ..) fun v => ?_) <;> simp only [SSA, RS, ES, *, reduceAdd, reduceSub, reduceMul, reduceLeDiff, reduceLT, reduceEqDiff, Nat.reduceBEq, ↓reduceIte, reduceCtorEq])
theorem impl_WalkOk_ok : ∀ (w : GWalk), Ok (impl_WalkOk w) e_impl_WalkOk (dn FTA n_impl_WalkOk [.agg (((GWalk.row false) w).map .t)]) := by
  intro w
  rw [den_ev FTA (fn := k_impl_WalkOk) rfl (xN rfl rfl _) (lB rfl)]
  have g0 := impl_NodeAt_ok; have g1 := impl_TreeOk_ok; try simp only [SSA, RS, reduceAdd, reduceSub, reduceMul, reduceLeDiff, reduceLT, reduceEqDiff, Nat.reduceBEq, ↓reduceIte, reduceCtorEq] at g0 g1
  simp only [SSA, RS, ES, k_impl_WalkOk, impl_WalkOk, reduceAdd, reduceSub, reduceMul, reduceLeDiff, reduceLT, reduceEqDiff, Nat.reduceBEq, ↓reduceIte, reduceCtorEq]
  repeat' first
    | with_reducible exact Ok_none
    | ((with_reducible refine Ok_ret ?_); first | rfl | simp only [SSA, RS, ES])
    | ((first | with_reducible refine Ok_if (fun h => ?_) (fun h => ?_) | with_reducible refine Ok_call (g0 ..) fun v => ?_ | with_reducible refine Ok_call (g1 ..) fun v => ?_ | refine Ok_call (g0 ..) fun v => ?_ | refine Ok_call (g1 ..) fun v => ?_) <;> simp only [SSA, RS, ES, *, reduceAdd, reduceSub, reduceMul, reduceLeDiff, reduceLT, reduceEqDiff, Nat.reduceBEq, ↓reduceIte, reduceCtorEq])
theorem laws_eqDecl_ok : ∀ (a : GDecl) (b : GDecl), Ok (laws_eqDecl a b) e_laws_eqDecl (dn FTA n_laws_eqDecl [.agg ((GDecl.row a).map .t), .agg ((GDecl.row b).map .t)]) := by
  intro a b
  rw [den_ev FTA (fn := k_laws_eqDecl) rfl (xN rfl rfl _) (lB rfl)]
  simp only [SSA, RS, ES, k_laws_eqDecl, laws_eqDecl, reduceAdd, reduceSub, reduceMul, reduceLeDiff, reduceLT, reduceEqDiff, Nat.reduceBEq, ↓reduceIte, reduceCtorEq]
  repeat' first
    | with_reducible exact Ok_none
    | ((with_reducible refine Ok_ret ?_); first | rfl | simp only [SSA, RS, ES])
    | ((first | with_reducible refine Ok_if (fun h => ?_) (fun h => ?_)) <;> simp only [SSA, RS, ES, *, reduceAdd, reduceSub, reduceMul, reduceLeDiff, reduceLT, reduceEqDiff, Nat.reduceBEq, ↓reduceIte, reduceCtorEq])
theorem laws_eqDeclS_l14_ok (a : List GDecl) (b : List GDecl) : ∀ (i : Int), Ok (laws_eqDeclS_l14 a b i) e_laws_eqDeclS (ev FTA c_laws_eqDeclS (.loop k_laws_eqDeclS_l14) [.lv 0, .th k_laws_eqDeclS_r10] (putS (List.replicate 27 .dead) [(0, .t (.sl false (a.map GDecl.row))), (1, .t (.sl false (b.map GDecl.row))), (5, .t (.v (.int .i64 i)))]) (putR (List.replicate 27 []) [])) := by
  unfold Ok
  refine laws_eqDeclS_l14.partial_correctness a b _ ?_
  intro F ih i
  show Ok _ _ _
  have ih : ∀ (i : Int), Ok (F i) _ _ := ih
  rw [ev_loop]
  have g0 := laws_eqDecl_ok; try simp only [SSA, RS, reduceAdd, reduceSub, reduceMul, reduceLeDiff, reduceLT, reduceEqDiff, Nat.reduceBEq, ↓reduceIte, reduceCtorEq] at g0
  simp only [SSA, RS, ES, k_laws_eqDeclS_l14, k_laws_eqDeclS_r10, reduceAdd, reduceSub, reduceMul, reduceLeDiff, reduceLT, reduceEqDiff, Nat.reduceBEq, ↓reduceIte, reduceCtorEq]
  repeat' first
    | with_reducible exact Ok_none
    | ((with_reducible refine Ok_ret ?_); first | rfl | simp only [SSA, RS, ES])
    | ((with_reducible refine Ok_tail (ih ..) ?_); first | rfl | (simp only [SSA, RS, ES, reduceAdd, reduceSub, reduceMul, reduceLeDiff, reduceLT, reduceEqDiff, Nat.reduceBEq, ↓reduceIte, reduceCtorEq] <;> rfl))
    | ((first | with_reducible refine Ok_if (fun h => ?_) (fun h => ?_) | with_reducible refine Ok_get fun a h => ?_ | with_reducible refine Ok_call (g0 ..) fun v => ?_ | refine Ok_call (g0 ..) fun v => ?_) <;> simp only [SSA, RS, ES, *, k_laws_eqDeclS_r10, reduceAdd, reduceSub, reduceMul, reduceLeDiff, reduceLT, reduceEqDiff, Nat.reduceBEq, ↓reduceIte, reduceCtorEq])
theorem laws_eqDeclS_ok : ∀ (a : List GDecl) (b : List GDecl), Ok (laws_eqDeclS a b) e_laws_eqDeclS (dn FTA n_laws_eqDeclS [.t (.sl false (a.map GDecl.row)), .t (.sl false (b.map GDecl.row))]) := by
  intro a b
  rw [den_ev FTA (fn := k_laws_eqDeclS) rfl (xN rfl rfl _) (lB rfl)]
  simp only [SSA, RS, ES, k_laws_eqDeclS, laws_eqDeclS, reduceAdd, reduceSub, reduceMul, reduceLeDiff, reduceLT, reduceEqDiff, Nat.reduceBEq, ↓reduceIte, reduceCtorEq]
  repeat' first
    | with_reducible exact Ok_none
    | ((with_reducible refine Ok_ret ?_); first | rfl | simp only [SSA, RS, ES])
    | ((with_reducible refine Ok_tail (laws_eqDeclS_l14_ok ..) ?_); first | rfl | (simp only [SSA, RS, ES, reduceAdd, reduceSub, reduceMul, reduceLeDiff, reduceLT, reduceEqDiff, Nat.reduceBEq, ↓reduceIte, reduceCtorEq] <;> rfl))
    | ((first | with_reducible refine Ok_if (fun h => ?_) (fun h => ?_)) <;> simp only [SSA, RS, ES, *, reduceAdd, reduceSub, reduceMul, reduceLeDiff, reduceLT, reduceEqDiff, Nat.reduceBEq, ↓reduceIte, reduceCtorEq])
theorem laws_eqAttr_ok : ∀ (a : GAttr) (b : GAttr), Ok (laws_eqAttr a b) e_laws_eqAttr (dn FTA n_laws_eqAttr [.agg ((GAttr.row a).map .t), .agg ((GAttr.row b).map .t)]) := by
  intro a b
  rw [den_ev FTA (fn := k_laws_eqAttr) rfl (xN rfl rfl _) (lB rfl)]
  simp only [SSA, RS, ES, k_laws_eqAttr, laws_eqAttr, reduceAdd, reduceSub, reduceMul, reduceLeDiff, reduceLT, reduceEqDiff, Nat.reduceBEq, ↓reduceIte, reduceCtorEq]
  repeat' first
    | with_reducible exact Ok_none
    | ((with_reducible refine Ok_ret ?_); first | rfl | simp only [SSA, RS, ES])
    | ((first | with_reducible refine Ok_if (fun h => ?_) (fun h => ?_)) <;> simp only [SSA, RS, ES, *, reduceAdd, reduceSub, reduceMul, reduceLeDiff, reduceLT, reduceEqDiff, Nat.reduceBEq, ↓reduceIte, reduceCtorEq])
theorem laws_eqAttrS_l14_ok (a : List GAttr) (b : List GAttr) : ∀ (i : Int), Ok (laws_eqAttrS_l14 a b i) e_laws_eqAttrS (ev FTA c_laws_eqAttrS (.loop k_laws_eqAttrS_l14) [.lv 0, .th k_laws_eqAttrS_r10] (putS (List.replicate 27 .dead) [(0, .t (.sl false (a.map GAttr.row))), (1, .t (.sl false (b.map GAttr.row))), (5, .t (.v (.int .i64 i)))]) (putR (List.replicate 27 []) [])) := by
  unfold Ok
  refine laws_eqAttrS_l14.partial_correctness a b _ ?_
  intro F ih i
  show Ok _ _ _
  have ih : ∀ (i : Int), Ok (F i) _ _ := ih
  rw [ev_loop]
  have g0 := laws_eqAttr_ok; try simp only [SSA, RS, reduceAdd, reduceSub, reduceMul, reduceLeDiff, reduceLT, reduceEqDiff, Nat.reduceBEq, ↓reduceIte, reduceCtorEq] at g0
  simp only [SSA, RS, ES, k_laws_eqAttrS_l14, k_laws_eqAttrS_r10, reduceAdd, reduceSub, reduceMul, reduceLeDiff, reduceLT, reduceEqDiff, Nat.reduceBEq, ↓reduceIte, reduceCtorEq]
  repeat' first
    | with_reducible exact Ok_none
    | ((with_reducible refine Ok_ret ?_); first | rfl | simp only [SSA, RS, ES])
    | ((with_reducible refine Ok_tail (ih ..) ?_); first | rfl | (simp only [SSA, RS, ES, reduceAdd, reduceSub, reduceMul, reduceLeDiff, reduceLT, reduceEqDiff, Nat.reduceBEq, ↓reduceIte, reduceCtorEq] <;> rfl))
    | ((first | with_reducible refine Ok_if (fun h => ?_) (fun h => ?_) | with_reducible refine Ok_get fun a h => ?_ | with_reducible refine Ok_call (g0 ..) fun v => ?_ | refine Ok_call (g0 ..) fun v => ?_) <;> simp only [SSA, RS, ES, *, k_laws_eqAttrS_r10, reduceAdd, reduceSub, reduceMul, reduceLeDiff, reduceLT, reduceEqDiff, Nat.reduceBEq, ↓reduceIte, reduceCtorEq])
theorem laws_eqAttrS_ok : ∀ (a : List GAttr) (b : List GAttr), Ok (laws_eqAttrS a b) e_laws_eqAttrS (dn FTA n_laws_eqAttrS [.t (.sl false (a.map GAttr.row)), .t (.sl false (b.map GAttr.row))]) := by
  intro a b
  rw [den_ev FTA (fn := k_laws_eqAttrS) rfl (xN rfl rfl _) (lB rfl)]
  simp only [SSA, RS, ES, k_laws_eqAttrS, laws_eqAttrS, reduceAdd, reduceSub, reduceMul, reduceLeDiff, reduceLT, reduceEqDiff, Nat.reduceBEq, ↓reduceIte, reduceCtorEq]
  repeat' first
    | with_reducible exact Ok_none
    | ((with_reducible refine Ok_ret ?_); first | rfl | simp only [SSA, RS, ES])
    | ((with_reducible refine Ok_tail (laws_eqAttrS_l14_ok ..) ?_); first | rfl | (simp only [SSA, RS, ES, reduceAdd, reduceSub, reduceMul, reduceLeDiff, reduceLT, reduceEqDiff, Nat.reduceBEq, ↓reduceIte, reduceCtorEq] <;> rfl))
    | ((first | with_reducible refine Ok_if (fun h => ?_) (fun h => ?_)) <;> simp only [SSA, RS, ES, *, reduceAdd, reduceSub, reduceMul, reduceLeDiff, reduceLT, reduceEqDiff, Nat.reduceBEq, ↓reduceIte, reduceCtorEq])
theorem G_laws_eqNode : (∀ (a : GNode) (b : GNode), Ok (laws_eqNode a b) e_laws_eqNode (dn FTA n_laws_eqNode [.agg (((GNode.row false) a).map .t), .agg (((GNode.row false) b).map .t)])) ∧
    (∀ (a : List GNode) (b : List GNode), Ok (laws_eqNodeS a b) e_laws_eqNodeS (dn FTA n_laws_eqNodeS [.t (.sl false (a.map (GNode.row false))), .t (.sl false (b.map (GNode.row false)))])) ∧
    (∀ (a : List GNode) (b : List GNode) (i : Int), Ok (laws_eqNodeS_l14 a b i) e_laws_eqNodeS (ev FTA c_laws_eqNodeS (.loop k_laws_eqNodeS_l14) [.lv 0, .th k_laws_eqNodeS_r10] (putS (List.replicate 27 .dead) [(0, .t (.sl false (a.map (GNode.row false)))), (1, .t (.sl false (b.map (GNode.row false)))), (5, .t (.v (.int .i64 i)))]) (putR (List.replicate 27 []) []))) := by
  unfold Ok
  refine laws_eqNode.mutual_partial_correctness _ _ _ ?_ ?_ ?_ 
  · intro F1 ih1 a b
    show Ok _ _ _
    have ih1 : ∀ (a : List GNode) (b : List GNode), Ok (F1 a b) _ _ := ih1
    rw [den_ev FTA (fn := k_laws_eqNode) rfl (xN rfl rfl _) (lB rfl)]
    have g0 := laws_eqDeclS_ok; have g1 := laws_eqAttrS_ok; have g2 := ih1; try simp only [SSA, RS, reduceAdd, reduceSub, reduceMul, reduceLeDiff, reduceLT, reduceEqDiff, Nat.reduceBEq, ↓reduceIte, reduceCtorEq] at g0 g1 g2
    simp only [SSA, RS, ES, k_laws_eqNode, reduceAdd, reduceSub, reduceMul, reduceLeDiff, reduceLT, reduceEqDiff, Nat.reduceBEq, ↓reduceIte, reduceCtorEq]
    repeat' first
      | with_reducible exact Ok_none
      | ((with_reducible refine Ok_ret ?_); first | rfl | simp only [SSA, RS, ES])
      | ((first | with_reducible refine Ok_if (fun h => ?_) (fun h => ?_) | with_reducible refine Ok_call (g0 ..) fun v => ?_ | with_reducible refine Ok_call (g1 ..) fun v => ?_ | with_reducible refine Ok_call (g2 ..) fun v => ?_ | refine Ok_call (g0 ..) fun v => ?_ | refine Ok_call (g1 ..) fun v => ?_ | refine Ok_call (g2 ..) fun v => ?_) <;> simp only [SSA, RS, ES, *, reduceAdd, reduceSub, reduceMul, reduceLeDiff, reduceLT, reduceEqDiff, Nat.reduceBEq, ↓reduceIte, reduceCtorEq])
  · intro F2 ih2 a b
    show Ok _ _ _
    have ih2 : ∀ (a : List GNode) (b : List GNode) (i : Int), Ok (F2 a b i) _ _ := ih2
    rw [den_ev FTA (fn := k_laws_eqNodeS) rfl (xN rfl rfl _) (lB rfl)]
    simp only [SSA, RS, ES, k_laws_eqNodeS, reduceAdd, reduceSub, reduceMul, reduceLeDiff, reduceLT, reduceEqDiff, Nat.reduceBEq, ↓reduceIte, reduceCtorEq]
    repeat' first
      | with_reducible exact Ok_none
      | ((with_reducible refine Ok_ret ?_); first | rfl | simp only [SSA, RS, ES])
      | ((with_reducible refine Ok_tail (ih2 ..) ?_); first | rfl | (simp only [SSA, RS, ES, reduceAdd, reduceSub, reduceMul, reduceLeDiff, reduceLT, reduceEqDiff, Nat.reduceBEq, ↓reduceIte, reduceCtorEq] <;> rfl))
      | ((first | with_reducible refine Ok_if (fun h => ?_) (fun h => ?_)) <;> simp only [SSA, RS, ES, *, reduceAdd, reduceSub, reduceMul, reduceLeDiff, reduceLT, reduceEqDiff, Nat.reduceBEq, ↓reduceIte, reduceCtorEq])
  · intro F0 F2 ih0 ih2 a b i
    show Ok _ _ _
    have ih0 : ∀ (a : GNode) (b : GNode), Ok (F0 a b) _ _ := ih0
    have ih2 : ∀ (a : List GNode) (b : List GNode) (i : Int), Ok (F2 a b i) _ _ := ih2
    rw [ev_loop]
    have g0 := ih0; try simp only [SSA, RS, reduceAdd, reduceSub, reduceMul, reduceLeDiff, reduceLT, reduceEqDiff, Nat.reduceBEq, ↓reduceIte, reduceCtorEq] at g0
    simp only [SSA, RS, ES, k_laws_eqNodeS_l14, k_laws_eqNodeS_r10, reduceAdd, reduceSub, reduceMul, reduceLeDiff, reduceLT, reduceEqDiff, Nat.reduceBEq, ↓reduceIte, reduceCtorEq]
    repeat' first
      | with_reducible exact Ok_none
      | ((with_reducible refine Ok_ret ?_); first | rfl | simp only [SSA, RS, ES])
      | ((with_reducible refine Ok_tail (ih2 ..) ?_); first | rfl | (simp only [SSA, RS, ES, reduceAdd, reduceSub, reduceMul, reduceLeDiff, reduceLT, reduceEqDiff, Nat.reduceBEq, ↓reduceIte, reduceCtorEq] <;> rfl))
      | ((first | with_reducible refine Ok_if (fun h => ?_) (fun h => ?_) | with_reducible refine Ok_get fun a h => ?_ | with_reducible refine Ok_call (g0 ..) fun v => ?_ | refine Ok_call (g0 ..) fun v => ?_) <;> simp only [SSA, RS, ES, *, k_laws_eqNodeS_r10, reduceAdd, reduceSub, reduceMul, reduceLeDiff, reduceLT, reduceEqDiff, Nat.reduceBEq, ↓reduceIte, reduceCtorEq])
theorem laws_eqNode_ok (a : GNode) (b : GNode) : Ok (laws_eqNode a b) e_laws_eqNode (dn FTA n_laws_eqNode [.agg (((GNode.row false) a).map .t), .agg (((GNode.row false) b).map .t)]) := G_laws_eqNode.1 a b
theorem laws_eqIntS_l14_ok (a : List Int) (b : List Int) : ∀ (i : Int), Ok (laws_eqIntS_l14 a b i) e_laws_eqIntS (ev FTA c_laws_eqIntS (.loop k_laws_eqIntS_l14) [.lv 0, .th k_laws_eqIntS_r10] (putS (List.replicate 26 .dead) [(0, .t (.sl false (a.map rI))), (1, .t (.sl false (b.map rI))), (5, .t (.v (.int .i64 i)))]) (putR (List.replicate 26 []) [])) := by
  unfold Ok
  refine laws_eqIntS_l14.partial_correctness a b _ ?_
  intro F ih i
  show Ok _ _ _
  have ih : ∀ (i : Int), Ok (F i) _ _ := ih
  rw [ev_loop]
  simp only [SSA, RS, ES, k_laws_eqIntS_l14, k_laws_eqIntS_r10, reduceAdd, reduceSub, reduceMul, reduceLeDiff, reduceLT, reduceEqDiff, Nat.reduceBEq, ↓reduceIte, reduceCtorEq]
  repeat' first
    | with_reducible exact Ok_none
    | ((with_reducible refine Ok_ret ?_); first | rfl | simp only [SSA, RS, ES])
    | ((with_reducible refine Ok_tail (ih ..) ?_); first | rfl | (simp only [SSA, RS, ES, reduceAdd, reduceSub, reduceMul, reduceLeDiff, reduceLT, reduceEqDiff, Nat.reduceBEq, ↓reduceIte, reduceCtorEq] <;> rfl))
    | ((first | with_reducible refine Ok_if (fun h => ?_) (fun h => ?_) | with_reducible refine Ok_get fun a h => ?_) <;> simp only [SSA, RS, ES, *, k_laws_eqIntS_r10, reduceAdd, reduceSub, reduceMul, reduceLeDiff, reduceLT, reduceEqDiff, Nat.reduceBEq, ↓reduceIte, reduceCtorEq])
theorem laws_eqIntS_ok : ∀ (a : List Int) (b : List Int), Ok (laws_eqIntS a b) e_laws_eqIntS (dn FTA n_laws_eqIntS [.t (.sl false (a.map rI)), .t (.sl false (b.map rI))]) := by
  intro a b
  rw [den_ev FTA (fn := k_laws_eqIntS) rfl (xN rfl rfl _) (lB rfl)]
  simp only [SSA, RS, ES, k_laws_eqIntS, laws_eqIntS, reduceAdd, reduceSub, reduceMul, reduceLeDiff, reduceLT, reduceEqDiff, Nat.reduceBEq, ↓reduceIte, reduceCtorEq]
  repeat' first
    | with_reducible exact Ok_none
    | ((with_reducible refine Ok_ret ?_); first | rfl | simp only [SSA, RS, ES])
    | ((with_reducible refine Ok_tail (laws_eqIntS_l14_ok ..) ?_); first | rfl | (simp only [SSA, RS, ES, reduceAdd, reduceSub, reduceMul, reduceLeDiff, reduceLT, reduceEqDiff, Nat.reduceBEq, ↓reduceIte, reduceCtorEq] <;> rfl))
    | ((first | with_reducible refine Ok_if (fun h => ?_) (fun h => ?_)) <;> simp only [SSA, RS, ES, *, reduceAdd, reduceSub, reduceMul, reduceLeDiff, reduceLT, reduceEqDiff, Nat.reduceBEq, ↓reduceIte, reduceCtorEq])
theorem laws_eqWalk_ok : ∀ (a : GWalk) (b : GWalk), Ok (laws_eqWalk a b) e_laws_eqWalk (dn FTA n_laws_eqWalk [.agg (((GWalk.row false) a).map .t), .agg (((GWalk.row false) b).map .t)]) := by
  intro a b
  rw [den_ev FTA (fn := k_laws_eqWalk) rfl (xN rfl rfl _) (lB rfl)]
  have g0 := laws_eqNode_ok; have g1 := laws_eqIntS_ok; try simp only [SSA, RS, reduceAdd, reduceSub, reduceMul, reduceLeDiff, reduceLT, reduceEqDiff, Nat.reduceBEq, ↓reduceIte, reduceCtorEq] at g0 g1
  simp only [SSA, RS, ES, k_laws_eqWalk, laws_eqWalk, reduceAdd, reduceSub, reduceMul, reduceLeDiff, reduceLT, reduceEqDiff, Nat.reduceBEq, ↓reduceIte, reduceCtorEq]
  repeat' first
    | with_reducible exact Ok_none
    | ((with_reducible refine Ok_ret ?_); first | rfl | simp only [SSA, RS, ES])
    | ((first | with_reducible refine Ok_if (fun h => ?_) (fun h => ?_) | with_reducible refine Ok_call (g0 ..) fun v => ?_ | with_reducible refine Ok_call (g1 ..) fun v => ?_ | refine Ok_call (g0 ..) fun v => ?_ | refine Ok_call (g1 ..) fun v => ?_) <;> simp only [SSA, RS, ES, *, reduceAdd, reduceSub, reduceMul, reduceLeDiff, reduceLT, reduceEqDiff, Nat.reduceBEq, ↓reduceIte, reduceCtorEq])
theorem laws_FnExactWalkOk_ok : ∀ (aW : GWalk), Ok (laws_FnExactWalkOk aW) e_laws_FnExactWalkOk (dn FTA n_laws_FnExactWalkOk [.agg (((GWalk.row false) aW).map .t)]) := by
  intro aW
  rw [den_ev FTA (fn := k_laws_FnExactWalkOk) rfl (xN rfl rfl _) (lB rfl)]
  have g0 := laws_szWalk_ok; have g1 := laws_toWalk_ok; have g2 := spec_WalkOk_ok; have g3 := impl_WalkOk_ok; have g4 := laws_eqWalk_ok; try simp only [SSA, RS, reduceAdd, reduceSub, reduceMul, reduceLeDiff, reduceLT, reduceEqDiff, Nat.reduceBEq, ↓reduceIte, reduceCtorEq] at g0 g1 g2 g3 g4
  simp only [SSA, RS, ES, k_laws_FnExactWalkOk, laws_FnExactWalkOk, reduceAdd, reduceSub, reduceMul, reduceLeDiff, reduceLT, reduceEqDiff, Nat.reduceBEq, ↓reduceIte, reduceCtorEq]
  repeat' first
    | with_reducible exact Ok_none
    | ((with_reducible refine Ok_ret ?_); first | rfl | simp only [SSA, RS, ES])
    | ((first | with_reducible refine Ok_if (fun h => ?_) (fun h => ?_) | with_reducible refine Ok_call (g0 ..) fun v => ?_ | with_reducible refine Ok_call (g1 ..) fun v => ?_ | with_reducible refine Ok_call (g2 ..) fun v => ?_ | with_reducible refine Ok_call (g3 ..) fun v => ?_ | with_reducible refine Ok_call (g4 ..) fun v => ?_ | refine Ok_call (g0 ..) fun v => ?_ | refine Ok_call (g1 ..) fun v => ?_ | refine Ok_call (g2 ..) fun v => ?_ | refine Ok_call (g3 ..) fun v => ?_ | refine Ok_call (g4 ..) fun v => ?_) <;> simp only [SSA, RS, ES, *, reduceAdd, reduceSub, reduceMul, reduceLeDiff, reduceLT, reduceEqDiff, Nat.reduceBEq, ↓reduceIte, reduceCtorEq])
end TT
