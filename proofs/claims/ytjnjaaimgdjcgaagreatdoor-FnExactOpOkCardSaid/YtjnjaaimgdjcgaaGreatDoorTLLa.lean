import Derived.Test.YtjnjaaimgdjcgaaGreatDoorTKK
import Derived.Test.YtjnjaaimgdjcgaaGreatDoorTDefs
set_option maxHeartbeats 2000000
set_option linter.unusedVariables false
set_option linter.unusedSimpArgs false
set_option linter.defProp false
set_option maxRecDepth 100000
namespace TT
open Go
open Nat (reduceAdd reduceSub reduceMul reduceLeDiff reduceLT reduceEqDiff)
def e_laws_szPred (r : Int) : Res := ⟨[.t (.v (.int .i64 r))], []⟩
def c_laws_szPred : Cx := ⟨2, [0, 0], [.tmp 4]⟩
def e_laws_szPredS (r : Int) : Res := ⟨[.t (.v (.int .i64 r))], []⟩
def c_laws_szPredS : Cx := ⟨2, [0, 0], [.tmp 4]⟩
def e_laws_szStep (r : Int) : Res := ⟨[.t (.v (.int .i64 r))], []⟩
def c_laws_szStep : Cx := ⟨2, [0, 0], [.tmp 4]⟩
def e_laws_szStepS (r : Int) : Res := ⟨[.t (.v (.int .i64 r))], []⟩
def c_laws_szStepS : Cx := ⟨2, [0, 0], [.tmp 4]⟩
def e_laws_szSel (r : Int) : Res := ⟨[.t (.v (.int .i64 r))], []⟩
def c_laws_szSel : Cx := ⟨2, [0, 0], [.tmp 4]⟩
def e_laws_szDecl (r : Int) : Res := ⟨[.t (.v (.int .i64 r))], []⟩
def c_laws_szDecl : Cx := ⟨2, [0, 0], [.tmp 4]⟩
def e_laws_szDeclS (r : Int) : Res := ⟨[.t (.v (.int .i64 r))], []⟩
def c_laws_szDeclS : Cx := ⟨2, [0, 0], [.tmp 4]⟩
def e_laws_szAttr (r : Int) : Res := ⟨[.t (.v (.int .i64 r))], []⟩
def c_laws_szAttr : Cx := ⟨2, [0, 0], [.tmp 4]⟩
def e_laws_szAttrS (r : Int) : Res := ⟨[.t (.v (.int .i64 r))], []⟩
def c_laws_szAttrS : Cx := ⟨2, [0, 0], [.tmp 4]⟩
def e_laws_szNode (r : Int) : Res := ⟨[.t (.v (.int .i64 r))], []⟩
def c_laws_szNode : Cx := ⟨2, [0, 0], [.tmp 4]⟩
def e_laws_szNodeS (r : Int) : Res := ⟨[.t (.v (.int .i64 r))], []⟩
def c_laws_szNodeS : Cx := ⟨2, [0, 0], [.tmp 4]⟩
def e_laws_szOp (r : Int) : Res := ⟨[.t (.v (.int .i64 r))], []⟩
def c_laws_szOp : Cx := ⟨2, [0, 0], [.tmp 4]⟩
def e_laws_toPred (r : GPred) : Res := ⟨[.agg [.v (.int .i64 r.Kind), .v (.int .i64 r.N), .v (.string r.Pre), .v (.string r.Local), .v (.string r.Val)]], []⟩
def c_laws_toPred : Cx := ⟨1, [0], [.cell 2 5 true]⟩
def e_laws_toPredS (r : List GPred) : Res := ⟨[.t (.sl true (r.map GPred.row))], []⟩
def c_laws_toPredS : Cx := ⟨1, [0], [.tmp 2]⟩
def e_laws_toStep (r : GStp) : Res := ⟨[.agg [.v (.bool r.Deep), .v (.int .i64 r.Kind), .v (.string r.Pre), .v (.string r.Local), .sl true (r.Preds.map GPred.row)]], []⟩
def c_laws_toStep : Cx := ⟨1, [0], [.cell 2 5 true]⟩
def e_laws_toStepS (r : List GStp) : Res := ⟨[.t (.sl true (r.map (GStp.row true)))], []⟩
def c_laws_toStepS : Cx := ⟨1, [0], [.tmp 2]⟩
def e_laws_toSel (r : GSel) : Res := ⟨[.agg [.v (.string r.Id), .sl true (r.Steps.map (GStp.row true))]], []⟩
def c_laws_toSel : Cx := ⟨1, [0], [.cell 2 2 true]⟩
def e_laws_toDecl (r : GDecl) : Res := ⟨[.agg [.v (.string r.Pre), .v (.string r.Uri)]], []⟩
def c_laws_toDecl : Cx := ⟨1, [0], [.cell 2 2 true]⟩
def e_laws_toDeclS (r : List GDecl) : Res := ⟨[.t (.sl true (r.map GDecl.row))], []⟩
def c_laws_toDeclS : Cx := ⟨1, [0], [.tmp 2]⟩
def e_laws_toAttr (r : GAttr) : Res := ⟨[.agg [.v (.string r.Pre), .v (.string r.Local), .v (.string r.Uri), .v (.string r.Val)]], []⟩
def c_laws_toAttr : Cx := ⟨1, [0], [.cell 2 4 true]⟩
def e_laws_toAttrS (r : List GAttr) : Res := ⟨[.t (.sl true (r.map GAttr.row))], []⟩
def c_laws_toAttrS : Cx := ⟨1, [0], [.tmp 2]⟩
def e_laws_toNode (r : GNode) : Res := ⟨[.agg [.v (.int .i64 r.Kind), .v (.string r.Pre), .v (.string r.Local), .v (.string r.Uri), .sl true (r.Decls.map GDecl.row), .sl true (r.Attrs.map GAttr.row), .sl true (r.Kids.map (GNode.row true)), .v (.string r.Text)]], []⟩
def c_laws_toNode : Cx := ⟨1, [0], [.cell 2 8 true]⟩
def e_laws_toNodeS (r : List GNode) : Res := ⟨[.t (.sl true (r.map (GNode.row true)))], []⟩
def c_laws_toNodeS : Cx := ⟨1, [0], [.tmp 2]⟩
def e_laws_toOp (r : GOp) : Res := ⟨[.agg [.v (.int .i64 r.Kind), .v (.string r.Sel.Id), .sl true (r.Sel.Steps.map (GStp.row true)), .v (.int .i64 r.Pos), .v (.int .i64 r.Typ), .v (.string r.Pre), .v (.string r.Local), .v (.int .i64 r.Ws), .sl true (r.Kids.map (GNode.row true)), .sl true (r.Decls.map GDecl.row)]], []⟩
def c_laws_toOp : Cx := ⟨1, [0], [.cell 2 10 true]⟩
def e_spec_l1In (r : Bool) : Res := ⟨[.t (.v (.bool r))], []⟩
def c_spec_l1In : Cx := ⟨3, [0, 0, 0], [.tmp 6]⟩
def e_spec_SignAt (r : Int × Int × Bool) : Res := ⟨[.t (.v (.int .i64 r.1)), .t (.v (.int .i64 r.2.1)), .t (.v (.bool r.2.2))], []⟩
def c_spec_SignAt : Cx := ⟨2, [0, 0], [.tmp 4, .tmp 5, .tmp 6]⟩
def e_spec_l1Ranges (r : Bool) : Res := ⟨[.t (.v (.bool r))], []⟩
def c_spec_l1Ranges : Cx := ⟨2, [0, 0], [.tmp 4]⟩
def e_spec_IsStart (r : Bool) : Res := ⟨[.t (.v (.bool r))], []⟩
def c_spec_IsStart : Cx := ⟨1, [0], [.tmp 2]⟩
def e_spec_IsPart (r : Bool) : Res := ⟨[.t (.v (.bool r))], []⟩
def c_spec_IsPart : Cx := ⟨1, [0], [.tmp 2]⟩
def e_spec_PlainOk (r : Bool) : Res := ⟨[.t (.v (.bool r))], []⟩
def c_spec_PlainOk : Cx := ⟨1, [0], [.tmp 2]⟩
def e_spec_SplitName (r : ByteArray × ByteArray × Bool) : Res := ⟨[.t (.v (.string r.1)), .t (.v (.string r.2.1)), .t (.v (.bool r.2.2))], []⟩
def c_spec_SplitName : Cx := ⟨1, [0], [.tmp 2, .tmp 3, .tmp 4]⟩
def e_spec_JoinName (r : ByteArray) : Res := ⟨[.t (.v (.string r))], []⟩
def c_spec_JoinName : Cx := ⟨2, [0, 0], [.tmp 4]⟩
def e_spec_IsSign (r : Bool) : Res := ⟨[.t (.v (.bool r))], []⟩
def c_spec_IsSign : Cx := ⟨1, [0], [.tmp 2]⟩
def e_spec_l1Signs (r : Bool) : Res := ⟨[.t (.v (.bool r))], []⟩
def c_spec_l1Signs : Cx := ⟨1, [0], [.tmp 2]⟩
def e_spec_TextOk (r : Bool) : Res := ⟨[.t (.v (.bool r))], []⟩
def c_spec_TextOk : Cx := ⟨1, [0], [.tmp 2]⟩
def e_spec_l5Has (r : Bool) : Res := ⟨[.t (.v (.bool r))], []⟩
def c_spec_l5Has : Cx := ⟨2, [0, 0], [.tmp 4]⟩
def e_spec_l11Val (r : Bool) : Res := ⟨[.t (.v (.bool r))], []⟩
def c_spec_l11Val : Cx := ⟨1, [0], [.tmp 2]⟩
def e_spec_l11PredOk (r : Bool) : Res := ⟨[.t (.v (.bool r))], []⟩
def c_spec_l11PredOk : Cx := ⟨2, [0, 0], [.tmp 4]⟩
def e_spec_l11StepOk (r : Bool) : Res := ⟨[.t (.v (.bool r))], []⟩
def c_spec_l11StepOk : Cx := ⟨2, [0, 0], [.tmp 4]⟩
def e_spec_SelOk (r : Bool) : Res := ⟨[.t (.v (.bool r))], []⟩
def c_spec_SelOk : Cx := ⟨1, [0], [.tmp 2]⟩
def e_spec_l4Xml (r : Bool) : Res := ⟨[.t (.v (.bool r))], []⟩
def c_spec_l4Xml : Cx := ⟨1, [0], [.tmp 2]⟩
def e_spec_DeclOk (r : Bool) : Res := ⟨[.t (.v (.bool r))], []⟩
def c_spec_DeclOk : Cx := ⟨1, [0], [.tmp 2]⟩
def e_spec_CountOf (r : Int) : Res := ⟨[.t (.v (.int .i64 r))], []⟩
def c_spec_CountOf : Cx := ⟨1, [0], [.tmp 2]⟩
def e_spec_l5Pre (r : Bool) : Res := ⟨[.t (.v (.bool r))], []⟩
def c_spec_l5Pre : Cx := ⟨1, [0], [.tmp 2]⟩
def e_spec_DeclsOk (r : Bool) : Res := ⟨[.t (.v (.bool r))], []⟩
def c_spec_DeclsOk : Cx := ⟨1, [0], [.tmp 2]⟩
def e_spec_l5Bare (r : Bool) : Res := ⟨[.t (.v (.bool r))], []⟩
def c_spec_l5Bare : Cx := ⟨1, [0], [.tmp 2]⟩
def e_spec_l5Xml (r : Bool) : Res := ⟨[.t (.v (.bool r))], []⟩
def c_spec_l5Xml : Cx := ⟨1, [0], [.tmp 2]⟩
def e_spec_IsBlank (r : Bool) : Res := ⟨[.t (.v (.bool r))], []⟩
def c_spec_IsBlank : Cx := ⟨1, [0], [.tmp 2]⟩
def e_spec_l5AttrOk (r : Bool) : Res := ⟨[.t (.v (.bool r))], []⟩
def c_spec_l5AttrOk : Cx := ⟨1, [0], [.tmp 2]⟩
def e_spec_l5Less (r : Bool) : Res := ⟨[.t (.v (.bool r))], []⟩
def c_spec_l5Less : Cx := ⟨2, [0, 0], [.tmp 4]⟩
def e_spec_l5One (r : Bool) : Res := ⟨[.t (.v (.bool r))], []⟩
def c_spec_l5One : Cx := ⟨1, [0], [.tmp 2]⟩
def e_spec_l5Kids (r : Bool) : Res := ⟨[.t (.v (.bool r))], []⟩
def c_spec_l5Kids : Cx := ⟨2, [0, 0], [.tmp 4]⟩
def e_spec_NodeOk (r : Bool) : Res := ⟨[.t (.v (.bool r))], []⟩
def c_spec_NodeOk : Cx := ⟨1, [0], [.tmp 2]⟩
def e_spec_Inner (r : List GDecl) : Res := ⟨[.t (.sl true (r.map GDecl.row))], []⟩
def c_spec_Inner : Cx := ⟨2, [0, 0], [.tmp 4]⟩
def e_spec_SpaceOf (r : ByteArray × Bool) : Res := ⟨[.t (.v (.string r.1)), .t (.v (.bool r.2))], []⟩
def c_spec_SpaceOf : Cx := ⟨2, [0, 0], [.tmp 4, .tmp 5]⟩
def e_spec_FitsIn (r : Bool) : Res := ⟨[.t (.v (.bool r))], []⟩
def c_spec_FitsIn : Cx := ⟨2, [0, 0], [.tmp 4]⟩
def e_spec_OpOk (r : Bool) : Res := ⟨[.t (.v (.bool r))], []⟩
def c_spec_OpOk : Cx := ⟨1, [0], [.tmp 2]⟩
def e_impl_in (r : Bool) : Res := ⟨[.t (.v (.bool r))], []⟩
def c_impl_in : Cx := ⟨3, [0, 0, 0], [.tmp 6]⟩
def e_unicode_utf8_DecodeRuneInString (r : Int × Int) : Res := ⟨[.t (.v (.int .i32 r.1)), .t (.v (.int .i64 r.2))], []⟩
def c_unicode_utf8_DecodeRuneInString : Cx := ⟨1, [0], [.tmp 2, .tmp 3]⟩
def e_impl_SignAt (r : Int × Int × Bool) : Res := ⟨[.t (.v (.int .i64 r.1)), .t (.v (.int .i64 r.2.1)), .t (.v (.bool r.2.2))], []⟩
def c_impl_SignAt : Cx := ⟨2, [0, 0], [.tmp 4, .tmp 5, .tmp 6]⟩
def e_impl_inAny_1 (r : Bool × Int) : Res := ⟨[.t (.v (.bool r.1))], [some [[.v (.int .i64 r.2)]]]⟩
def c_impl_inAny_1 : Cx := ⟨2, [0, 1], [.tmp 3]⟩
def e_slices_IndexFunc_A2int_inAny_1 (r : Int × Int) : Res := ⟨[.t (.v (.int .i64 r.1))], [some [[.v (.int .i64 r.2)]]]⟩
def c_slices_IndexFunc_A2int_inAny_1 : Cx := ⟨2, [0, 1], [.tmp 4]⟩
def e_slices_ContainsFunc_A2int_inAny_1 (r : Bool × Int) : Res := ⟨[.t (.v (.bool r.1))], [some [[.v (.int .i64 r.2)]]]⟩
def c_slices_ContainsFunc_A2int_inAny_1 : Cx := ⟨2, [0, 1], [.tmp 4]⟩
def e_impl_inAny (r : Bool) : Res := ⟨[.t (.v (.bool r))], []⟩
def c_impl_inAny : Cx := ⟨2, [0, 0], [.tmp 4]⟩
def e_impl_IsStart (r : Bool) : Res := ⟨[.t (.v (.bool r))], []⟩
def c_impl_IsStart : Cx := ⟨1, [0], [.tmp 2]⟩
def e_impl_IsPart (r : Bool) : Res := ⟨[.t (.v (.bool r))], []⟩
def c_impl_IsPart : Cx := ⟨1, [0], [.tmp 2]⟩
def e_impl_PlainOk (r : Bool) : Res := ⟨[.t (.v (.bool r))], []⟩
def c_impl_PlainOk : Cx := ⟨1, [0], [.tmp 2]⟩
def e_impl_nameOk (r : Bool) : Res := ⟨[.t (.v (.bool r))], []⟩
def c_impl_nameOk : Cx := ⟨2, [0, 0], [.tmp 4]⟩
def e_impl_IsSign (r : Bool) : Res := ⟨[.t (.v (.bool r))], []⟩
def c_impl_IsSign : Cx := ⟨1, [0], [.tmp 2]⟩
def e_impl_signsOk (r : Bool) : Res := ⟨[.t (.v (.bool r))], []⟩
def c_impl_signsOk : Cx := ⟨1, [0], [.tmp 2]⟩
def e_impl_TextOk (r : Bool) : Res := ⟨[.t (.v (.bool r))], []⟩
def c_impl_TextOk : Cx := ⟨1, [0], [.tmp 2]⟩
def e_strings_Contains (r : Bool) : Res := ⟨[.t (.v (.bool r))], []⟩
def c_strings_Contains : Cx := ⟨2, [0, 0], [.tmp 4]⟩
def e_impl_valOk (r : Bool) : Res := ⟨[.t (.v (.bool r))], []⟩
def c_impl_valOk : Cx := ⟨1, [0], [.tmp 2]⟩
def e_impl_predOk (r : Bool) : Res := ⟨[.t (.v (.bool r))], []⟩
def c_impl_predOk : Cx := ⟨2, [0, 0], [.tmp 4]⟩
def e_impl_stepOk_1 (r : Bool × GStp) : Res := ⟨[.t (.v (.bool r.1))], [some [[.v (.bool r.2.Deep), .v (.int .i64 r.2.Kind), .v (.string r.2.Pre), .v (.string r.2.Local), .sl false (r.2.Preds.map GPred.row)]]]⟩
def c_impl_stepOk_1 : Cx := ⟨2, [0, 1], [.tmp 3]⟩
def e_slices_IndexFunc_Pred_stepOk_1 (r : Int × GStp) : Res := ⟨[.t (.v (.int .i64 r.1))], [some [[.v (.bool r.2.Deep), .v (.int .i64 r.2.Kind), .v (.string r.2.Pre), .v (.string r.2.Local), .sl false (r.2.Preds.map GPred.row)]]]⟩
def c_slices_IndexFunc_Pred_stepOk_1 : Cx := ⟨2, [0, 1], [.tmp 4]⟩
def e_slices_ContainsFunc_Pred_stepOk_1 (r : Bool × GStp) : Res := ⟨[.t (.v (.bool r.1))], [some [[.v (.bool r.2.Deep), .v (.int .i64 r.2.Kind), .v (.string r.2.Pre), .v (.string r.2.Local), .sl false (r.2.Preds.map GPred.row)]]]⟩
def c_slices_ContainsFunc_Pred_stepOk_1 : Cx := ⟨2, [0, 1], [.tmp 4]⟩
def e_impl_stepOk (r : Bool) : Res := ⟨[.t (.v (.bool r))], []⟩
def c_impl_stepOk : Cx := ⟨2, [0, 0], [.tmp 4]⟩
def e_impl_SelOk (r : Bool) : Res := ⟨[.t (.v (.bool r))], []⟩
def c_impl_SelOk : Cx := ⟨1, [0], [.tmp 2]⟩
def e_impl_twicePre_1 (r : Bool × GDecl) : Res := ⟨[.t (.v (.bool r.1))], [some [[.v (.string r.2.Pre), .v (.string r.2.Uri)]]]⟩
def c_impl_twicePre_1 : Cx := ⟨2, [0, 1], [.tmp 3]⟩
def e_slices_IndexFunc_Decl_twicePre_1 (r : Int × GDecl) : Res := ⟨[.t (.v (.int .i64 r.1))], [some [[.v (.string r.2.Pre), .v (.string r.2.Uri)]]]⟩
def c_slices_IndexFunc_Decl_twicePre_1 : Cx := ⟨2, [0, 1], [.tmp 4]⟩
def e_slices_ContainsFunc_Decl_twicePre_1 (r : Bool × GDecl) : Res := ⟨[.t (.v (.bool r.1))], [some [[.v (.string r.2.Pre), .v (.string r.2.Uri)]]]⟩
def c_slices_ContainsFunc_Decl_twicePre_1 : Cx := ⟨2, [0, 1], [.tmp 4]⟩
def e_impl_twicePre (r : Bool) : Res := ⟨[.t (.v (.bool r))], []⟩
def c_impl_twicePre : Cx := ⟨1, [0], [.tmp 2]⟩
def e_internal_stringslite_HasPrefix (r : Bool) : Res := ⟨[.t (.v (.bool r))], []⟩
def c_internal_stringslite_HasPrefix : Cx := ⟨2, [0, 0], [.tmp 4]⟩
def e_strings_HasPrefix (r : Bool) : Res := ⟨[.t (.v (.bool r))], []⟩
def c_strings_HasPrefix : Cx := ⟨2, [0, 0], [.tmp 4]⟩
def e_impl_preOk (r : Bool) : Res := ⟨[.t (.v (.bool r))], []⟩
def c_impl_preOk : Cx := ⟨1, [0], [.tmp 2]⟩
def e_impl_uriOk (r : Bool) : Res := ⟨[.t (.v (.bool r))], []⟩
def c_impl_uriOk : Cx := ⟨2, [0, 0], [.tmp 4]⟩
def e_impl_DeclOk (r : Bool) : Res := ⟨[.t (.v (.bool r))], []⟩
def c_impl_DeclOk : Cx := ⟨1, [0], [.tmp 2]⟩
def e_impl_OpOk_1 (r : Bool) : Res := ⟨[.t (.v (.bool r))], []⟩
def c_impl_OpOk_1 : Cx := ⟨1, [0], [.tmp 2]⟩
def e_slices_IndexFunc_Decl_OpOk_1 (r : Int) : Res := ⟨[.t (.v (.int .i64 r))], []⟩
def c_slices_IndexFunc_Decl_OpOk_1 : Cx := ⟨2, [0, 0], [.tmp 4]⟩
def e_slices_ContainsFunc_Decl_OpOk_1 (r : Bool) : Res := ⟨[.t (.v (.bool r))], []⟩
def c_slices_ContainsFunc_Decl_OpOk_1 : Cx := ⟨2, [0, 0], [.tmp 4]⟩
def e_impl_CountOf (r : Int) : Res := ⟨[.t (.v (.int .i64 r))], []⟩
def c_impl_CountOf : Cx := ⟨1, [0], [.tmp 2]⟩
def e_internal_stringslite_HasSuffix (r : Bool) : Res := ⟨[.t (.v (.bool r))], []⟩
def c_internal_stringslite_HasSuffix : Cx := ⟨2, [0, 0], [.tmp 4]⟩
def e_strings_HasSuffix (r : Bool) : Res := ⟨[.t (.v (.bool r))], []⟩
def c_strings_HasSuffix : Cx := ⟨2, [0, 0], [.tmp 4]⟩
def e_impl_noteOk (r : Bool) : Res := ⟨[.t (.v (.bool r))], []⟩
def c_impl_noteOk : Cx := ⟨1, [0], [.tmp 2]⟩
def e_strings_EqualFold (r : Bool) : Res := ⟨[.t (.v (.bool r))], []⟩
def c_strings_EqualFold : Cx := ⟨2, [0, 0], [.tmp 4]⟩
def e_impl_IsBlank (r : Bool) : Res := ⟨[.t (.v (.bool r))], []⟩
def c_impl_IsBlank : Cx := ⟨1, [0], [.tmp 2]⟩
def e_impl_toldOk (r : Bool) : Res := ⟨[.t (.v (.bool r))], []⟩
def c_impl_toldOk : Cx := ⟨2, [0, 0], [.tmp 4]⟩
def e_impl_leafOk (r : Bool) : Res := ⟨[.t (.v (.bool r))], []⟩
def c_impl_leafOk : Cx := ⟨1, [0], [.tmp 2]⟩
def e_impl_DeclsOk (r : Bool) : Res := ⟨[.t (.v (.bool r))], []⟩
def c_impl_DeclsOk : Cx := ⟨1, [0], [.tmp 2]⟩
def e_impl_attrOk (r : Bool) : Res := ⟨[.t (.v (.bool r))], []⟩
def c_impl_attrOk : Cx := ⟨1, [0], [.tmp 2]⟩
def e_strings_Compare (r : Int) : Res := ⟨[.t (.v (.int .i64 r))], []⟩
def c_strings_Compare : Cx := ⟨2, [0, 0], [.tmp 4]⟩
def e_impl_compareAttrs (r : Int) : Res := ⟨[.t (.v (.int .i64 r))], []⟩
def c_impl_compareAttrs : Cx := ⟨2, [0, 0], [.tmp 4]⟩
def e_impl_attrsOk (r : Bool) : Res := ⟨[.t (.v (.bool r))], []⟩
def c_impl_attrsOk : Cx := ⟨1, [0], [.tmp 2]⟩
def e_impl_noTwoTexts (r : Bool) : Res := ⟨[.t (.v (.bool r))], []⟩
def c_impl_noTwoTexts : Cx := ⟨1, [0], [.tmp 2]⟩
def e_impl_kidsOk (r : Bool) : Res := ⟨[.t (.v (.bool r))], []⟩
def c_impl_kidsOk : Cx := ⟨2, [0, 0], [.tmp 4]⟩
def e_slices_ContainsFunc_Node_kidsOk_1 (r : Bool × Int) : Res := ⟨[.t (.v (.bool r.1))], [some [[.v (.int .i64 r.2)]]]⟩
def c_slices_ContainsFunc_Node_kidsOk_1 : Cx := ⟨2, [0, 1], [.tmp 4]⟩
def e_slices_IndexFunc_Node_kidsOk_1 (r : Int × Int) : Res := ⟨[.t (.v (.int .i64 r.1))], [some [[.v (.int .i64 r.2)]]]⟩
def c_slices_IndexFunc_Node_kidsOk_1 : Cx := ⟨2, [0, 1], [.tmp 4]⟩
def e_impl_kidsOk_1 (r : Bool × Int) : Res := ⟨[.t (.v (.bool r.1))], [some [[.v (.int .i64 r.2)]]]⟩
def c_impl_kidsOk_1 : Cx := ⟨2, [0, 1], [.tmp 3]⟩
def e_impl_partOk (r : Bool) : Res := ⟨[.t (.v (.bool r))], []⟩
def c_impl_partOk : Cx := ⟨2, [0, 0], [.tmp 4]⟩
def e_impl_ofKind (r : Int) : Res := ⟨[.t (.v (.int .i64 r))], []⟩
def c_impl_ofKind : Cx := ⟨2, [0, 0], [.tmp 4]⟩
def e_impl_NodeOk (r : Bool) : Res := ⟨[.t (.v (.bool r))], []⟩
def c_impl_NodeOk : Cx := ⟨1, [0], [.tmp 2]⟩
def e_impl_FitsIn (r : Bool) : Res := ⟨[.t (.v (.bool r))], []⟩
def c_impl_FitsIn : Cx := ⟨2, [0, 0], [.tmp 4]⟩
def e_impl_opKidsOk (r : Bool) : Res := ⟨[.t (.v (.bool r))], []⟩
def c_impl_opKidsOk : Cx := ⟨1, [0], [.tmp 2]⟩
def e_strings_Cut (r : ByteArray × ByteArray × Bool) : Res := ⟨[.t (.v (.string r.1)), .t (.v (.string r.2.1)), .t (.v (.bool r.2.2))], []⟩
def c_strings_Cut : Cx := ⟨2, [0, 0], [.tmp 4, .tmp 5, .tmp 6]⟩
def e_impl_SplitName (r : ByteArray × ByteArray × Bool) : Res := ⟨[.t (.v (.string r.1)), .t (.v (.string r.2.1)), .t (.v (.bool r.2.2))], []⟩
def c_impl_SplitName : Cx := ⟨1, [0], [.tmp 2, .tmp 3, .tmp 4]⟩
def e_impl_JoinName (r : ByteArray) : Res := ⟨[.t (.v (.string r))], []⟩
def c_impl_JoinName : Cx := ⟨2, [0, 0], [.tmp 4]⟩
def e_impl_typeOk (r : Bool) : Res := ⟨[.t (.v (.bool r))], []⟩
def c_impl_typeOk : Cx := ⟨1, [0], [.tmp 2]⟩
def e_impl_OpOk (r : Bool) : Res := ⟨[.t (.v (.bool r))], []⟩
def c_impl_OpOk : Cx := ⟨1, [0], [.tmp 2]⟩
def e_laws_eqPred (r : Bool) : Res := ⟨[.t (.v (.bool r))], []⟩
def c_laws_eqPred : Cx := ⟨2, [0, 0], [.tmp 4]⟩
def e_laws_eqPredS (r : Bool) : Res := ⟨[.t (.v (.bool r))], []⟩
def c_laws_eqPredS : Cx := ⟨2, [0, 0], [.tmp 4]⟩
def e_laws_eqStep (r : Bool) : Res := ⟨[.t (.v (.bool r))], []⟩
def c_laws_eqStep : Cx := ⟨2, [0, 0], [.tmp 4]⟩
def e_laws_eqStepS (r : Bool) : Res := ⟨[.t (.v (.bool r))], []⟩
def c_laws_eqStepS : Cx := ⟨2, [0, 0], [.tmp 4]⟩
def e_laws_eqSel (r : Bool) : Res := ⟨[.t (.v (.bool r))], []⟩
def c_laws_eqSel : Cx := ⟨2, [0, 0], [.tmp 4]⟩
def e_laws_eqDecl (r : Bool) : Res := ⟨[.t (.v (.bool r))], []⟩
def c_laws_eqDecl : Cx := ⟨2, [0, 0], [.tmp 4]⟩
def e_laws_eqDeclS (r : Bool) : Res := ⟨[.t (.v (.bool r))], []⟩
def c_laws_eqDeclS : Cx := ⟨2, [0, 0], [.tmp 4]⟩
def e_laws_eqAttr (r : Bool) : Res := ⟨[.t (.v (.bool r))], []⟩
def c_laws_eqAttr : Cx := ⟨2, [0, 0], [.tmp 4]⟩
def e_laws_eqAttrS (r : Bool) : Res := ⟨[.t (.v (.bool r))], []⟩
def c_laws_eqAttrS : Cx := ⟨2, [0, 0], [.tmp 4]⟩
def e_laws_eqNode (r : Bool) : Res := ⟨[.t (.v (.bool r))], []⟩
def c_laws_eqNode : Cx := ⟨2, [0, 0], [.tmp 4]⟩
def e_laws_eqNodeS (r : Bool) : Res := ⟨[.t (.v (.bool r))], []⟩
def c_laws_eqNodeS : Cx := ⟨2, [0, 0], [.tmp 4]⟩
def e_laws_eqOp (r : Bool) : Res := ⟨[.t (.v (.bool r))], []⟩
def c_laws_eqOp : Cx := ⟨2, [0, 0], [.tmp 4]⟩
def e_laws_FnExactOpOk (r : Bool) : Res := ⟨[.t (.v (.bool r))], []⟩
def c_laws_FnExactOpOk : Cx := ⟨1, [0], [.tmp 2]⟩
def ES := And.intro (@e_laws_szPred.eq_1) <| And.intro (@c_laws_szPred.eq_1) <| And.intro (@e_laws_szPredS.eq_1) <| And.intro (@c_laws_szPredS.eq_1) <| And.intro (@e_laws_szStep.eq_1) <| And.intro (@c_laws_szStep.eq_1) <| And.intro (@e_laws_szStepS.eq_1) <| And.intro (@c_laws_szStepS.eq_1) <| And.intro (@e_laws_szSel.eq_1) <| And.intro (@c_laws_szSel.eq_1) <| And.intro (@e_laws_szDecl.eq_1) <| And.intro (@c_laws_szDecl.eq_1) <| And.intro (@e_laws_szDeclS.eq_1) <| And.intro (@c_laws_szDeclS.eq_1) <| And.intro (@e_laws_szAttr.eq_1) <| And.intro (@c_laws_szAttr.eq_1) <| And.intro (@e_laws_szAttrS.eq_1) <| And.intro (@c_laws_szAttrS.eq_1) <| And.intro (@e_laws_szNode.eq_1) <| And.intro (@c_laws_szNode.eq_1) <| And.intro (@e_laws_szNodeS.eq_1) <| And.intro (@c_laws_szNodeS.eq_1) <| And.intro (@e_laws_szOp.eq_1) <| And.intro (@c_laws_szOp.eq_1) <| And.intro (@e_laws_toPred.eq_1) <| And.intro (@c_laws_toPred.eq_1) <| And.intro (@e_laws_toPredS.eq_1) <| And.intro (@c_laws_toPredS.eq_1) <| And.intro (@e_laws_toStep.eq_1) <| And.intro (@c_laws_toStep.eq_1) <| And.intro (@e_laws_toStepS.eq_1) <| And.intro (@c_laws_toStepS.eq_1) <| And.intro (@e_laws_toSel.eq_1) <| And.intro (@c_laws_toSel.eq_1) <| And.intro (@e_laws_toDecl.eq_1) <| And.intro (@c_laws_toDecl.eq_1) <| And.intro (@e_laws_toDeclS.eq_1) <| And.intro (@c_laws_toDeclS.eq_1) <| And.intro (@e_laws_toAttr.eq_1) <| And.intro (@c_laws_toAttr.eq_1) <| And.intro (@e_laws_toAttrS.eq_1) <| And.intro (@c_laws_toAttrS.eq_1) <| And.intro (@e_laws_toNode.eq_1) <| And.intro (@c_laws_toNode.eq_1) <| And.intro (@e_laws_toNodeS.eq_1) <| And.intro (@c_laws_toNodeS.eq_1) <| And.intro (@e_laws_toOp.eq_1) <| And.intro (@c_laws_toOp.eq_1) <| And.intro (@e_spec_l1In.eq_1) <| And.intro (@c_spec_l1In.eq_1) <| And.intro (@e_spec_SignAt.eq_1) <| And.intro (@c_spec_SignAt.eq_1) <| And.intro (@e_spec_l1Ranges.eq_1) <| And.intro (@c_spec_l1Ranges.eq_1) <| And.intro (@e_spec_IsStart.eq_1) <| And.intro (@c_spec_IsStart.eq_1) <| And.intro (@e_spec_IsPart.eq_1) <| And.intro (@c_spec_IsPart.eq_1) <| And.intro (@e_spec_PlainOk.eq_1) <| And.intro (@c_spec_PlainOk.eq_1) <| And.intro (@e_spec_SplitName.eq_1) <| And.intro (@c_spec_SplitName.eq_1) <| And.intro (@e_spec_JoinName.eq_1) <| And.intro (@c_spec_JoinName.eq_1) <| And.intro (@e_spec_IsSign.eq_1) <| And.intro (@c_spec_IsSign.eq_1) <| And.intro (@e_spec_l1Signs.eq_1) <| And.intro (@c_spec_l1Signs.eq_1) <| And.intro (@e_spec_TextOk.eq_1) <| And.intro (@c_spec_TextOk.eq_1) <| And.intro (@e_spec_l5Has.eq_1) <| And.intro (@c_spec_l5Has.eq_1) <| And.intro (@e_spec_l11Val.eq_1) <| And.intro (@c_spec_l11Val.eq_1) <| And.intro (@e_spec_l11PredOk.eq_1) <| And.intro (@c_spec_l11PredOk.eq_1) <| And.intro (@e_spec_l11StepOk.eq_1) <| And.intro (@c_spec_l11StepOk.eq_1) <| And.intro (@e_spec_SelOk.eq_1) <| And.intro (@c_spec_SelOk.eq_1) <| And.intro (@e_spec_l4Xml.eq_1) <| And.intro (@c_spec_l4Xml.eq_1) <| And.intro (@e_spec_DeclOk.eq_1) <| And.intro (@c_spec_DeclOk.eq_1) <| And.intro (@e_spec_CountOf.eq_1) <| And.intro (@c_spec_CountOf.eq_1) <| And.intro (@e_spec_l5Pre.eq_1) <| And.intro (@c_spec_l5Pre.eq_1) <| And.intro (@e_spec_DeclsOk.eq_1) <| And.intro (@c_spec_DeclsOk.eq_1) <| And.intro (@e_spec_l5Bare.eq_1) <| And.intro (@c_spec_l5Bare.eq_1) <| And.intro (@e_spec_l5Xml.eq_1) <| And.intro (@c_spec_l5Xml.eq_1) <| And.intro (@e_spec_IsBlank.eq_1) <| And.intro (@c_spec_IsBlank.eq_1) <| And.intro (@e_spec_l5AttrOk.eq_1) <| And.intro (@c_spec_l5AttrOk.eq_1) <| And.intro (@e_spec_l5Less.eq_1) <| And.intro (@c_spec_l5Less.eq_1) <| And.intro (@e_spec_l5One.eq_1) <| And.intro (@c_spec_l5One.eq_1) <| And.intro (@e_spec_l5Kids.eq_1) <| And.intro (@c_spec_l5Kids.eq_1) <| And.intro (@e_spec_NodeOk.eq_1) <| And.intro (@c_spec_NodeOk.eq_1) <| And.intro (@e_spec_Inner.eq_1) <| And.intro (@c_spec_Inner.eq_1) <| And.intro (@e_spec_SpaceOf.eq_1) <| And.intro (@c_spec_SpaceOf.eq_1) <| And.intro (@e_spec_FitsIn.eq_1) <| And.intro (@c_spec_FitsIn.eq_1) <| And.intro (@e_spec_OpOk.eq_1) <| And.intro (@c_spec_OpOk.eq_1) <| And.intro (@e_impl_in.eq_1) <| And.intro (@c_impl_in.eq_1) <| And.intro (@e_unicode_utf8_DecodeRuneInString.eq_1) <| And.intro (@c_unicode_utf8_DecodeRuneInString.eq_1) <| And.intro (@e_impl_SignAt.eq_1) <| And.intro (@c_impl_SignAt.eq_1) <| And.intro (@e_impl_inAny_1.eq_1) <| And.intro (@c_impl_inAny_1.eq_1) <| And.intro (@e_slices_IndexFunc_A2int_inAny_1.eq_1) <| And.intro (@c_slices_IndexFunc_A2int_inAny_1.eq_1) <| And.intro (@e_slices_ContainsFunc_A2int_inAny_1.eq_1) <| And.intro (@c_slices_ContainsFunc_A2int_inAny_1.eq_1) <| And.intro (@e_impl_inAny.eq_1) <| And.intro (@c_impl_inAny.eq_1) <| And.intro (@e_impl_IsStart.eq_1) <| And.intro (@c_impl_IsStart.eq_1) <| And.intro (@e_impl_IsPart.eq_1) <| And.intro (@c_impl_IsPart.eq_1) <| And.intro (@e_impl_PlainOk.eq_1) <| And.intro (@c_impl_PlainOk.eq_1) <| And.intro (@e_impl_nameOk.eq_1) <| And.intro (@c_impl_nameOk.eq_1) <| And.intro (@e_impl_IsSign.eq_1) <| And.intro (@c_impl_IsSign.eq_1) <| And.intro (@e_impl_signsOk.eq_1) <| And.intro (@c_impl_signsOk.eq_1) <| And.intro (@e_impl_TextOk.eq_1) <| And.intro (@c_impl_TextOk.eq_1) <| And.intro (@e_strings_Contains.eq_1) <| And.intro (@c_strings_Contains.eq_1) <| And.intro (@e_impl_valOk.eq_1) <| And.intro (@c_impl_valOk.eq_1) <| And.intro (@e_impl_predOk.eq_1) <| And.intro (@c_impl_predOk.eq_1) <| And.intro (@e_impl_stepOk_1.eq_1) <| And.intro (@c_impl_stepOk_1.eq_1) <| And.intro (@e_slices_IndexFunc_Pred_stepOk_1.eq_1) <| And.intro (@c_slices_IndexFunc_Pred_stepOk_1.eq_1) <| And.intro (@e_slices_ContainsFunc_Pred_stepOk_1.eq_1) <| And.intro (@c_slices_ContainsFunc_Pred_stepOk_1.eq_1) <| And.intro (@e_impl_stepOk.eq_1) <| And.intro (@c_impl_stepOk.eq_1) <| And.intro (@e_impl_SelOk.eq_1) <| And.intro (@c_impl_SelOk.eq_1) <| And.intro (@e_impl_twicePre_1.eq_1) <| And.intro (@c_impl_twicePre_1.eq_1) <| And.intro (@e_slices_IndexFunc_Decl_twicePre_1.eq_1) <| And.intro (@c_slices_IndexFunc_Decl_twicePre_1.eq_1) <| And.intro (@e_slices_ContainsFunc_Decl_twicePre_1.eq_1) <| And.intro (@c_slices_ContainsFunc_Decl_twicePre_1.eq_1) <| And.intro (@e_impl_twicePre.eq_1) <| And.intro (@c_impl_twicePre.eq_1) <| And.intro (@e_internal_stringslite_HasPrefix.eq_1) <| And.intro (@c_internal_stringslite_HasPrefix.eq_1) <| And.intro (@e_strings_HasPrefix.eq_1) <| And.intro (@c_strings_HasPrefix.eq_1) <| And.intro (@e_impl_preOk.eq_1) <| And.intro (@c_impl_preOk.eq_1) <| And.intro (@e_impl_uriOk.eq_1) <| And.intro (@c_impl_uriOk.eq_1) <| And.intro (@e_impl_DeclOk.eq_1) <| And.intro (@c_impl_DeclOk.eq_1) <| And.intro (@e_impl_OpOk_1.eq_1) <| And.intro (@c_impl_OpOk_1.eq_1) <| And.intro (@e_slices_IndexFunc_Decl_OpOk_1.eq_1) <| And.intro (@c_slices_IndexFunc_Decl_OpOk_1.eq_1) <| And.intro (@e_slices_ContainsFunc_Decl_OpOk_1.eq_1) <| And.intro (@c_slices_ContainsFunc_Decl_OpOk_1.eq_1) <| And.intro (@e_impl_CountOf.eq_1) <| And.intro (@c_impl_CountOf.eq_1) <| And.intro (@e_internal_stringslite_HasSuffix.eq_1) <| And.intro (@c_internal_stringslite_HasSuffix.eq_1) <| And.intro (@e_strings_HasSuffix.eq_1) <| And.intro (@c_strings_HasSuffix.eq_1) <| And.intro (@e_impl_noteOk.eq_1) <| And.intro (@c_impl_noteOk.eq_1) <| And.intro (@e_strings_EqualFold.eq_1) <| And.intro (@c_strings_EqualFold.eq_1) <| And.intro (@e_impl_IsBlank.eq_1) <| And.intro (@c_impl_IsBlank.eq_1) <| And.intro (@e_impl_toldOk.eq_1) <| And.intro (@c_impl_toldOk.eq_1) <| And.intro (@e_impl_leafOk.eq_1) <| And.intro (@c_impl_leafOk.eq_1) <| And.intro (@e_impl_DeclsOk.eq_1) <| And.intro (@c_impl_DeclsOk.eq_1) <| And.intro (@e_impl_attrOk.eq_1) <| And.intro (@c_impl_attrOk.eq_1) <| And.intro (@e_strings_Compare.eq_1) <| And.intro (@c_strings_Compare.eq_1) <| And.intro (@e_impl_compareAttrs.eq_1) <| And.intro (@c_impl_compareAttrs.eq_1) <| And.intro (@e_impl_attrsOk.eq_1) <| And.intro (@c_impl_attrsOk.eq_1) <| And.intro (@e_impl_noTwoTexts.eq_1) <| And.intro (@c_impl_noTwoTexts.eq_1) <| And.intro (@e_impl_kidsOk.eq_1) <| And.intro (@c_impl_kidsOk.eq_1) <| And.intro (@e_slices_ContainsFunc_Node_kidsOk_1.eq_1) <| And.intro (@c_slices_ContainsFunc_Node_kidsOk_1.eq_1) <| And.intro (@e_slices_IndexFunc_Node_kidsOk_1.eq_1) <| And.intro (@c_slices_IndexFunc_Node_kidsOk_1.eq_1) <| And.intro (@e_impl_kidsOk_1.eq_1) <| And.intro (@c_impl_kidsOk_1.eq_1) <| And.intro (@e_impl_partOk.eq_1) <| And.intro (@c_impl_partOk.eq_1) <| And.intro (@e_impl_ofKind.eq_1) <| And.intro (@c_impl_ofKind.eq_1) <| And.intro (@e_impl_NodeOk.eq_1) <| And.intro (@c_impl_NodeOk.eq_1) <| And.intro (@e_impl_FitsIn.eq_1) <| And.intro (@c_impl_FitsIn.eq_1) <| And.intro (@e_impl_opKidsOk.eq_1) <| And.intro (@c_impl_opKidsOk.eq_1) <| And.intro (@e_strings_Cut.eq_1) <| And.intro (@c_strings_Cut.eq_1) <| And.intro (@e_impl_SplitName.eq_1) <| And.intro (@c_impl_SplitName.eq_1) <| And.intro (@e_impl_JoinName.eq_1) <| And.intro (@c_impl_JoinName.eq_1) <| And.intro (@e_impl_typeOk.eq_1) <| And.intro (@c_impl_typeOk.eq_1) <| And.intro (@e_impl_OpOk.eq_1) <| And.intro (@c_impl_OpOk.eq_1) <| And.intro (@e_laws_eqPred.eq_1) <| And.intro (@c_laws_eqPred.eq_1) <| And.intro (@e_laws_eqPredS.eq_1) <| And.intro (@c_laws_eqPredS.eq_1) <| And.intro (@e_laws_eqStep.eq_1) <| And.intro (@c_laws_eqStep.eq_1) <| And.intro (@e_laws_eqStepS.eq_1) <| And.intro (@c_laws_eqStepS.eq_1) <| And.intro (@e_laws_eqSel.eq_1) <| And.intro (@c_laws_eqSel.eq_1) <| And.intro (@e_laws_eqDecl.eq_1) <| And.intro (@c_laws_eqDecl.eq_1) <| And.intro (@e_laws_eqDeclS.eq_1) <| And.intro (@c_laws_eqDeclS.eq_1) <| And.intro (@e_laws_eqAttr.eq_1) <| And.intro (@c_laws_eqAttr.eq_1) <| And.intro (@e_laws_eqAttrS.eq_1) <| And.intro (@c_laws_eqAttrS.eq_1) <| And.intro (@e_laws_eqNode.eq_1) <| And.intro (@c_laws_eqNode.eq_1) <| And.intro (@e_laws_eqNodeS.eq_1) <| And.intro (@c_laws_eqNodeS.eq_1) <| And.intro (@e_laws_eqOp.eq_1) <| And.intro (@c_laws_eqOp.eq_1) <| And.intro (@e_laws_FnExactOpOk.eq_1) <| @c_laws_FnExactOpOk.eq_1
theorem xN {f : FuncId} (h : FTA.cl.contains f = false) (h2 : (FTA.lb.all fun p => p.1 != f) = true) (args : List Arg) : xOf FTA f args = none := xOf_none h h2 args
theorem lB {a b : Nat} (h : Nat.ble a b = true) : a ≤ b := Nat.le_of_ble_eq_true h
theorem gs {p : Prop} (h : p := by
 try simp only [SSA, RS, reduceAdd, reduceSub, reduceMul, reduceLeDiff, reduceLT, reduceEqDiff, Nat.reduceBEq, ↓reduceIte, reduceCtorEq] at g0
 try simp only [SSA, RS, reduceAdd, reduceSub, reduceMul, reduceLeDiff, reduceLT, reduceEqDiff, Nat.reduceBEq, ↓reduceIte, reduceCtorEq] at g1
 try simp only [SSA, RS, reduceAdd, reduceSub, reduceMul, reduceLeDiff, reduceLT, reduceEqDiff, Nat.reduceBEq, ↓reduceIte, reduceCtorEq] at g2
 try simp only [SSA, RS, reduceAdd, reduceSub, reduceMul, reduceLeDiff, reduceLT, reduceEqDiff, Nat.reduceBEq, ↓reduceIte, reduceCtorEq] at g3
 try simp only [SSA, RS, reduceAdd, reduceSub, reduceMul, reduceLeDiff, reduceLT, reduceEqDiff, Nat.reduceBEq, ↓reduceIte, reduceCtorEq] at g4
 try simp only [SSA, RS, reduceAdd, reduceSub, reduceMul, reduceLeDiff, reduceLT, reduceEqDiff, Nat.reduceBEq, ↓reduceIte, reduceCtorEq] at g5
 try simp only [SSA, RS, reduceAdd, reduceSub, reduceMul, reduceLeDiff, reduceLT, reduceEqDiff, Nat.reduceBEq, ↓reduceIte, reduceCtorEq] at g6
 try simp only [SSA, RS, reduceAdd, reduceSub, reduceMul, reduceLeDiff, reduceLT, reduceEqDiff, Nat.reduceBEq, ↓reduceIte, reduceCtorEq] at g7
 simp only [SSA, RS, ES, *, reduceAdd, reduceSub, reduceMul, reduceLeDiff, reduceLT, reduceEqDiff, Nat.reduceBEq, ↓reduceIte, reduceCtorEq]
 try clear k0
 try clear f0
 repeat' first
  | with_reducible exact Ok_none
  | ((with_reducible refine Ok_ret ?_); first | rfl | simp only [SSA, RS, ES])
  | ((with_reducible first
   | refine Ok_tail (t0 ..) ?_
   | refine Ok_tail (t1 ..) ?_); first | rfl | (simp only [SSA, RS, ES, reduceAdd, reduceSub, reduceMul, reduceLeDiff, reduceLT, reduceEqDiff, Nat.reduceBEq, ↓reduceIte, reduceCtorEq] <;> rfl))
  | ((first
   | (with_reducible first
    | refine Ok_if (fun h => ?_) (fun h => ?_)
    | refine Ok_get fun a h => ?_
    | refine Ok_call (g0 ..) fun v => ?_
    | refine Ok_call (g1 ..) fun v => ?_
    | refine Ok_call (g2 ..) fun v => ?_
    | refine Ok_call (g3 ..) fun v => ?_
    | refine Ok_call (g4 ..) fun v => ?_
    | refine Ok_call (g5 ..) fun v => ?_
    | refine Ok_call (g6 ..) fun v => ?_
    | refine Ok_call (g7 ..) fun v => ?_
    | refine Ok_call g0 fun v => ?_
    | refine Ok_call g1 fun v => ?_
    | refine Ok_call g2 fun v => ?_
    | refine Ok_prim (p := catS _ _) fun a h => ?_
    | refine Ok_prim (p := room _ _) fun a h => ?_
    | refine Ok_prim (p := mkN _ _) fun a h => ?_
    | refine Ok_prim (p := subS _ _ _) fun a h => ?_
    | refine Ok_prim (p := slL _ _ _) fun a h => ?_
    | refine Ok_prim (p := atS _ _) fun a h => ?_
    | refine Ok_prim (p := quoI _ _) fun a h => ?_
    | refine Ok_prim (p := remI _ _) fun a h => ?_
    | refine Ok_prim (p := quoK _ _ _) fun a h => ?_
    | refine Ok_prim (p := remK _ _ _) fun a h => ?_
    | refine Ok_prim (p := shlK _ _ _) fun a h => ?_
    | refine Ok_prim (p := shrK _ _ _) fun a h => ?_
    | refine Ok_same fun h => ?_)
   | refine Ok_call (g0 ..) fun v => ?_
   | refine Ok_call (g1 ..) fun v => ?_
   | refine Ok_call (g2 ..) fun v => ?_
   | refine Ok_call (g3 ..) fun v => ?_
   | refine Ok_call (g4 ..) fun v => ?_
   | refine Ok_call (g5 ..) fun v => ?_
   | refine Ok_call (g6 ..) fun v => ?_
   | refine Ok_call (g7 ..) fun v => ?_
   | refine Ok_callq (g0 _) (by simp only [SSA, RS, List.map_cons, List.map_nil]) fun v => ?_
   | refine Ok_callq (g0 _ _) (by simp only [SSA, RS, List.map_cons, List.map_nil]) fun v => ?_
   | refine Ok_callq (g1 _) (by simp only [SSA, RS, List.map_cons, List.map_nil]) fun v => ?_
   | refine Ok_callq (g1 _ _) (by simp only [SSA, RS, List.map_cons, List.map_nil]) fun v => ?_
   | refine Ok_callq (g2 _) (by simp only [SSA, RS, List.map_cons, List.map_nil]) fun v => ?_
   | refine Ok_callq (g2 _ _) (by simp only [SSA, RS, List.map_cons, List.map_nil]) fun v => ?_
   | refine Ok_callq (g3 _) (by simp only [SSA, RS, List.map_cons, List.map_nil]) fun v => ?_
   | refine Ok_callq (g3 _ _) (by simp only [SSA, RS, List.map_cons, List.map_nil]) fun v => ?_
   | refine Ok_callq (g4 _) (by simp only [SSA, RS, List.map_cons, List.map_nil]) fun v => ?_
   | refine Ok_callq (g4 _ _) (by simp only [SSA, RS, List.map_cons, List.map_nil]) fun v => ?_
   | refine Ok_callq (g5 _) (by simp only [SSA, RS, List.map_cons, List.map_nil]) fun v => ?_
   | refine Ok_callq (g5 _ _) (by simp only [SSA, RS, List.map_cons, List.map_nil]) fun v => ?_
   | refine Ok_callq (g6 _) (by simp only [SSA, RS, List.map_cons, List.map_nil]) fun v => ?_
   | refine Ok_callq (g6 _ _) (by simp only [SSA, RS, List.map_cons, List.map_nil]) fun v => ?_
   | refine Ok_callq (g7 _) (by simp only [SSA, RS, List.map_cons, List.map_nil]) fun v => ?_
   | refine Ok_callq (g7 _ _) (by simp only [SSA, RS, List.map_cons, List.map_nil]) fun v => ?_) <;> simp only [SSA, RS, ES, *, reduceAdd, reduceSub, reduceMul, reduceLeDiff, reduceLT, reduceEqDiff, Nat.reduceBEq, ↓reduceIte, reduceCtorEq])) : p := h
theorem laws_szPred_ok : ∀ (a : GPred) (left : Int), Ok (laws_szPred a left) e_laws_szPred (dn FTA n_laws_szPred [.agg ((GPred.row a).map .t), .t (.v (.int .i64 left))]) := by
 intro a left
 rw [den_ev FTA (fn := k_laws_szPred) rfl (xN rfl rfl _) (lB rfl)]
 have k0 := @k_laws_szPred.eq_1; have f0 := @laws_szPred.eq_1
 exact gs
theorem laws_szPredS_l16_ok (a : List GPred) : ∀ (left1 : Int) (i : Int), Ok (laws_szPredS_l16 a left1 i) e_laws_szPredS (ev FTA c_laws_szPredS (.loop k_laws_szPredS_l16) [.lv 0, .th k_laws_szPredS_r12] (putS (List.replicate 27 .dead) [(0, .t (.sl false (a.map GPred.row))), (1, .t (.v (.int .i64 left1))), (5, .t (.v (.int .i64 i)))]) (putR (List.replicate 27 []) [])) := by
 unfold Ok
 refine laws_szPredS_l16.partial_correctness a _ ?_
 intro F ih left1 i
 show Ok _ _ _
 have ih : ∀ (left1 : Int) (i : Int), Ok (F left1 i) _ _ := ih
 rw [ev_loop]
 have k0 := @k_laws_szPredS_l16.eq_1; have k1 := @k_laws_szPredS_r12.eq_1; have g0 := laws_szPred_ok; have t0 := ih
 exact gs
theorem laws_szPredS_ok : ∀ (a : List GPred) (left : Int), Ok (laws_szPredS a left) e_laws_szPredS (dn FTA n_laws_szPredS [.t (.sl false (a.map GPred.row)), .t (.v (.int .i64 left))]) := by
 intro a left
 rw [den_ev FTA (fn := k_laws_szPredS) rfl (xN rfl rfl _) (lB rfl)]
 have k0 := @k_laws_szPredS.eq_1; have f0 := @laws_szPredS.eq_1; have t0 := laws_szPredS_l16_ok
 exact gs
theorem laws_szStep_ok : ∀ (a : GStp) (left : Int), Ok (laws_szStep a left) e_laws_szStep (dn FTA n_laws_szStep [.agg (((GStp.row false) a).map .t), .t (.v (.int .i64 left))]) := by
 intro a left
 rw [den_ev FTA (fn := k_laws_szStep) rfl (xN rfl rfl _) (lB rfl)]
 have k0 := @k_laws_szStep.eq_1; have f0 := @laws_szStep.eq_1; have g0 := laws_szPredS_ok
 exact gs
theorem laws_szStepS_l16_ok (a : List GStp) : ∀ (left1 : Int) (i : Int), Ok (laws_szStepS_l16 a left1 i) e_laws_szStepS (ev FTA c_laws_szStepS (.loop k_laws_szStepS_l16) [.lv 0, .th k_laws_szStepS_r12] (putS (List.replicate 27 .dead) [(0, .t (.sl false (a.map (GStp.row false)))), (1, .t (.v (.int .i64 left1))), (5, .t (.v (.int .i64 i)))]) (putR (List.replicate 27 []) [])) := by
 unfold Ok
 refine laws_szStepS_l16.partial_correctness a _ ?_
 intro F ih left1 i
 show Ok _ _ _
 have ih : ∀ (left1 : Int) (i : Int), Ok (F left1 i) _ _ := ih
 rw [ev_loop]
 have k0 := @k_laws_szStepS_l16.eq_1; have k1 := @k_laws_szStepS_r12.eq_1; have g0 := laws_szStep_ok; have t0 := ih
 exact gs
theorem laws_szStepS_ok : ∀ (a : List GStp) (left : Int), Ok (laws_szStepS a left) e_laws_szStepS (dn FTA n_laws_szStepS [.t (.sl false (a.map (GStp.row false))), .t (.v (.int .i64 left))]) := by
 intro a left
 rw [den_ev FTA (fn := k_laws_szStepS) rfl (xN rfl rfl _) (lB rfl)]
 have k0 := @k_laws_szStepS.eq_1; have f0 := @laws_szStepS.eq_1; have t0 := laws_szStepS_l16_ok
 exact gs
theorem laws_szSel_ok : ∀ (a : GSel) (left : Int), Ok (laws_szSel a left) e_laws_szSel (dn FTA n_laws_szSel [.agg (((GSel.row false) a).map .t), .t (.v (.int .i64 left))]) := by
 intro a left
 rw [den_ev FTA (fn := k_laws_szSel) rfl (xN rfl rfl _) (lB rfl)]
 have k0 := @k_laws_szSel.eq_1; have f0 := @laws_szSel.eq_1; have g0 := laws_szStepS_ok
 exact gs
theorem laws_szDecl_ok : ∀ (a : GDecl) (left : Int), Ok (laws_szDecl a left) e_laws_szDecl (dn FTA n_laws_szDecl [.agg ((GDecl.row a).map .t), .t (.v (.int .i64 left))]) := by
 intro a left
 rw [den_ev FTA (fn := k_laws_szDecl) rfl (xN rfl rfl _) (lB rfl)]
 have k0 := @k_laws_szDecl.eq_1; have f0 := @laws_szDecl.eq_1
 exact gs
theorem laws_szDeclS_l16_ok (a : List GDecl) : ∀ (left1 : Int) (i : Int), Ok (laws_szDeclS_l16 a left1 i) e_laws_szDeclS (ev FTA c_laws_szDeclS (.loop k_laws_szDeclS_l16) [.lv 0, .th k_laws_szDeclS_r12] (putS (List.replicate 27 .dead) [(0, .t (.sl false (a.map GDecl.row))), (1, .t (.v (.int .i64 left1))), (5, .t (.v (.int .i64 i)))]) (putR (List.replicate 27 []) [])) := by
 unfold Ok
 refine laws_szDeclS_l16.partial_correctness a _ ?_
 intro F ih left1 i
 show Ok _ _ _
 have ih : ∀ (left1 : Int) (i : Int), Ok (F left1 i) _ _ := ih
 rw [ev_loop]
 have k0 := @k_laws_szDeclS_l16.eq_1; have k1 := @k_laws_szDeclS_r12.eq_1; have g0 := laws_szDecl_ok; have t0 := ih
 exact gs
theorem laws_szDeclS_ok : ∀ (a : List GDecl) (left : Int), Ok (laws_szDeclS a left) e_laws_szDeclS (dn FTA n_laws_szDeclS [.t (.sl false (a.map GDecl.row)), .t (.v (.int .i64 left))]) := by
 intro a left
 rw [den_ev FTA (fn := k_laws_szDeclS) rfl (xN rfl rfl _) (lB rfl)]
 have k0 := @k_laws_szDeclS.eq_1; have f0 := @laws_szDeclS.eq_1; have t0 := laws_szDeclS_l16_ok
 exact gs
theorem laws_szAttr_ok : ∀ (a : GAttr) (left : Int), Ok (laws_szAttr a left) e_laws_szAttr (dn FTA n_laws_szAttr [.agg ((GAttr.row a).map .t), .t (.v (.int .i64 left))]) := by
 intro a left
 rw [den_ev FTA (fn := k_laws_szAttr) rfl (xN rfl rfl _) (lB rfl)]
 have k0 := @k_laws_szAttr.eq_1; have f0 := @laws_szAttr.eq_1
 exact gs
theorem laws_szAttrS_l16_ok (a : List GAttr) : ∀ (left1 : Int) (i : Int), Ok (laws_szAttrS_l16 a left1 i) e_laws_szAttrS (ev FTA c_laws_szAttrS (.loop k_laws_szAttrS_l16) [.lv 0, .th k_laws_szAttrS_r12] (putS (List.replicate 27 .dead) [(0, .t (.sl false (a.map GAttr.row))), (1, .t (.v (.int .i64 left1))), (5, .t (.v (.int .i64 i)))]) (putR (List.replicate 27 []) [])) := by
 unfold Ok
 refine laws_szAttrS_l16.partial_correctness a _ ?_
 intro F ih left1 i
 show Ok _ _ _
 have ih : ∀ (left1 : Int) (i : Int), Ok (F left1 i) _ _ := ih
 rw [ev_loop]
 have k0 := @k_laws_szAttrS_l16.eq_1; have k1 := @k_laws_szAttrS_r12.eq_1; have g0 := laws_szAttr_ok; have t0 := ih
 exact gs
theorem laws_szAttrS_ok : ∀ (a : List GAttr) (left : Int), Ok (laws_szAttrS a left) e_laws_szAttrS (dn FTA n_laws_szAttrS [.t (.sl false (a.map GAttr.row)), .t (.v (.int .i64 left))]) := by
 intro a left
 rw [den_ev FTA (fn := k_laws_szAttrS) rfl (xN rfl rfl _) (lB rfl)]
 have k0 := @k_laws_szAttrS.eq_1; have f0 := @laws_szAttrS.eq_1; have t0 := laws_szAttrS_l16_ok
 exact gs
theorem G_laws_szNode : (∀ (a : GNode) (left : Int), Ok (laws_szNode a left) e_laws_szNode (dn FTA n_laws_szNode [.agg (((GNode.row false) a).map .t), .t (.v (.int .i64 left))])) ∧
  (∀ (a : List GNode) (left : Int), Ok (laws_szNodeS a left) e_laws_szNodeS (dn FTA n_laws_szNodeS [.t (.sl false (a.map (GNode.row false))), .t (.v (.int .i64 left))])) ∧
  (∀ (a : List GNode) (left1 : Int) (i : Int), Ok (laws_szNodeS_l16 a left1 i) e_laws_szNodeS (ev FTA c_laws_szNodeS (.loop k_laws_szNodeS_l16) [.lv 0, .th k_laws_szNodeS_r12] (putS (List.replicate 27 .dead) [(0, .t (.sl false (a.map (GNode.row false)))), (1, .t (.v (.int .i64 left1))), (5, .t (.v (.int .i64 i)))]) (putR (List.replicate 27 []) []))) := by
 unfold Ok
 refine laws_szNode.mutual_partial_correctness _ _ _ ?_ ?_ ?_
 ·intro F1 ih1 a left
  show Ok _ _ _
  have ih1 : ∀ (a : List GNode) (left : Int), Ok (F1 a left) _ _ := ih1
  rw [den_ev FTA (fn := k_laws_szNode) rfl (xN rfl rfl _) (lB rfl)]
  have k0 := @k_laws_szNode.eq_1; have g0 := laws_szDeclS_ok; have g1 := laws_szAttrS_ok; have g2 := ih1
  exact gs
 ·intro F2 ih2 a left
  show Ok _ _ _
  have ih2 : ∀ (a : List GNode) (left1 : Int) (i : Int), Ok (F2 a left1 i) _ _ := ih2
  rw [den_ev FTA (fn := k_laws_szNodeS) rfl (xN rfl rfl _) (lB rfl)]
  have k0 := @k_laws_szNodeS.eq_1; have t0 := ih2
  exact gs
 ·intro F0 F2 ih0 ih2 a left1 i
  show Ok _ _ _
  have ih0 : ∀ (a : GNode) (left : Int), Ok (F0 a left) _ _ := ih0
  have ih2 : ∀ (a : List GNode) (left1 : Int) (i : Int), Ok (F2 a left1 i) _ _ := ih2
  rw [ev_loop]
  have k0 := @k_laws_szNodeS_l16.eq_1; have k1 := @k_laws_szNodeS_r12.eq_1; have g0 := ih0; have t0 := ih2
  exact gs
theorem laws_szNode_ok (a : GNode) (left : Int) : Ok (laws_szNode a left) e_laws_szNode (dn FTA n_laws_szNode [.agg (((GNode.row false) a).map .t), .t (.v (.int .i64 left))]) := G_laws_szNode.1 a left
theorem laws_szNodeS_ok (a : List GNode) (left : Int) : Ok (laws_szNodeS a left) e_laws_szNodeS (dn FTA n_laws_szNodeS [.t (.sl false (a.map (GNode.row false))), .t (.v (.int .i64 left))]) := G_laws_szNode.2.1 a left
theorem laws_szOp_ok : ∀ (a : GOp) (left : Int), Ok (laws_szOp a left) e_laws_szOp (dn FTA n_laws_szOp [.agg (((GOp.row false) a).map .t), .t (.v (.int .i64 left))]) := by
 intro a left
 rw [den_ev FTA (fn := k_laws_szOp) rfl (xN rfl rfl _) (lB rfl)]
 have k0 := @k_laws_szOp.eq_1; have f0 := @laws_szOp.eq_1; have g0 := laws_szSel_ok; have g1 := laws_szNodeS_ok; have g2 := laws_szDeclS_ok
 exact gs
theorem laws_toPred_ok : ∀ (a : GPred), Ok (laws_toPred a) e_laws_toPred (dn FTA n_laws_toPred [.agg ((GPred.row a).map .t)]) := by
 intro a
 rw [den_ev FTA (fn := k_laws_toPred) rfl (xN rfl rfl _) (lB rfl)]
 have k0 := @k_laws_toPred.eq_1; have f0 := @laws_toPred.eq_1
 exact gs
theorem laws_toPredS_l8_ok (a : List GPred) : ∀ (out : List (GPred)) (i : Int), Ok (laws_toPredS_l8 a out i) e_laws_toPredS (ev FTA c_laws_toPredS (.loop k_laws_toPredS_l8) [.lv 0, .th k_laws_toPredS_r4] (putS (List.replicate 23 .dead) [(0, .t (.sl false (a.map GPred.row))), (3, .ref (7, 0) out.length), (4, .t (.v (.int .i64 i)))]) (putR (List.replicate 23 []) [(7, [.mem (out.map GPred.row) 0 false])])) := by
 unfold Ok
 refine laws_toPredS_l8.partial_correctness a _ ?_
 intro F ih out i
 show Ok _ _ _
 have ih : ∀ (out : List (GPred)) (i : Int), Ok (F out i) _ _ := ih
 rw [ev_loop]
 have k0 := @k_laws_toPredS_l8.eq_1; have k1 := @k_laws_toPredS_r4.eq_1; have g0 := laws_toPred_ok; have t0 := ih
 exact gs
theorem laws_toPredS_ok : ∀ (a : List GPred), Ok (laws_toPredS a) e_laws_toPredS (dn FTA n_laws_toPredS [.t (.sl false (a.map GPred.row))]) := by
 intro a
 rw [den_ev FTA (fn := k_laws_toPredS) rfl (xN rfl rfl _) (lB rfl)]
 have k0 := @k_laws_toPredS.eq_1; have f0 := @laws_toPredS.eq_1; have t0 := laws_toPredS_l8_ok
 exact gs
theorem laws_toStep_ok : ∀ (a : GStp), Ok (laws_toStep a) e_laws_toStep (dn FTA n_laws_toStep [.agg (((GStp.row false) a).map .t)]) := by
 intro a
 rw [den_ev FTA (fn := k_laws_toStep) rfl (xN rfl rfl _) (lB rfl)]
 have k0 := @k_laws_toStep.eq_1; have f0 := @laws_toStep.eq_1; have g0 := laws_toPredS_ok
 exact gs
theorem laws_toStepS_l8_ok (a : List GStp) : ∀ (out : List (GStp)) (i : Int), Ok (laws_toStepS_l8 a out i) e_laws_toStepS (ev FTA c_laws_toStepS (.loop k_laws_toStepS_l8) [.lv 0, .th k_laws_toStepS_r4] (putS (List.replicate 23 .dead) [(0, .t (.sl false (a.map (GStp.row false)))), (3, .ref (7, 0) out.length), (4, .t (.v (.int .i64 i)))]) (putR (List.replicate 23 []) [(7, [.mem (out.map (GStp.row true)) 0 false])])) := by
 unfold Ok
 refine laws_toStepS_l8.partial_correctness a _ ?_
 intro F ih out i
 show Ok _ _ _
 have ih : ∀ (out : List (GStp)) (i : Int), Ok (F out i) _ _ := ih
 rw [ev_loop]
 have k0 := @k_laws_toStepS_l8.eq_1; have k1 := @k_laws_toStepS_r4.eq_1; have g0 := laws_toStep_ok; have t0 := ih
 exact gs
theorem laws_toStepS_ok : ∀ (a : List GStp), Ok (laws_toStepS a) e_laws_toStepS (dn FTA n_laws_toStepS [.t (.sl false (a.map (GStp.row false)))]) := by
 intro a
 rw [den_ev FTA (fn := k_laws_toStepS) rfl (xN rfl rfl _) (lB rfl)]
 have k0 := @k_laws_toStepS.eq_1; have f0 := @laws_toStepS.eq_1; have t0 := laws_toStepS_l8_ok
 exact gs
theorem laws_toSel_ok : ∀ (a : GSel), Ok (laws_toSel a) e_laws_toSel (dn FTA n_laws_toSel [.agg (((GSel.row false) a).map .t)]) := by
 intro a
 rw [den_ev FTA (fn := k_laws_toSel) rfl (xN rfl rfl _) (lB rfl)]
 have k0 := @k_laws_toSel.eq_1; have f0 := @laws_toSel.eq_1; have g0 := laws_toStepS_ok
 exact gs
theorem laws_toDecl_ok : ∀ (a : GDecl), Ok (laws_toDecl a) e_laws_toDecl (dn FTA n_laws_toDecl [.agg ((GDecl.row a).map .t)]) := by
 intro a
 rw [den_ev FTA (fn := k_laws_toDecl) rfl (xN rfl rfl _) (lB rfl)]
 have k0 := @k_laws_toDecl.eq_1; have f0 := @laws_toDecl.eq_1
 exact gs
end TT
