import Derived.Test.YtejfgkcjhmmjkaaGreatDoorTKK
import Derived.Test.YtejfgkcjhmmjkaaGreatDoorTDefs
set_option maxHeartbeats 2000000
set_option linter.unusedVariables false
set_option linter.unusedSimpArgs false
set_option linter.defProp false
set_option maxRecDepth 100000
namespace TT
open Go
open Nat (reduceAdd reduceSub reduceMul reduceLeDiff reduceLT reduceEqDiff)
def e_laws_big (r : Bool) : Res := ⟨[.t (.v (.bool r))], []⟩
def c_laws_big : Cx := ⟨1, [0], [.tmp 2]⟩
def e_spec_l1New (r : Gl1Cur) : Res := ⟨[.box [.sl false (r.xb.map (rK .u8)), .v (.int .i64 r.xi), .v (.int .i64 r.xh)]], []⟩
def c_spec_l1New : Cx := ⟨1, [0], [.tmp 2]⟩
def e_spec_l1Byte (r : Int × Gl1Cur) : Res := ⟨[.t (.v (.int .i64 r.1))], [some [[.sl false (r.2.xb.map (rK .u8)), .v (.int .i64 r.2.xi), .v (.int .i64 r.2.xh)]]]⟩
def c_spec_l1Byte : Cx := ⟨1, [1], [.tmp 2]⟩
def e_spec_l1Below (r : Int × Gl1Cur) : Res := ⟨[.t (.v (.int .i64 r.1))], [some [[.sl false (r.2.xb.map (rK .u8)), .v (.int .i64 r.2.xi), .v (.int .i64 r.2.xh)]]]⟩
def c_spec_l1Below : Cx := ⟨2, [1, 0], [.tmp 4]⟩
def e_spec_l1Str (r : ByteArray × Gl1Cur) : Res := ⟨[.t (.v (.string r.1))], [some [[.sl false (r.2.xb.map (rK .u8)), .v (.int .i64 r.2.xi), .v (.int .i64 r.2.xh)]]]⟩
def c_spec_l1Str : Cx := ⟨2, [1, 0], [.tmp 4]⟩
def e_spec_l1Once (r : Bool × Gl1Cur) : Res := ⟨[.t (.v (.bool r.1))], [some [[.sl false (r.2.xb.map (rK .u8)), .v (.int .i64 r.2.xi), .v (.int .i64 r.2.xh)]]]⟩
def c_spec_l1Once : Cx := ⟨2, [1, 0], [.tmp 4]⟩
def e_spec_l1Int (r : Int × Gl1Cur) : Res := ⟨[.t (.v (.int .i64 r.1))], [some [[.sl false (r.2.xb.map (rK .u8)), .v (.int .i64 r.2.xi), .v (.int .i64 r.2.xh)]]]⟩
def c_spec_l1Int : Cx := ⟨2, [1, 0], [.tmp 4]⟩
def e_spec_l1Text (r : ByteArray × Gl1Cur) : Res := ⟨[.t (.v (.string r.1))], [some [[.sl false (r.2.xb.map (rK .u8)), .v (.int .i64 r.2.xi), .v (.int .i64 r.2.xh)]]]⟩
def c_spec_l1Text : Cx := ⟨1, [1], [.tmp 2]⟩
def e_spec_DrawEscText (r : ByteArray) : Res := ⟨[.t (.v (.string r))], []⟩
def c_spec_DrawEscText : Cx := ⟨1, [0], [.tmp 2]⟩
def e_strings_ReplaceAll (r : ByteArray) : Res := ⟨[.t (.v (.string r))], []⟩
def c_strings_ReplaceAll : Cx := ⟨3, [0, 0, 0], [.tmp 6]⟩
def e_impl_EscText (r : ByteArray) : Res := ⟨[.t (.v (.string r))], []⟩
def c_impl_EscText : Cx := ⟨1, [0], [.tmp 2]⟩
def e_impl_EscAttr (r : ByteArray) : Res := ⟨[.t (.v (.string r))], []⟩
def c_impl_EscAttr : Cx := ⟨1, [0], [.tmp 2]⟩
def e_spec_l3Refs (r : ByteArray × Gl1Cur) : Res := ⟨[.t (.v (.string r.1))], [some [[.sl false (r.2.xb.map (rK .u8)), .v (.int .i64 r.2.xi), .v (.int .i64 r.2.xh)]]]⟩
def c_spec_l3Refs : Cx := ⟨1, [1], [.tmp 2]⟩
def e_spec_l3Ents (r : List GEnt × Gl1Cur) : Res := ⟨[.t (.sl true (r.1.map GEnt.row))], [some [[.sl false (r.2.xb.map (rK .u8)), .v (.int .i64 r.2.xi), .v (.int .i64 r.2.xh)]]]⟩
def c_spec_l3Ents : Cx := ⟨1, [1], [.tmp 2]⟩
def e_spec_DrawExpand (r : ByteArray × List GEnt) : Res := ⟨[.t (.v (.string r.1)), .t (.sl true (r.2.map GEnt.row))], []⟩
def c_spec_DrawExpand : Cx := ⟨1, [0], [.tmp 2, .tmp 3]⟩
def e_impl_in (r : Bool) : Res := ⟨[.t (.v (.bool r))], []⟩
def c_impl_in : Cx := ⟨3, [0, 0, 0], [.tmp 6]⟩
def e_unicode_utf8_DecodeRuneInString (r : Int × Int) : Res := ⟨[.t (.v (.int .i32 r.1)), .t (.v (.int .i64 r.2))], []⟩
def c_unicode_utf8_DecodeRuneInString : Cx := ⟨1, [0], [.tmp 2, .tmp 3]⟩
def e_impl_SignAt (r : Int × Int × Bool) : Res := ⟨[.t (.v (.int .i64 r.1)), .t (.v (.int .i64 r.2.1)), .t (.v (.bool r.2.2))], []⟩
def c_impl_SignAt : Cx := ⟨2, [0, 0], [.tmp 4, .tmp 5, .tmp 6]⟩
def e_impl_inAny_1 (r : Bool × Int) : Res := ⟨[.t (.v (.bool r.1))], [some [[.v (.int .i64 r.2)]]]⟩
def c_impl_inAny_1 : Cx := ⟨2, [0, 1], [.tmp 3]⟩
def e_slices_IndexFunc_A2int_inAny_1 (r : Int × Int) : Res := ⟨[.t (.v (.int .i64 r.1))], [some [[.v (.int .i64 r.2)]]]⟩
def c_slices_IndexFunc_A2int_inAny_1 : Cx := ⟨2, [0, 1], [.tmp 4]⟩
def e_slices_ContainsFunc_A2int_inAny_1 (r : Bool × Int) : Res := ⟨[.t (.v (.bool r.1))], [some [[.v (.int .i64 r.2)]]]⟩
def c_slices_ContainsFunc_A2int_inAny_1 : Cx := ⟨2, [0, 1], [.tmp 4]⟩
def e_impl_inAny (r : Bool) : Res := ⟨[.t (.v (.bool r))], []⟩
def c_impl_inAny : Cx := ⟨2, [0, 0], [.tmp 4]⟩
def e_impl_IsSign (r : Bool) : Res := ⟨[.t (.v (.bool r))], []⟩
def c_impl_IsSign : Cx := ⟨1, [0], [.tmp 2]⟩
def e_impl_signsOk (r : Bool) : Res := ⟨[.t (.v (.bool r))], []⟩
def c_impl_signsOk : Cx := ⟨1, [0], [.tmp 2]⟩
def e_impl_IsStart (r : Bool) : Res := ⟨[.t (.v (.bool r))], []⟩
def c_impl_IsStart : Cx := ⟨1, [0], [.tmp 2]⟩
def e_impl_IsPart (r : Bool) : Res := ⟨[.t (.v (.bool r))], []⟩
def c_impl_IsPart : Cx := ⟨1, [0], [.tmp 2]⟩
def e_impl_PlainOk (r : Bool) : Res := ⟨[.t (.v (.bool r))], []⟩
def c_impl_PlainOk : Cx := ⟨1, [0], [.tmp 2]⟩
def e_impl_ownNames (r : List ByteArray) : Res := ⟨[.t (.sl true (r.map rS))], []⟩
def c_impl_ownNames : Cx := ⟨0, [], [.tmp 0]⟩
def e_slices_Index_string (r : Int) : Res := ⟨[.t (.v (.int .i64 r))], []⟩
def c_slices_Index_string : Cx := ⟨2, [0, 0], [.tmp 4]⟩
def e_slices_Contains_string (r : Bool) : Res := ⟨[.t (.v (.bool r))], []⟩
def c_slices_Contains_string : Cx := ⟨2, [0, 0], [.tmp 4]⟩
def e_impl_TextOk (r : Bool) : Res := ⟨[.t (.v (.bool r))], []⟩
def c_impl_TextOk : Cx := ⟨1, [0], [.tmp 2]⟩
def e_impl_entAt_1 (r : Bool × ByteArray) : Res := ⟨[.t (.v (.bool r.1))], [some [[.v (.string r.2)]]]⟩
def c_impl_entAt_1 : Cx := ⟨2, [0, 1], [.tmp 3]⟩
def e_slices_IndexFunc_Ent_entAt_1 (r : Int × ByteArray) : Res := ⟨[.t (.v (.int .i64 r.1))], [some [[.v (.string r.2)]]]⟩
def c_slices_IndexFunc_Ent_entAt_1 : Cx := ⟨2, [0, 1], [.tmp 4]⟩
def e_impl_entAt (r : Int) : Res := ⟨[.t (.v (.int .i64 r))], []⟩
def c_impl_entAt : Cx := ⟨2, [0, 0], [.tmp 4]⟩
def e_impl_EntsOk (r : Bool) : Res := ⟨[.t (.v (.bool r))], []⟩
def c_impl_EntsOk : Cx := ⟨1, [0], [.tmp 2]⟩
def e_strings_Cut (r : ByteArray × ByteArray × Bool) : Res := ⟨[.t (.v (.string r.1)), .t (.v (.string r.2.1)), .t (.v (.bool r.2.2))], []⟩
def c_strings_Cut : Cx := ⟨2, [0, 0], [.tmp 4, .tmp 5, .tmp 6]⟩
def e_internal_stringslite_HasPrefix (r : Bool) : Res := ⟨[.t (.v (.bool r))], []⟩
def c_internal_stringslite_HasPrefix : Cx := ⟨2, [0, 0], [.tmp 4]⟩
def e_internal_stringslite_CutPrefix (r : ByteArray × Bool) : Res := ⟨[.t (.v (.string r.1)), .t (.v (.bool r.2))], []⟩
def c_internal_stringslite_CutPrefix : Cx := ⟨2, [0, 0], [.tmp 4, .tmp 5]⟩
def e_strings_CutPrefix (r : ByteArray × Bool) : Res := ⟨[.t (.v (.string r.1)), .t (.v (.bool r.2))], []⟩
def c_strings_CutPrefix : Cx := ⟨2, [0, 0], [.tmp 4, .tmp 5]⟩
def e_impl_isDigits (r : Bool) : Res := ⟨[.t (.v (.bool r))], []⟩
def c_impl_isDigits : Cx := ⟨3, [0, 0, 0], [.tmp 6]⟩
def e_internal_strconv_lower (r : Int) : Res := ⟨[.t (.v (.int .u8 r))], []⟩
def c_internal_strconv_lower : Cx := ⟨1, [0], [.tmp 2]⟩
def e_internal_strconv_underscoreOK (r : Bool) : Res := ⟨[.t (.v (.bool r))], []⟩
def c_internal_strconv_underscoreOK : Cx := ⟨1, [0], [.tmp 2]⟩
def e_internal_strconv_ParseUint (r : Int × Unit) : Res := ⟨[.t (.v (.int .u64 r.1)), .t (.v .nilIface)], []⟩
def c_internal_strconv_ParseUint : Cx := ⟨3, [0, 0, 0], [.tmp 6, .tmp 7]⟩
def e_internal_strconv_ParseInt (r : Int × Unit) : Res := ⟨[.t (.v (.int .i64 r.1)), .t (.v .nilIface)], []⟩
def c_internal_strconv_ParseInt : Cx := ⟨3, [0, 0, 0], [.tmp 6, .tmp 7]⟩
def e_strconv_ParseInt (r : Int × Unit) : Res := ⟨[.t (.v (.int .i64 r.1)), .t (.v .nilIface)], []⟩
def c_strconv_ParseInt : Cx := ⟨3, [0, 0, 0], [.tmp 6, .tmp 7]⟩
def e_impl_SignText (r : ByteArray) : Res := ⟨[.t (.v (.string r))], []⟩
def c_impl_SignText : Cx := ⟨1, [0], [.tmp 2]⟩
def e_impl_numbered (r : ByteArray × Bool) : Res := ⟨[.t (.v (.string r.1)), .t (.v (.bool r.2))], []⟩
def c_impl_numbered : Cx := ⟨3, [0, 0, 0], [.tmp 6, .tmp 7]⟩
def e_impl_stands (r : ByteArray × Bool) : Res := ⟨[.t (.v (.string r.1)), .t (.v (.bool r.2))], []⟩
def c_impl_stands : Cx := ⟨2, [0, 0], [.tmp 4, .tmp 5]⟩
def e_impl_Expand (r : ByteArray × Bool) : Res := ⟨[.t (.v (.string r.1)), .t (.v (.bool r.2))], []⟩
def c_impl_Expand : Cx := ⟨2, [0, 0], [.tmp 4, .tmp 5]⟩
def e_spec_l1In (r : Bool) : Res := ⟨[.t (.v (.bool r))], []⟩
def c_spec_l1In : Cx := ⟨3, [0, 0, 0], [.tmp 6]⟩
def e_spec_SignAt (r : Int × Int × Bool) : Res := ⟨[.t (.v (.int .i64 r.1)), .t (.v (.int .i64 r.2.1)), .t (.v (.bool r.2.2))], []⟩
def c_spec_SignAt : Cx := ⟨2, [0, 0], [.tmp 4, .tmp 5, .tmp 6]⟩
def e_spec_IsSign (r : Bool) : Res := ⟨[.t (.v (.bool r))], []⟩
def c_spec_IsSign : Cx := ⟨1, [0], [.tmp 2]⟩
def e_spec_l1Signs (r : Bool) : Res := ⟨[.t (.v (.bool r))], []⟩
def c_spec_l1Signs : Cx := ⟨1, [0], [.tmp 2]⟩
def e_spec_l1Ranges (r : Bool) : Res := ⟨[.t (.v (.bool r))], []⟩
def c_spec_l1Ranges : Cx := ⟨2, [0, 0], [.tmp 4]⟩
def e_spec_IsStart (r : Bool) : Res := ⟨[.t (.v (.bool r))], []⟩
def c_spec_IsStart : Cx := ⟨1, [0], [.tmp 2]⟩
def e_spec_IsPart (r : Bool) : Res := ⟨[.t (.v (.bool r))], []⟩
def c_spec_IsPart : Cx := ⟨1, [0], [.tmp 2]⟩
def e_spec_PlainOk (r : Bool) : Res := ⟨[.t (.v (.bool r))], []⟩
def c_spec_PlainOk : Cx := ⟨1, [0], [.tmp 2]⟩
def e_spec_l3Known (r : ByteArray) : Res := ⟨[.t (.v (.string r))], []⟩
def c_spec_l3Known : Cx := ⟨1, [0], [.tmp 2]⟩
def e_spec_TextOk (r : Bool) : Res := ⟨[.t (.v (.bool r))], []⟩
def c_spec_TextOk : Cx := ⟨1, [0], [.tmp 2]⟩
def e_spec_EntsOk (r : Bool) : Res := ⟨[.t (.v (.bool r))], []⟩
def c_spec_EntsOk : Cx := ⟨1, [0], [.tmp 2]⟩
def e_spec_l3Number (r : Int) : Res := ⟨[.t (.v (.int .i64 r))], []⟩
def c_spec_l3Number : Cx := ⟨3, [0, 0, 0], [.tmp 6]⟩
def e_spec_SignText (r : ByteArray) : Res := ⟨[.t (.v (.string r))], []⟩
def c_spec_SignText : Cx := ⟨1, [0], [.tmp 2]⟩
def e_spec_l3One (r : ByteArray × Bool) : Res := ⟨[.t (.v (.string r.1)), .t (.v (.bool r.2))], []⟩
def c_spec_l3One : Cx := ⟨2, [0, 0], [.tmp 4, .tmp 5]⟩
def e_spec_Expand (r : ByteArray × Bool) : Res := ⟨[.t (.v (.string r.1)), .t (.v (.bool r.2))], []⟩
def c_spec_Expand : Cx := ⟨2, [0, 0], [.tmp 4, .tmp 5]⟩
def e_spec_l3Esc (r : ByteArray) : Res := ⟨[.t (.v (.string r))], []⟩
def c_spec_l3Esc : Cx := ⟨2, [0, 0], [.tmp 4]⟩
def e_spec_EscText (r : ByteArray) : Res := ⟨[.t (.v (.string r))], []⟩
def c_spec_EscText : Cx := ⟨1, [0], [.tmp 2]⟩
def e_spec_EscAttr (r : ByteArray) : Res := ⟨[.t (.v (.string r))], []⟩
def c_spec_EscAttr : Cx := ⟨1, [0], [.tmp 2]⟩
def e_laws_FnRefs (r : Bool) : Res := ⟨[.t (.v (.bool r))], []⟩
def c_laws_FnRefs : Cx := ⟨1, [0], [.tmp 2]⟩
theorem lT {α : Type} (l : List α) : ((lenL l).toNat < l.length + 1) = True := by simp [lenL]
def ES := And.intro @lT <| And.intro (@e_laws_big.eq_1) <| And.intro (@c_laws_big.eq_1) <| And.intro (@e_spec_l1New.eq_1) <| And.intro (@c_spec_l1New.eq_1) <| And.intro (@e_spec_l1Byte.eq_1) <| And.intro (@c_spec_l1Byte.eq_1) <| And.intro (@e_spec_l1Below.eq_1) <| And.intro (@c_spec_l1Below.eq_1) <| And.intro (@e_spec_l1Str.eq_1) <| And.intro (@c_spec_l1Str.eq_1) <| And.intro (@e_spec_l1Once.eq_1) <| And.intro (@c_spec_l1Once.eq_1) <| And.intro (@e_spec_l1Int.eq_1) <| And.intro (@c_spec_l1Int.eq_1) <| And.intro (@e_spec_l1Text.eq_1) <| And.intro (@c_spec_l1Text.eq_1) <| And.intro (@e_spec_DrawEscText.eq_1) <| And.intro (@c_spec_DrawEscText.eq_1) <| And.intro (@e_strings_ReplaceAll.eq_1) <| And.intro (@c_strings_ReplaceAll.eq_1) <| And.intro (@e_impl_EscText.eq_1) <| And.intro (@c_impl_EscText.eq_1) <| And.intro (@e_impl_EscAttr.eq_1) <| And.intro (@c_impl_EscAttr.eq_1) <| And.intro (@e_spec_l3Refs.eq_1) <| And.intro (@c_spec_l3Refs.eq_1) <| And.intro (@e_spec_l3Ents.eq_1) <| And.intro (@c_spec_l3Ents.eq_1) <| And.intro (@e_spec_DrawExpand.eq_1) <| And.intro (@c_spec_DrawExpand.eq_1) <| And.intro (@e_impl_in.eq_1) <| And.intro (@c_impl_in.eq_1) <| And.intro (@e_unicode_utf8_DecodeRuneInString.eq_1) <| And.intro (@c_unicode_utf8_DecodeRuneInString.eq_1) <| And.intro (@e_impl_SignAt.eq_1) <| And.intro (@c_impl_SignAt.eq_1) <| And.intro (@e_impl_inAny_1.eq_1) <| And.intro (@c_impl_inAny_1.eq_1) <| And.intro (@e_slices_IndexFunc_A2int_inAny_1.eq_1) <| And.intro (@c_slices_IndexFunc_A2int_inAny_1.eq_1) <| And.intro (@e_slices_ContainsFunc_A2int_inAny_1.eq_1) <| And.intro (@c_slices_ContainsFunc_A2int_inAny_1.eq_1) <| And.intro (@e_impl_inAny.eq_1) <| And.intro (@c_impl_inAny.eq_1) <| And.intro (@e_impl_IsSign.eq_1) <| And.intro (@c_impl_IsSign.eq_1) <| And.intro (@e_impl_signsOk.eq_1) <| And.intro (@c_impl_signsOk.eq_1) <| And.intro (@e_impl_IsStart.eq_1) <| And.intro (@c_impl_IsStart.eq_1) <| And.intro (@e_impl_IsPart.eq_1) <| And.intro (@c_impl_IsPart.eq_1) <| And.intro (@e_impl_PlainOk.eq_1) <| And.intro (@c_impl_PlainOk.eq_1) <| And.intro (@e_impl_ownNames.eq_1) <| And.intro (@c_impl_ownNames.eq_1) <| And.intro (@e_slices_Index_string.eq_1) <| And.intro (@c_slices_Index_string.eq_1) <| And.intro (@e_slices_Contains_string.eq_1) <| And.intro (@c_slices_Contains_string.eq_1) <| And.intro (@e_impl_TextOk.eq_1) <| And.intro (@c_impl_TextOk.eq_1) <| And.intro (@e_impl_entAt_1.eq_1) <| And.intro (@c_impl_entAt_1.eq_1) <| And.intro (@e_slices_IndexFunc_Ent_entAt_1.eq_1) <| And.intro (@c_slices_IndexFunc_Ent_entAt_1.eq_1) <| And.intro (@e_impl_entAt.eq_1) <| And.intro (@c_impl_entAt.eq_1) <| And.intro (@e_impl_EntsOk.eq_1) <| And.intro (@c_impl_EntsOk.eq_1) <| And.intro (@e_strings_Cut.eq_1) <| And.intro (@c_strings_Cut.eq_1) <| And.intro (@e_internal_stringslite_HasPrefix.eq_1) <| And.intro (@c_internal_stringslite_HasPrefix.eq_1) <| And.intro (@e_internal_stringslite_CutPrefix.eq_1) <| And.intro (@c_internal_stringslite_CutPrefix.eq_1) <| And.intro (@e_strings_CutPrefix.eq_1) <| And.intro (@c_strings_CutPrefix.eq_1) <| And.intro (@e_impl_isDigits.eq_1) <| And.intro (@c_impl_isDigits.eq_1) <| And.intro (@e_internal_strconv_lower.eq_1) <| And.intro (@c_internal_strconv_lower.eq_1) <| And.intro (@e_internal_strconv_underscoreOK.eq_1) <| And.intro (@c_internal_strconv_underscoreOK.eq_1) <| And.intro (@e_internal_strconv_ParseUint.eq_1) <| And.intro (@c_internal_strconv_ParseUint.eq_1) <| And.intro (@e_internal_strconv_ParseInt.eq_1) <| And.intro (@c_internal_strconv_ParseInt.eq_1) <| And.intro (@e_strconv_ParseInt.eq_1) <| And.intro (@c_strconv_ParseInt.eq_1) <| And.intro (@e_impl_SignText.eq_1) <| And.intro (@c_impl_SignText.eq_1) <| And.intro (@e_impl_numbered.eq_1) <| And.intro (@c_impl_numbered.eq_1) <| And.intro (@e_impl_stands.eq_1) <| And.intro (@c_impl_stands.eq_1) <| And.intro (@e_impl_Expand.eq_1) <| And.intro (@c_impl_Expand.eq_1) <| And.intro (@e_spec_l1In.eq_1) <| And.intro (@c_spec_l1In.eq_1) <| And.intro (@e_spec_SignAt.eq_1) <| And.intro (@c_spec_SignAt.eq_1) <| And.intro (@e_spec_IsSign.eq_1) <| And.intro (@c_spec_IsSign.eq_1) <| And.intro (@e_spec_l1Signs.eq_1) <| And.intro (@c_spec_l1Signs.eq_1) <| And.intro (@e_spec_l1Ranges.eq_1) <| And.intro (@c_spec_l1Ranges.eq_1) <| And.intro (@e_spec_IsStart.eq_1) <| And.intro (@c_spec_IsStart.eq_1) <| And.intro (@e_spec_IsPart.eq_1) <| And.intro (@c_spec_IsPart.eq_1) <| And.intro (@e_spec_PlainOk.eq_1) <| And.intro (@c_spec_PlainOk.eq_1) <| And.intro (@e_spec_l3Known.eq_1) <| And.intro (@c_spec_l3Known.eq_1) <| And.intro (@e_spec_TextOk.eq_1) <| And.intro (@c_spec_TextOk.eq_1) <| And.intro (@e_spec_EntsOk.eq_1) <| And.intro (@c_spec_EntsOk.eq_1) <| And.intro (@e_spec_l3Number.eq_1) <| And.intro (@c_spec_l3Number.eq_1) <| And.intro (@e_spec_SignText.eq_1) <| And.intro (@c_spec_SignText.eq_1) <| And.intro (@e_spec_l3One.eq_1) <| And.intro (@c_spec_l3One.eq_1) <| And.intro (@e_spec_Expand.eq_1) <| And.intro (@c_spec_Expand.eq_1) <| And.intro (@e_spec_l3Esc.eq_1) <| And.intro (@c_spec_l3Esc.eq_1) <| And.intro (@e_spec_EscText.eq_1) <| And.intro (@c_spec_EscText.eq_1) <| And.intro (@e_spec_EscAttr.eq_1) <| And.intro (@c_spec_EscAttr.eq_1) <| And.intro (@e_laws_FnRefs.eq_1) <| @c_laws_FnRefs.eq_1
theorem xN {f : FuncId} (h : FTA.cl.contains f = false) (h2 : (FTA.lb.all fun p => p.1 != f) = true) (args : List Arg) : xOf FTA f args = none := xOf_none h h2 args
theorem lB {a b : Nat} (h : Nat.ble a b = true) : a ≤ b := Nat.le_of_ble_eq_true h
theorem gs {p : Prop} (h : p := by
 try simp only [SSA, RS, reduceAdd, reduceSub, reduceMul, reduceLeDiff, reduceLT, reduceEqDiff, Nat.reduceBEq, ↓reduceIte, reduceCtorEq] at g0
 try simp only [SSA, RS, reduceAdd, reduceSub, reduceMul, reduceLeDiff, reduceLT, reduceEqDiff, Nat.reduceBEq, ↓reduceIte, reduceCtorEq] at g1
 try simp only [SSA, RS, reduceAdd, reduceSub, reduceMul, reduceLeDiff, reduceLT, reduceEqDiff, Nat.reduceBEq, ↓reduceIte, reduceCtorEq] at g2
 try simp only [SSA, RS, reduceAdd, reduceSub, reduceMul, reduceLeDiff, reduceLT, reduceEqDiff, Nat.reduceBEq, ↓reduceIte, reduceCtorEq] at g3
 try simp only [SSA, RS, reduceAdd, reduceSub, reduceMul, reduceLeDiff, reduceLT, reduceEqDiff, Nat.reduceBEq, ↓reduceIte, reduceCtorEq] at g4
 try simp only [SSA, RS, reduceAdd, reduceSub, reduceMul, reduceLeDiff, reduceLT, reduceEqDiff, Nat.reduceBEq, ↓reduceIte, reduceCtorEq] at g5
 try simp only [SSA, RS, reduceAdd, reduceSub, reduceMul, reduceLeDiff, reduceLT, reduceEqDiff, Nat.reduceBEq, ↓reduceIte, reduceCtorEq] at g6
 try simp only [SSA, RS, reduceAdd, reduceSub, reduceMul, reduceLeDiff, reduceLT, reduceEqDiff, Nat.reduceBEq, ↓reduceIte, reduceCtorEq] at g7
 try simp only [SSA, RS, reduceAdd, reduceSub, reduceMul, reduceLeDiff, reduceLT, reduceEqDiff, Nat.reduceBEq, ↓reduceIte, reduceCtorEq] at g8
 try simp only [SSA, RS, reduceAdd, reduceSub, reduceMul, reduceLeDiff, reduceLT, reduceEqDiff, Nat.reduceBEq, ↓reduceIte, reduceCtorEq] at g9
 try simp only [SSA, RS, reduceAdd, reduceSub, reduceMul, reduceLeDiff, reduceLT, reduceEqDiff, Nat.reduceBEq, ↓reduceIte, reduceCtorEq] at g10
 simp only [SSA, RS, ES, *, reduceAdd, reduceSub, reduceMul, reduceLeDiff, reduceLT, reduceEqDiff, Nat.reduceBEq, ↓reduceIte, reduceCtorEq]
 try clear k0
 try clear f0
 repeat' first
  | with_reducible exact Ok_none
  | ((with_reducible refine Ok_ret ?_); first | rfl | simp only [SSA, RS, ES])
  | ((with_reducible first
   | refine Ok_tail (t0 ..) ?_
   | refine Ok_tail (t1 ..) ?_); first | rfl | (simp only [SSA, RS, ES, reduceAdd, reduceSub, reduceMul, reduceLeDiff, reduceLT, reduceEqDiff, Nat.reduceBEq, ↓reduceIte, reduceCtorEq] <;> rfl) | (simp only [SSA, RS, ES, *, reduceAdd, reduceSub, reduceMul, reduceLeDiff, reduceLT, reduceEqDiff, Nat.reduceBEq, ↓reduceIte, reduceCtorEq] <;> rfl))
  | ((first
   | (with_reducible first
    | refine Ok_if (fun h => ?_) (fun h => ?_)
    | refine Ok_get fun a h => ?_
    | refine Ok_call (g0 ..) fun v => ?_
    | refine Ok_call (g1 ..) fun v => ?_
    | refine Ok_call (g2 ..) fun v => ?_
    | refine Ok_call (g3 ..) fun v => ?_
    | refine Ok_call (g4 ..) fun v => ?_
    | refine Ok_call (g5 ..) fun v => ?_
    | refine Ok_call (g6 ..) fun v => ?_
    | refine Ok_call (g7 ..) fun v => ?_
    | refine Ok_call (g8 ..) fun v => ?_
    | refine Ok_call (g9 ..) fun v => ?_
    | refine Ok_call (g10 ..) fun v => ?_
    | refine Ok_call g0 fun v => ?_
    | refine Ok_call g1 fun v => ?_
    | refine Ok_call g2 fun v => ?_
    | refine Ok_prim (p := catS _ _) fun a h => ?_
    | refine Ok_prim (p := bytesK _) fun a h => ?_
    | refine Ok_prim (p := room _ _) fun a h => ?_
    | refine Ok_prim (p := mkN _ _) fun a h => ?_
    | refine Ok_prim (p := subS _ _ _) fun a h => ?_
    | refine Ok_prim (p := slL _ _ _) fun a h => ?_
    | refine Ok_prim (p := atS _ _) fun a h => ?_
    | refine Ok_prim (p := quoI _ _) fun a h => ?_
    | refine Ok_prim (p := remI _ _) fun a h => ?_
    | refine Ok_prim (p := quoK _ _ _) fun a h => ?_
    | refine Ok_prim (p := remK _ _ _) fun a h => ?_
    | refine Ok_prim (p := shlK _ _ _) fun a h => ?_
    | refine Ok_prim (p := shrK _ _ _) fun a h => ?_
    | refine Ok_same fun h => ?_)
   | refine Ok_call (g0 ..) fun v => ?_
   | refine Ok_call (g1 ..) fun v => ?_
   | refine Ok_call (g2 ..) fun v => ?_
   | refine Ok_call (g3 ..) fun v => ?_
   | refine Ok_call (g4 ..) fun v => ?_
   | refine Ok_call (g5 ..) fun v => ?_
   | refine Ok_call (g6 ..) fun v => ?_
   | refine Ok_call (g7 ..) fun v => ?_
   | refine Ok_call (g8 ..) fun v => ?_
   | refine Ok_call (g9 ..) fun v => ?_
   | refine Ok_call (g10 ..) fun v => ?_
   | refine Ok_callq (g0 _) (by simp only [SSA, RS, List.map_cons, List.map_nil]) fun v => ?_
   | refine Ok_callq (g0 _ _) (by simp only [SSA, RS, List.map_cons, List.map_nil]) fun v => ?_
   | refine Ok_callq (g1 _) (by simp only [SSA, RS, List.map_cons, List.map_nil]) fun v => ?_
   | refine Ok_callq (g1 _ _) (by simp only [SSA, RS, List.map_cons, List.map_nil]) fun v => ?_
   | refine Ok_callq (g2 _) (by simp only [SSA, RS, List.map_cons, List.map_nil]) fun v => ?_
   | refine Ok_callq (g2 _ _) (by simp only [SSA, RS, List.map_cons, List.map_nil]) fun v => ?_
   | refine Ok_callq (g3 _) (by simp only [SSA, RS, List.map_cons, List.map_nil]) fun v => ?_
   | refine Ok_callq (g3 _ _) (by simp only [SSA, RS, List.map_cons, List.map_nil]) fun v => ?_
   | refine Ok_callq (g4 _) (by simp only [SSA, RS, List.map_cons, List.map_nil]) fun v => ?_
   | refine Ok_callq (g4 _ _) (by simp only [SSA, RS, List.map_cons, List.map_nil]) fun v => ?_
   | refine Ok_callq (g5 _) (by simp only [SSA, RS, List.map_cons, List.map_nil]) fun v => ?_
   | refine Ok_callq (g5 _ _) (by simp only [SSA, RS, List.map_cons, List.map_nil]) fun v => ?_
   | refine Ok_callq (g6 _) (by simp only [SSA, RS, List.map_cons, List.map_nil]) fun v => ?_
   | refine Ok_callq (g6 _ _) (by simp only [SSA, RS, List.map_cons, List.map_nil]) fun v => ?_
   | refine Ok_callq (g7 _) (by simp only [SSA, RS, List.map_cons, List.map_nil]) fun v => ?_
   | refine Ok_callq (g7 _ _) (by simp only [SSA, RS, List.map_cons, List.map_nil]) fun v => ?_
   | refine Ok_callq (g8 _) (by simp only [SSA, RS, List.map_cons, List.map_nil]) fun v => ?_
   | refine Ok_callq (g8 _ _) (by simp only [SSA, RS, List.map_cons, List.map_nil]) fun v => ?_
   | refine Ok_callq (g9 _) (by simp only [SSA, RS, List.map_cons, List.map_nil]) fun v => ?_
   | refine Ok_callq (g9 _ _) (by simp only [SSA, RS, List.map_cons, List.map_nil]) fun v => ?_
   | refine Ok_callq (g10 _) (by simp only [SSA, RS, List.map_cons, List.map_nil]) fun v => ?_
   | refine Ok_callq (g10 _ _) (by simp only [SSA, RS, List.map_cons, List.map_nil]) fun v => ?_) <;> simp only [SSA, RS, ES, *, reduceAdd, reduceSub, reduceMul, reduceLeDiff, reduceLT, reduceEqDiff, Nat.reduceBEq, ↓reduceIte, reduceCtorEq])) : p := h
theorem laws_big_ok : ∀ (code : List Int), Ok (laws_big code) e_laws_big (dn FTA n_laws_big [.t (.sl false (code.map (rK .u8)))]) := by
 intro code
 rw [den_ev FTA (fn := k_laws_big) rfl (xN rfl rfl _) (lB rfl)]
 have k0 := @k_laws_big.eq_1; have f0 := @laws_big.eq_1
 exact gs
theorem spec_l1New_l8_ok (code : List Int) : ∀ (h : Int) (i : Int), Ok (spec_l1New_l8 code h i) e_spec_l1New (ev FTA c_spec_l1New (.loop k_spec_l1New_l8) [.lv 0, .th k_spec_l1New_r4] (putS (List.replicate 32 .dead) [(0, .t (.sl false (code.map (rK .u8)))), (3, .t (.v (.int .i64 h))), (4, .t (.v (.int .i64 i)))]) (putR (List.replicate 32 []) [])) := by
 unfold Ok
 refine spec_l1New_l8.partial_correctness code _ ?_
 intro F ih h i
 show Ok _ _ _
 have ih : ∀ (h : Int) (i : Int), Ok (F h i) _ _ := ih
 rw [ev_loop]
 have k0 := @k_spec_l1New_l8.eq_1; have k1 := @k_spec_l1New_r4.eq_1; have t0 := ih
 exact gs
theorem spec_l1New_ok : ∀ (code : List Int), Ok (spec_l1New code) e_spec_l1New (dn FTA n_spec_l1New [.t (.sl false (code.map (rK .u8)))]) := by
 intro code
 rw [den_ev FTA (fn := k_spec_l1New) rfl (xN rfl rfl _) (lB rfl)]
 have k0 := @k_spec_l1New.eq_1; have f0 := @spec_l1New.eq_1; have t0 := spec_l1New_l8_ok
 exact gs
theorem spec_l1Byte_ok : ∀ (c : Gl1Cur), Ok (spec_l1Byte c) e_spec_l1Byte (dn FTA n_spec_l1Byte [.lp [.sl false (c.xb.map (rK .u8)), .v (.int .i64 c.xi), .v (.int .i64 c.xh)] 0]) := by
 intro c
 rw [den_ev FTA (fn := k_spec_l1Byte) rfl (xN rfl rfl _) (lB rfl)]
 have k0 := @k_spec_l1Byte.eq_1; have f0 := @spec_l1Byte.eq_1
 exact gs
theorem spec_l1Below_ok : ∀ (c : Gl1Cur) (n : Int), Ok (spec_l1Below c n) e_spec_l1Below (dn FTA n_spec_l1Below [.lp [.sl false (c.xb.map (rK .u8)), .v (.int .i64 c.xi), .v (.int .i64 c.xh)] 0, .t (.v (.int .i64 n))]) := by
 intro c n
 rw [den_ev FTA (fn := k_spec_l1Below) rfl (xN rfl rfl _) (lB rfl)]
 have k0 := @k_spec_l1Below.eq_1; have f0 := @spec_l1Below.eq_1; have g0 := spec_l1Byte_ok
 exact gs
theorem spec_l1Str_ok : ∀ (c : Gl1Cur) (list : List ByteArray), Ok (spec_l1Str c list) e_spec_l1Str (dn FTA n_spec_l1Str [.lp [.sl false (c.xb.map (rK .u8)), .v (.int .i64 c.xi), .v (.int .i64 c.xh)] 0, .t (.sl false (list.map rS))]) := by
 intro c list
 rw [den_ev FTA (fn := k_spec_l1Str) rfl (xN rfl rfl _) (lB rfl)]
 have k0 := @k_spec_l1Str.eq_1; have f0 := @spec_l1Str.eq_1; have g0 := spec_l1Below_ok
 exact gs
theorem spec_l1Once_ok : ∀ (c : Gl1Cur) (n : Int), Ok (spec_l1Once c n) e_spec_l1Once (dn FTA n_spec_l1Once [.lp [.sl false (c.xb.map (rK .u8)), .v (.int .i64 c.xi), .v (.int .i64 c.xh)] 0, .t (.v (.int .i64 n))]) := by
 intro c n
 rw [den_ev FTA (fn := k_spec_l1Once) rfl (xN rfl rfl _) (lB rfl)]
 have k0 := @k_spec_l1Once.eq_1; have f0 := @spec_l1Once.eq_1; have g0 := spec_l1Below_ok
 exact gs
theorem spec_l1Int_ok : ∀ (c : Gl1Cur) (list : List Int), Ok (spec_l1Int c list) e_spec_l1Int (dn FTA n_spec_l1Int [.lp [.sl false (c.xb.map (rK .u8)), .v (.int .i64 c.xi), .v (.int .i64 c.xh)] 0, .t (.sl false (list.map rI))]) := by
 intro c list
 rw [den_ev FTA (fn := k_spec_l1Int) rfl (xN rfl rfl _) (lB rfl)]
 have k0 := @k_spec_l1Int.eq_1; have f0 := @spec_l1Int.eq_1; have g0 := spec_l1Below_ok
 exact gs
theorem spec_l1Text_l24_ok : ∀ (s2 : ByteArray) (c3 : Gl1Cur), Ok (spec_l1Text_l24 s2 c3) e_spec_l1Text (ev FTA c_spec_l1Text (.loop k_spec_l1Text_l24) [.lv 2, .th k_spec_l1Text_r19] (putS (List.replicate 27 .dead) [(0, .ptr (0, 0) [] 0 0 1 0), (3, .t (.v (.string s2)))]) (putR (List.replicate 27 []) [(0, [.mem [[.sl false (c3.xb.map (rK .u8)), .v (.int .i64 c3.xi), .v (.int .i64 c3.xh)]] 0 true])])) := by
 unfold Ok
 refine spec_l1Text_l24.partial_correctness _ ?_
 intro F ih s2 c3
 show Ok _ _ _
 have ih : ∀ (s2 : ByteArray) (c3 : Gl1Cur), Ok (F s2 c3) _ _ := ih
 rw [ev_loop]
 have k0 := @k_spec_l1Text_l24.eq_1; have k1 := @k_spec_l1Text_r19.eq_1; have g0 := spec_l1Int_ok; have t0 := ih
 exact gs
theorem spec_l1Text_l8_ok : ∀ (s1 : ByteArray) (i : Int) (c2 : Gl1Cur), Ok (spec_l1Text_l8 s1 i c2) e_spec_l1Text (ev FTA c_spec_l1Text (.loop k_spec_l1Text_l8) [.lv 0, .th k_spec_l1Text_r4] (putS (List.replicate 27 .dead) [(0, .ptr (0, 0) [] 0 0 1 0), (3, .t (.v (.string s1))), (4, .t (.v (.int .i64 i)))]) (putR (List.replicate 27 []) [(0, [.mem [[.sl false (c2.xb.map (rK .u8)), .v (.int .i64 c2.xi), .v (.int .i64 c2.xh)]] 0 true])])) := by
 unfold Ok
 refine spec_l1Text_l8.partial_correctness _ ?_
 intro F ih s1 i c2
 show Ok _ _ _
 have ih : ∀ (s1 : ByteArray) (i : Int) (c2 : Gl1Cur), Ok (F s1 i c2) _ _ := ih
 rw [ev_loop]
 have k0 := @k_spec_l1Text_l8.eq_1; have k1 := @k_spec_l1Text_r19.eq_1; have k2 := @k_spec_l1Text_r4.eq_1; have g0 := spec_l1Str_ok; have g1 := spec_l1Once_ok; have t0 := ih; have t1 := spec_l1Text_l24_ok
 exact gs
theorem spec_l1Text_ok : ∀ (c : Gl1Cur), Ok (spec_l1Text c) e_spec_l1Text (dn FTA n_spec_l1Text [.lp [.sl false (c.xb.map (rK .u8)), .v (.int .i64 c.xi), .v (.int .i64 c.xh)] 0]) := by
 intro c
 rw [den_ev FTA (fn := k_spec_l1Text) rfl (xN rfl rfl _) (lB rfl)]
 have k0 := @k_spec_l1Text.eq_1; have f0 := @spec_l1Text.eq_1; have g0 := spec_l1Below_ok; have t0 := spec_l1Text_l8_ok
 exact gs
theorem spec_DrawEscText_ok : ∀ (code : List Int), Ok (spec_DrawEscText code) e_spec_DrawEscText (dn FTA n_spec_DrawEscText [.t (.sl false (code.map (rK .u8)))]) := by
 intro code
 rw [den_ev FTA (fn := k_spec_DrawEscText) rfl (xN rfl rfl _) (lB rfl)]
 have k0 := @k_spec_DrawEscText.eq_1; have f0 := @spec_DrawEscText.eq_1; have g0 := spec_l1New_ok; have g1 := spec_l1Text_ok
 exact gs
theorem strings_ReplaceAll_ok : ∀ (s : ByteArray) (t : ByteArray) (u : ByteArray), Ok (strings_ReplaceAll s t u) e_strings_ReplaceAll (dn FTA n_strings_ReplaceAll [.t (.v (.string s)), .t (.v (.string t)), .t (.v (.string u))]) := by
 intro s t u r hr
 exact den_ext FTA.ft (xOf FTA) (x_replace_ok s t u (e := e_strings_ReplaceAll) (fun _ => rfl) hr)
theorem impl_EscText_ok : ∀ (s : ByteArray), Ok (impl_EscText s) e_impl_EscText (dn FTA n_impl_EscText [.t (.v (.string s))]) := by
 intro s
 rw [den_ev FTA (fn := k_impl_EscText) rfl (xN rfl rfl _) (lB rfl)]
 have k0 := @k_impl_EscText.eq_1; have f0 := @impl_EscText.eq_1; have g0 := strings_ReplaceAll_ok
 exact gs
theorem impl_EscAttr_ok : ∀ (s : ByteArray), Ok (impl_EscAttr s) e_impl_EscAttr (dn FTA n_impl_EscAttr [.t (.v (.string s))]) := by
 intro s
 rw [den_ev FTA (fn := k_impl_EscAttr) rfl (xN rfl rfl _) (lB rfl)]
 have k0 := @k_impl_EscAttr.eq_1; have f0 := @impl_EscAttr.eq_1; have g0 := impl_EscText_ok; have g1 := strings_ReplaceAll_ok
 exact gs
theorem spec_l3Refs_l8_ok : ∀ (s : ByteArray) (i : Int) (c1 : Gl1Cur), Ok (spec_l3Refs_l8 s i c1) e_spec_l3Refs (ev FTA c_spec_l3Refs (.loop k_spec_l3Refs_l8) [.lv 0, .th k_spec_l3Refs_r4] (putS (List.replicate 17 .dead) [(0, .ptr (0, 0) [] 0 0 1 0), (3, .t (.v (.string s))), (4, .t (.v (.int .i64 i)))]) (putR (List.replicate 17 []) [(0, [.mem [[.sl false (c1.xb.map (rK .u8)), .v (.int .i64 c1.xi), .v (.int .i64 c1.xh)]] 0 true])])) := by
 unfold Ok
 refine spec_l3Refs_l8.partial_correctness _ ?_
 intro F ih s i c1
 show Ok _ _ _
 have ih : ∀ (s : ByteArray) (i : Int) (c1 : Gl1Cur), Ok (F s i c1) _ _ := ih
 rw [ev_loop]
 have k0 := @k_spec_l3Refs_l8.eq_1; have k1 := @k_spec_l3Refs_r4.eq_1; have g0 := spec_l1Str_ok; have t0 := ih
 exact gs
theorem spec_l3Refs_ok : ∀ (c : Gl1Cur), Ok (spec_l3Refs c) e_spec_l3Refs (dn FTA n_spec_l3Refs [.lp [.sl false (c.xb.map (rK .u8)), .v (.int .i64 c.xi), .v (.int .i64 c.xh)] 0]) := by
 intro c
 rw [den_ev FTA (fn := k_spec_l3Refs) rfl (xN rfl rfl _) (lB rfl)]
 have k0 := @k_spec_l3Refs.eq_1; have f0 := @spec_l3Refs.eq_1; have g0 := spec_l1Below_ok; have t0 := spec_l3Refs_l8_ok
 exact gs
theorem spec_l3Ents_j19_ok : ∀ (l2 : List (GEnt)) (c3 : Gl1Cur), Ok (spec_l3Ents_j19 l2 c3) e_spec_l3Ents (ev FTA c_spec_l3Ents k_spec_l3Ents_r19 [] (putS (List.replicate 47 .dead) [(0, .ptr (0, 0) [] 0 0 1 0), (3, .ref (5, 0) l2.length)]) (putR (List.replicate 47 []) [(0, [.mem [[.sl false (c3.xb.map (rK .u8)), .v (.int .i64 c3.xi), .v (.int .i64 c3.xh)]] 0 true]), (5, [.mem (l2.map GEnt.row) 0 false])])) := by
 intro l2 c3
 have k0 := @k_spec_l3Ents_r19.eq_1; have f0 := @spec_l3Ents_j19.eq_1; have g0 := spec_l1Once_ok
 exact gs
theorem spec_l3Ents_l8_ok : ∀ (l1 : List (GEnt)) (i : Int) (c2 : Gl1Cur), Ok (spec_l3Ents_l8 l1 i c2) e_spec_l3Ents (ev FTA c_spec_l3Ents (.loop k_spec_l3Ents_l8) [.lv 0, .th k_spec_l3Ents_r4] (putS (List.replicate 47 .dead) [(0, .ptr (0, 0) [] 0 0 1 0), (3, .ref (5, 0) l1.length), (4, .t (.v (.int .i64 i)))]) (putR (List.replicate 47 []) [(0, [.mem [[.sl false (c2.xb.map (rK .u8)), .v (.int .i64 c2.xi), .v (.int .i64 c2.xh)]] 0 true]), (5, [.mem (l1.map GEnt.row) 0 false])])) := by
 unfold Ok
 refine spec_l3Ents_l8.partial_correctness _ ?_
 intro F ih l1 i c2
 show Ok _ _ _
 have ih : ∀ (l1 : List (GEnt)) (i : Int) (c2 : Gl1Cur), Ok (F l1 i c2) _ _ := ih
 rw [ev_loop]
 have k0 := @k_spec_l3Ents_l8.eq_1; have k1 := @k_spec_l3Ents_r4.eq_1; have g0 := spec_l1Str_ok; have g1 := spec_l1Once_ok; have g2 := spec_l1Text_ok; have t0 := ih; have t1 := spec_l3Ents_j19_ok
 exact gs
theorem spec_l3Ents_ok : ∀ (c : Gl1Cur), Ok (spec_l3Ents c) e_spec_l3Ents (dn FTA n_spec_l3Ents [.lp [.sl false (c.xb.map (rK .u8)), .v (.int .i64 c.xi), .v (.int .i64 c.xh)] 0]) := by
 intro c
 rw [den_ev FTA (fn := k_spec_l3Ents) rfl (xN rfl rfl _) (lB rfl)]
 have k0 := @k_spec_l3Ents.eq_1; have f0 := @spec_l3Ents.eq_1; have g0 := spec_l1Below_ok; have t0 := spec_l3Ents_l8_ok
 exact gs
theorem spec_DrawExpand_ok : ∀ (code : List Int), Ok (spec_DrawExpand code) e_spec_DrawExpand (dn FTA n_spec_DrawExpand [.t (.sl false (code.map (rK .u8)))]) := by
 intro code
 rw [den_ev FTA (fn := k_spec_DrawExpand) rfl (xN rfl rfl _) (lB rfl)]
 have k0 := @k_spec_DrawExpand.eq_1; have f0 := @spec_DrawExpand.eq_1; have g0 := spec_l1New_ok; have g1 := spec_l3Refs_ok; have g2 := spec_l1Once_ok; have g3 := spec_l1Text_ok; have g4 := spec_l3Ents_ok
 exact gs
theorem impl_in_ok : ∀ (n : Int) (lo : Int) (hi : Int), Ok (impl_in n lo hi) e_impl_in (dn FTA n_impl_in [.t (.v (.int .i64 n)), .t (.v (.int .i64 lo)), .t (.v (.int .i64 hi))]) := by
 intro n lo hi
 rw [den_ev FTA (fn := k_impl_in) rfl (xN rfl rfl _) (lB rfl)]
 have k0 := @k_impl_in.eq_1; have f0 := @impl_in.eq_1
 exact gs
theorem unicode_utf8_DecodeRuneInString_ok : ∀ (s : ByteArray), Ok (unicode_utf8_DecodeRuneInString s) e_unicode_utf8_DecodeRuneInString (dn FTA n_unicode_utf8_DecodeRuneInString [.t (.v (.string s))]) := by
 intro s r hr
 exact den_ext FTA.ft (xOf FTA) (x_decode_ok s (e := e_unicode_utf8_DecodeRuneInString) (fun _ => rfl) hr)
theorem impl_SignAt_ok : ∀ (s : ByteArray) (at1 : Int), Ok (impl_SignAt s at1) e_impl_SignAt (dn FTA n_impl_SignAt [.t (.v (.string s)), .t (.v (.int .i64 at1))]) := by
 intro s at1
 rw [den_ev FTA (fn := k_impl_SignAt) rfl (xN rfl rfl _) (lB rfl)]
 have k0 := @k_impl_SignAt.eq_1; have f0 := @impl_SignAt.eq_1; have g0 := impl_in_ok; have g1 := unicode_utf8_DecodeRuneInString_ok
 exact gs
theorem impl_inAny_1_ok : ∀ (r : GArr2Int) (a1 : Int), Ok (impl_inAny_1 r a1) e_impl_inAny_1 (dn FTA n_impl_inAny_1 [.agg ((GArr2Int.row r).map .t), .lp [.v (.int .i64 a1)] 0]) := by
 intro r a1
 rw [den_ev FTA (fn := k_impl_inAny_1) rfl (xN rfl rfl _) (lB rfl)]
 have k0 := @k_impl_inAny_1.eq_1; have f0 := @impl_inAny_1.eq_1; have g0 := impl_in_ok
 exact gs
end TT
