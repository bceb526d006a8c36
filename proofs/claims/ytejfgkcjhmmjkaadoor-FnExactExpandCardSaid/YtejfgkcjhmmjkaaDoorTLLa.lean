import Derived.Test.YtejfgkcjhmmjkaaDoorTKK
import Derived.Test.YtejfgkcjhmmjkaaDoorTDefs
set_option maxHeartbeats 2000000
set_option linter.unusedVariables false
set_option linter.unusedSimpArgs false
set_option linter.defProp false
set_option maxRecDepth 100000
namespace TT
open Go
open Nat (reduceAdd reduceSub reduceMul reduceLeDiff reduceLT reduceEqDiff)
def e_laws_szEnt (r : Int) : Res := ⟨[.t (.v (.int .i64 r))], []⟩
def c_laws_szEnt : Cx := ⟨2, [0, 0], [.tmp 4]⟩
def e_laws_szEntS (r : Int) : Res := ⟨[.t (.v (.int .i64 r))], []⟩
def c_laws_szEntS : Cx := ⟨2, [0, 0], [.tmp 4]⟩
def e_laws_toEnt (r : GEnt) : Res := ⟨[.agg [.v (.string r.Name), .v (.string r.Val)]], []⟩
def c_laws_toEnt : Cx := ⟨1, [0], [.cell 2 2 true]⟩
def e_laws_toEntS (r : List GEnt) : Res := ⟨[.t (.sl true (r.map GEnt.row))], []⟩
def c_laws_toEntS : Cx := ⟨1, [0], [.tmp 2]⟩
def e_spec_l1In (r : Bool) : Res := ⟨[.t (.v (.bool r))], []⟩
def c_spec_l1In : Cx := ⟨3, [0, 0, 0], [.tmp 6]⟩
def e_spec_SignAt (r : Int × Int × Bool) : Res := ⟨[.t (.v (.int .i64 r.1)), .t (.v (.int .i64 r.2.1)), .t (.v (.bool r.2.2))], []⟩
def c_spec_SignAt : Cx := ⟨2, [0, 0], [.tmp 4, .tmp 5, .tmp 6]⟩
def e_spec_IsSign (r : Bool) : Res := ⟨[.t (.v (.bool r))], []⟩
def c_spec_IsSign : Cx := ⟨1, [0], [.tmp 2]⟩
def e_spec_l1Signs (r : Bool) : Res := ⟨[.t (.v (.bool r))], []⟩
def c_spec_l1Signs : Cx := ⟨1, [0], [.tmp 2]⟩
def e_spec_l1Ranges (r : Bool) : Res := ⟨[.t (.v (.bool r))], []⟩
def c_spec_l1Ranges : Cx := ⟨2, [0, 0], [.tmp 4]⟩
def e_spec_IsStart (r : Bool) : Res := ⟨[.t (.v (.bool r))], []⟩
def c_spec_IsStart : Cx := ⟨1, [0], [.tmp 2]⟩
def e_spec_IsPart (r : Bool) : Res := ⟨[.t (.v (.bool r))], []⟩
def c_spec_IsPart : Cx := ⟨1, [0], [.tmp 2]⟩
def e_spec_PlainOk (r : Bool) : Res := ⟨[.t (.v (.bool r))], []⟩
def c_spec_PlainOk : Cx := ⟨1, [0], [.tmp 2]⟩
def e_spec_l3Known (r : ByteArray) : Res := ⟨[.t (.v (.string r))], []⟩
def c_spec_l3Known : Cx := ⟨1, [0], [.tmp 2]⟩
def e_spec_TextOk (r : Bool) : Res := ⟨[.t (.v (.bool r))], []⟩
def c_spec_TextOk : Cx := ⟨1, [0], [.tmp 2]⟩
def e_spec_EntsOk (r : Bool) : Res := ⟨[.t (.v (.bool r))], []⟩
def c_spec_EntsOk : Cx := ⟨1, [0], [.tmp 2]⟩
def e_spec_l3Number (r : Int) : Res := ⟨[.t (.v (.int .i64 r))], []⟩
def c_spec_l3Number : Cx := ⟨3, [0, 0, 0], [.tmp 6]⟩
def e_spec_SignText (r : ByteArray) : Res := ⟨[.t (.v (.string r))], []⟩
def c_spec_SignText : Cx := ⟨1, [0], [.tmp 2]⟩
def e_spec_l3One (r : ByteArray × Bool) : Res := ⟨[.t (.v (.string r.1)), .t (.v (.bool r.2))], []⟩
def c_spec_l3One : Cx := ⟨2, [0, 0], [.tmp 4, .tmp 5]⟩
def e_spec_Expand (r : ByteArray × Bool) : Res := ⟨[.t (.v (.string r.1)), .t (.v (.bool r.2))], []⟩
def c_spec_Expand : Cx := ⟨2, [0, 0], [.tmp 4, .tmp 5]⟩
def e_impl_in (r : Bool) : Res := ⟨[.t (.v (.bool r))], []⟩
def c_impl_in : Cx := ⟨3, [0, 0, 0], [.tmp 6]⟩
def e_unicode_utf8_DecodeRuneInString (r : Int × Int) : Res := ⟨[.t (.v (.int .i32 r.1)), .t (.v (.int .i64 r.2))], []⟩
def c_unicode_utf8_DecodeRuneInString : Cx := ⟨1, [0], [.tmp 2, .tmp 3]⟩
def e_impl_SignAt (r : Int × Int × Bool) : Res := ⟨[.t (.v (.int .i64 r.1)), .t (.v (.int .i64 r.2.1)), .t (.v (.bool r.2.2))], []⟩
def c_impl_SignAt : Cx := ⟨2, [0, 0], [.tmp 4, .tmp 5, .tmp 6]⟩
def e_impl_inAny_1 (r : Bool × Int) : Res := ⟨[.t (.v (.bool r.1))], [some [[.v (.int .i64 r.2)]]]⟩
def c_impl_inAny_1 : Cx := ⟨2, [0, 1], [.tmp 3]⟩
def e_slices_IndexFunc_A2int_inAny_1 (r : Int × Int) : Res := ⟨[.t (.v (.int .i64 r.1))], [some [[.v (.int .i64 r.2)]]]⟩
def c_slices_IndexFunc_A2int_inAny_1 : Cx := ⟨2, [0, 1], [.tmp 4]⟩
def e_slices_ContainsFunc_A2int_inAny_1 (r : Bool × Int) : Res := ⟨[.t (.v (.bool r.1))], [some [[.v (.int .i64 r.2)]]]⟩
def c_slices_ContainsFunc_A2int_inAny_1 : Cx := ⟨2, [0, 1], [.tmp 4]⟩
def e_impl_inAny (r : Bool) : Res := ⟨[.t (.v (.bool r))], []⟩
def c_impl_inAny : Cx := ⟨2, [0, 0], [.tmp 4]⟩
def e_impl_IsSign (r : Bool) : Res := ⟨[.t (.v (.bool r))], []⟩
def c_impl_IsSign : Cx := ⟨1, [0], [.tmp 2]⟩
def e_impl_signsOk (r : Bool) : Res := ⟨[.t (.v (.bool r))], []⟩
def c_impl_signsOk : Cx := ⟨1, [0], [.tmp 2]⟩
def e_impl_IsStart (r : Bool) : Res := ⟨[.t (.v (.bool r))], []⟩
def c_impl_IsStart : Cx := ⟨1, [0], [.tmp 2]⟩
def e_impl_IsPart (r : Bool) : Res := ⟨[.t (.v (.bool r))], []⟩
def c_impl_IsPart : Cx := ⟨1, [0], [.tmp 2]⟩
def e_impl_PlainOk (r : Bool) : Res := ⟨[.t (.v (.bool r))], []⟩
def c_impl_PlainOk : Cx := ⟨1, [0], [.tmp 2]⟩
def e_impl_ownNames (r : List ByteArray) : Res := ⟨[.t (.sl true (r.map rS))], []⟩
def c_impl_ownNames : Cx := ⟨0, [], [.tmp 0]⟩
def e_slices_Index_string (r : Int) : Res := ⟨[.t (.v (.int .i64 r))], []⟩
def c_slices_Index_string : Cx := ⟨2, [0, 0], [.tmp 4]⟩
def e_slices_Contains_string (r : Bool) : Res := ⟨[.t (.v (.bool r))], []⟩
def c_slices_Contains_string : Cx := ⟨2, [0, 0], [.tmp 4]⟩
def e_impl_TextOk (r : Bool) : Res := ⟨[.t (.v (.bool r))], []⟩
def c_impl_TextOk : Cx := ⟨1, [0], [.tmp 2]⟩
def e_impl_entAt_1 (r : Bool × ByteArray) : Res := ⟨[.t (.v (.bool r.1))], [some [[.v (.string r.2)]]]⟩
def c_impl_entAt_1 : Cx := ⟨2, [0, 1], [.tmp 3]⟩
def e_slices_IndexFunc_Ent_entAt_1 (r : Int × ByteArray) : Res := ⟨[.t (.v (.int .i64 r.1))], [some [[.v (.string r.2)]]]⟩
def c_slices_IndexFunc_Ent_entAt_1 : Cx := ⟨2, [0, 1], [.tmp 4]⟩
def e_impl_entAt (r : Int) : Res := ⟨[.t (.v (.int .i64 r))], []⟩
def c_impl_entAt : Cx := ⟨2, [0, 0], [.tmp 4]⟩
def e_impl_EntsOk (r : Bool) : Res := ⟨[.t (.v (.bool r))], []⟩
def c_impl_EntsOk : Cx := ⟨1, [0], [.tmp 2]⟩
def e_strings_Cut (r : ByteArray × ByteArray × Bool) : Res := ⟨[.t (.v (.string r.1)), .t (.v (.string r.2.1)), .t (.v (.bool r.2.2))], []⟩
def c_strings_Cut : Cx := ⟨2, [0, 0], [.tmp 4, .tmp 5, .tmp 6]⟩
def e_internal_stringslite_HasPrefix (r : Bool) : Res := ⟨[.t (.v (.bool r))], []⟩
def c_internal_stringslite_HasPrefix : Cx := ⟨2, [0, 0], [.tmp 4]⟩
def e_internal_stringslite_CutPrefix (r : ByteArray × Bool) : Res := ⟨[.t (.v (.string r.1)), .t (.v (.bool r.2))], []⟩
def c_internal_stringslite_CutPrefix : Cx := ⟨2, [0, 0], [.tmp 4, .tmp 5]⟩
def e_strings_CutPrefix (r : ByteArray × Bool) : Res := ⟨[.t (.v (.string r.1)), .t (.v (.bool r.2))], []⟩
def c_strings_CutPrefix : Cx := ⟨2, [0, 0], [.tmp 4, .tmp 5]⟩
def e_impl_isDigits (r : Bool) : Res := ⟨[.t (.v (.bool r))], []⟩
def c_impl_isDigits : Cx := ⟨3, [0, 0, 0], [.tmp 6]⟩
def e_internal_strconv_lower (r : Int) : Res := ⟨[.t (.v (.int .u8 r))], []⟩
def c_internal_strconv_lower : Cx := ⟨1, [0], [.tmp 2]⟩
def e_internal_strconv_underscoreOK (r : Bool) : Res := ⟨[.t (.v (.bool r))], []⟩
def c_internal_strconv_underscoreOK : Cx := ⟨1, [0], [.tmp 2]⟩
def e_internal_strconv_ParseUint (r : Int × Unit) : Res := ⟨[.t (.v (.int .u64 r.1)), .t (.v .nilIface)], []⟩
def c_internal_strconv_ParseUint : Cx := ⟨3, [0, 0, 0], [.tmp 6, .tmp 7]⟩
def e_internal_strconv_ParseInt (r : Int × Unit) : Res := ⟨[.t (.v (.int .i64 r.1)), .t (.v .nilIface)], []⟩
def c_internal_strconv_ParseInt : Cx := ⟨3, [0, 0, 0], [.tmp 6, .tmp 7]⟩
def e_strconv_ParseInt (r : Int × Unit) : Res := ⟨[.t (.v (.int .i64 r.1)), .t (.v .nilIface)], []⟩
def c_strconv_ParseInt : Cx := ⟨3, [0, 0, 0], [.tmp 6, .tmp 7]⟩
def e_impl_SignText (r : ByteArray) : Res := ⟨[.t (.v (.string r))], []⟩
def c_impl_SignText : Cx := ⟨1, [0], [.tmp 2]⟩
def e_impl_numbered (r : ByteArray × Bool) : Res := ⟨[.t (.v (.string r.1)), .t (.v (.bool r.2))], []⟩
def c_impl_numbered : Cx := ⟨3, [0, 0, 0], [.tmp 6, .tmp 7]⟩
def e_impl_stands (r : ByteArray × Bool) : Res := ⟨[.t (.v (.string r.1)), .t (.v (.bool r.2))], []⟩
def c_impl_stands : Cx := ⟨2, [0, 0], [.tmp 4, .tmp 5]⟩
def e_impl_Expand (r : ByteArray × Bool) : Res := ⟨[.t (.v (.string r.1)), .t (.v (.bool r.2))], []⟩
def c_impl_Expand : Cx := ⟨2, [0, 0], [.tmp 4, .tmp 5]⟩
def e_laws_eqEnt (r : Bool) : Res := ⟨[.t (.v (.bool r))], []⟩
def c_laws_eqEnt : Cx := ⟨2, [0, 0], [.tmp 4]⟩
def e_laws_eqEntS (r : Bool) : Res := ⟨[.t (.v (.bool r))], []⟩
def c_laws_eqEntS : Cx := ⟨2, [0, 0], [.tmp 4]⟩
def e_laws_FnExactExpand (r : Bool) : Res := ⟨[.t (.v (.bool r))], []⟩
def c_laws_FnExactExpand : Cx := ⟨2, [0, 0], [.tmp 4]⟩
theorem lT {α : Type} (l : List α) : ((lenL l).toNat < l.length + 1) = True := by simp [lenL]
def ES := And.intro @lT <| And.intro (@e_laws_szEnt.eq_1) <| And.intro (@c_laws_szEnt.eq_1) <| And.intro (@e_laws_szEntS.eq_1) <| And.intro (@c_laws_szEntS.eq_1) <| And.intro (@e_laws_toEnt.eq_1) <| And.intro (@c_laws_toEnt.eq_1) <| And.intro (@e_laws_toEntS.eq_1) <| And.intro (@c_laws_toEntS.eq_1) <| And.intro (@e_spec_l1In.eq_1) <| And.intro (@c_spec_l1In.eq_1) <| And.intro (@e_spec_SignAt.eq_1) <| And.intro (@c_spec_SignAt.eq_1) <| And.intro (@e_spec_IsSign.eq_1) <| And.intro (@c_spec_IsSign.eq_1) <| And.intro (@e_spec_l1Signs.eq_1) <| And.intro (@c_spec_l1Signs.eq_1) <| And.intro (@e_spec_l1Ranges.eq_1) <| And.intro (@c_spec_l1Ranges.eq_1) <| And.intro (@e_spec_IsStart.eq_1) <| And.intro (@c_spec_IsStart.eq_1) <| And.intro (@e_spec_IsPart.eq_1) <| And.intro (@c_spec_IsPart.eq_1) <| And.intro (@e_spec_PlainOk.eq_1) <| And.intro (@c_spec_PlainOk.eq_1) <| And.intro (@e_spec_l3Known.eq_1) <| And.intro (@c_spec_l3Known.eq_1) <| And.intro (@e_spec_TextOk.eq_1) <| And.intro (@c_spec_TextOk.eq_1) <| And.intro (@e_spec_EntsOk.eq_1) <| And.intro (@c_spec_EntsOk.eq_1) <| And.intro (@e_spec_l3Number.eq_1) <| And.intro (@c_spec_l3Number.eq_1) <| And.intro (@e_spec_SignText.eq_1) <| And.intro (@c_spec_SignText.eq_1) <| And.intro (@e_spec_l3One.eq_1) <| And.intro (@c_spec_l3One.eq_1) <| And.intro (@e_spec_Expand.eq_1) <| And.intro (@c_spec_Expand.eq_1) <| And.intro (@e_impl_in.eq_1) <| And.intro (@c_impl_in.eq_1) <| And.intro (@e_unicode_utf8_DecodeRuneInString.eq_1) <| And.intro (@c_unicode_utf8_DecodeRuneInString.eq_1) <| And.intro (@e_impl_SignAt.eq_1) <| And.intro (@c_impl_SignAt.eq_1) <| And.intro (@e_impl_inAny_1.eq_1) <| And.intro (@c_impl_inAny_1.eq_1) <| And.intro (@e_slices_IndexFunc_A2int_inAny_1.eq_1) <| And.intro (@c_slices_IndexFunc_A2int_inAny_1.eq_1) <| And.intro (@e_slices_ContainsFunc_A2int_inAny_1.eq_1) <| And.intro (@c_slices_ContainsFunc_A2int_inAny_1.eq_1) <| And.intro (@e_impl_inAny.eq_1) <| And.intro (@c_impl_inAny.eq_1) <| And.intro (@e_impl_IsSign.eq_1) <| And.intro (@c_impl_IsSign.eq_1) <| And.intro (@e_impl_signsOk.eq_1) <| And.intro (@c_impl_signsOk.eq_1) <| And.intro (@e_impl_IsStart.eq_1) <| And.intro (@c_impl_IsStart.eq_1) <| And.intro (@e_impl_IsPart.eq_1) <| And.intro (@c_impl_IsPart.eq_1) <| And.intro (@e_impl_PlainOk.eq_1) <| And.intro (@c_impl_PlainOk.eq_1) <| And.intro (@e_impl_ownNames.eq_1) <| And.intro (@c_impl_ownNames.eq_1) <| And.intro (@e_slices_Index_string.eq_1) <| And.intro (@c_slices_Index_string.eq_1) <| And.intro (@e_slices_Contains_string.eq_1) <| And.intro (@c_slices_Contains_string.eq_1) <| And.intro (@e_impl_TextOk.eq_1) <| And.intro (@c_impl_TextOk.eq_1) <| And.intro (@e_impl_entAt_1.eq_1) <| And.intro (@c_impl_entAt_1.eq_1) <| And.intro (@e_slices_IndexFunc_Ent_entAt_1.eq_1) <| And.intro (@c_slices_IndexFunc_Ent_entAt_1.eq_1) <| And.intro (@e_impl_entAt.eq_1) <| And.intro (@c_impl_entAt.eq_1) <| And.intro (@e_impl_EntsOk.eq_1) <| And.intro (@c_impl_EntsOk.eq_1) <| And.intro (@e_strings_Cut.eq_1) <| And.intro (@c_strings_Cut.eq_1) <| And.intro (@e_internal_stringslite_HasPrefix.eq_1) <| And.intro (@c_internal_stringslite_HasPrefix.eq_1) <| And.intro (@e_internal_stringslite_CutPrefix.eq_1) <| And.intro (@c_internal_stringslite_CutPrefix.eq_1) <| And.intro (@e_strings_CutPrefix.eq_1) <| And.intro (@c_strings_CutPrefix.eq_1) <| And.intro (@e_impl_isDigits.eq_1) <| And.intro (@c_impl_isDigits.eq_1) <| And.intro (@e_internal_strconv_lower.eq_1) <| And.intro (@c_internal_strconv_lower.eq_1) <| And.intro (@e_internal_strconv_underscoreOK.eq_1) <| And.intro (@c_internal_strconv_underscoreOK.eq_1) <| And.intro (@e_internal_strconv_ParseUint.eq_1) <| And.intro (@c_internal_strconv_ParseUint.eq_1) <| And.intro (@e_internal_strconv_ParseInt.eq_1) <| And.intro (@c_internal_strconv_ParseInt.eq_1) <| And.intro (@e_strconv_ParseInt.eq_1) <| And.intro (@c_strconv_ParseInt.eq_1) <| And.intro (@e_impl_SignText.eq_1) <| And.intro (@c_impl_SignText.eq_1) <| And.intro (@e_impl_numbered.eq_1) <| And.intro (@c_impl_numbered.eq_1) <| And.intro (@e_impl_stands.eq_1) <| And.intro (@c_impl_stands.eq_1) <| And.intro (@e_impl_Expand.eq_1) <| And.intro (@c_impl_Expand.eq_1) <| And.intro (@e_laws_eqEnt.eq_1) <| And.intro (@c_laws_eqEnt.eq_1) <| And.intro (@e_laws_eqEntS.eq_1) <| And.intro (@c_laws_eqEntS.eq_1) <| And.intro (@e_laws_FnExactExpand.eq_1) <| @c_laws_FnExactExpand.eq_1
theorem xN {f : FuncId} (h : FTA.cl.contains f = false) (h2 : (FTA.lb.all fun p => p.1 != f) = true) (args : List Arg) : xOf FTA f args = none := xOf_none h h2 args
theorem lB {a b : Nat} (h : Nat.ble a b = true) : a ≤ b := Nat.le_of_ble_eq_true h
theorem gs {p : Prop} (h : p := by
 try simp only [SSA, RS, reduceAdd, reduceSub, reduceMul, reduceLeDiff, reduceLT, reduceEqDiff, Nat.reduceBEq, ↓reduceIte, reduceCtorEq] at g0
 try simp only [SSA, RS, reduceAdd, reduceSub, reduceMul, reduceLeDiff, reduceLT, reduceEqDiff, Nat.reduceBEq, ↓reduceIte, reduceCtorEq] at g1
 try simp only [SSA, RS, reduceAdd, reduceSub, reduceMul, reduceLeDiff, reduceLT, reduceEqDiff, Nat.reduceBEq, ↓reduceIte, reduceCtorEq] at g2
 try simp only [SSA, RS, reduceAdd, reduceSub, reduceMul, reduceLeDiff, reduceLT, reduceEqDiff, Nat.reduceBEq, ↓reduceIte, reduceCtorEq] at g3
 try simp only [SSA, RS, reduceAdd, reduceSub, reduceMul, reduceLeDiff, reduceLT, reduceEqDiff, Nat.reduceBEq, ↓reduceIte, reduceCtorEq] at g4
 simp only [SSA, RS, ES, *, reduceAdd, reduceSub, reduceMul, reduceLeDiff, reduceLT, reduceEqDiff, Nat.reduceBEq, ↓reduceIte, reduceCtorEq]
 try clear k0
 try clear f0
 repeat' first
  | with_reducible exact Ok_none
  | ((with_reducible refine Ok_ret ?_); first | rfl | simp only [SSA, RS, ES])
  | ((with_reducible first
   | refine Ok_tail (t0 ..) ?_
   | refine Ok_tail (t1 ..) ?_); first | rfl | (simp only [SSA, RS, ES, reduceAdd, reduceSub, reduceMul, reduceLeDiff, reduceLT, reduceEqDiff, Nat.reduceBEq, ↓reduceIte, reduceCtorEq] <;> rfl) | (simp only [SSA, RS, ES, *, reduceAdd, reduceSub, reduceMul, reduceLeDiff, reduceLT, reduceEqDiff, Nat.reduceBEq, ↓reduceIte, reduceCtorEq] <;> rfl))
  | ((first
   | (with_reducible first
    | refine Ok_if (fun h => ?_) (fun h => ?_)
    | refine Ok_get fun a h => ?_
    | refine Ok_call (g0 ..) fun v => ?_
    | refine Ok_call (g1 ..) fun v => ?_
    | refine Ok_call (g2 ..) fun v => ?_
    | refine Ok_call (g3 ..) fun v => ?_
    | refine Ok_call (g4 ..) fun v => ?_
    | refine Ok_call g0 fun v => ?_
    | refine Ok_call g1 fun v => ?_
    | refine Ok_call g2 fun v => ?_
    | refine Ok_prim (p := catS _ _) fun a h => ?_
    | refine Ok_prim (p := bytesK _) fun a h => ?_
    | refine Ok_prim (p := room _ _) fun a h => ?_
    | refine Ok_prim (p := mkN _ _) fun a h => ?_
    | refine Ok_prim (p := subS _ _ _) fun a h => ?_
    | refine Ok_prim (p := slL _ _ _) fun a h => ?_
    | refine Ok_prim (p := atS _ _) fun a h => ?_
    | refine Ok_prim (p := quoI _ _) fun a h => ?_
    | refine Ok_prim (p := remI _ _) fun a h => ?_
    | refine Ok_prim (p := quoK _ _ _) fun a h => ?_
    | refine Ok_prim (p := remK _ _ _) fun a h => ?_
    | refine Ok_prim (p := shlK _ _ _) fun a h => ?_
    | refine Ok_prim (p := shrK _ _ _) fun a h => ?_
    | refine Ok_same fun h => ?_)
   | refine Ok_call (g0 ..) fun v => ?_
   | refine Ok_call (g1 ..) fun v => ?_
   | refine Ok_call (g2 ..) fun v => ?_
   | refine Ok_call (g3 ..) fun v => ?_
   | refine Ok_call (g4 ..) fun v => ?_
   | refine Ok_callq (g0 _) (by simp only [SSA, RS, List.map_cons, List.map_nil]) fun v => ?_
   | refine Ok_callq (g0 _ _) (by simp only [SSA, RS, List.map_cons, List.map_nil]) fun v => ?_
   | refine Ok_callq (g1 _) (by simp only [SSA, RS, List.map_cons, List.map_nil]) fun v => ?_
   | refine Ok_callq (g1 _ _) (by simp only [SSA, RS, List.map_cons, List.map_nil]) fun v => ?_
   | refine Ok_callq (g2 _) (by simp only [SSA, RS, List.map_cons, List.map_nil]) fun v => ?_
   | refine Ok_callq (g2 _ _) (by simp only [SSA, RS, List.map_cons, List.map_nil]) fun v => ?_
   | refine Ok_callq (g3 _) (by simp only [SSA, RS, List.map_cons, List.map_nil]) fun v => ?_
   | refine Ok_callq (g3 _ _) (by simp only [SSA, RS, List.map_cons, List.map_nil]) fun v => ?_
   | refine Ok_callq (g4 _) (by simp only [SSA, RS, List.map_cons, List.map_nil]) fun v => ?_
   | refine Ok_callq (g4 _ _) (by simp only [SSA, RS, List.map_cons, List.map_nil]) fun v => ?_) <;> simp only [SSA, RS, ES, *, reduceAdd, reduceSub, reduceMul, reduceLeDiff, reduceLT, reduceEqDiff, Nat.reduceBEq, ↓reduceIte, reduceCtorEq])) : p := h
theorem laws_szEnt_ok : ∀ (a : GEnt) (left : Int), Ok (laws_szEnt a left) e_laws_szEnt (dn FTA n_laws_szEnt [.agg ((GEnt.row a).map .t), .t (.v (.int .i64 left))]) := by
 intro a left
 rw [den_ev FTA (fn := k_laws_szEnt) rfl (xN rfl rfl _) (lB rfl)]
 have k0 := @k_laws_szEnt.eq_1; have f0 := @laws_szEnt.eq_1
 exact gs
theorem laws_szEntS_l16_ok (a : List GEnt) : ∀ (left1 : Int) (i : Int), Ok (laws_szEntS_l16 a left1 i) e_laws_szEntS (ev FTA c_laws_szEntS (.loop k_laws_szEntS_l16) [.lv 0, .th k_laws_szEntS_r12] (putS (List.replicate 27 .dead) [(0, .t (.sl false (a.map GEnt.row))), (1, .t (.v (.int .i64 left1))), (5, .t (.v (.int .i64 i)))]) (putR (List.replicate 27 []) [])) := by
 unfold Ok
 refine laws_szEntS_l16.partial_correctness a _ ?_
 intro F ih left1 i
 show Ok _ _ _
 have ih : ∀ (left1 : Int) (i : Int), Ok (F left1 i) _ _ := ih
 rw [ev_loop]
 have k0 := @k_laws_szEntS_l16.eq_1; have k1 := @k_laws_szEntS_r12.eq_1; have g0 := laws_szEnt_ok; have t0 := ih
 exact gs
theorem laws_szEntS_ok : ∀ (a : List GEnt) (left : Int), Ok (laws_szEntS a left) e_laws_szEntS (dn FTA n_laws_szEntS [.t (.sl false (a.map GEnt.row)), .t (.v (.int .i64 left))]) := by
 intro a left
 rw [den_ev FTA (fn := k_laws_szEntS) rfl (xN rfl rfl _) (lB rfl)]
 have k0 := @k_laws_szEntS.eq_1; have f0 := @laws_szEntS.eq_1; have t0 := laws_szEntS_l16_ok
 exact gs
theorem laws_toEnt_ok : ∀ (a : GEnt), Ok (laws_toEnt a) e_laws_toEnt (dn FTA n_laws_toEnt [.agg ((GEnt.row a).map .t)]) := by
 intro a
 rw [den_ev FTA (fn := k_laws_toEnt) rfl (xN rfl rfl _) (lB rfl)]
 have k0 := @k_laws_toEnt.eq_1; have f0 := @laws_toEnt.eq_1
 exact gs
theorem laws_toEntS_l8_ok (a : List GEnt) : ∀ (out : List (GEnt)) (i : Int), Ok (laws_toEntS_l8 a out i) e_laws_toEntS (ev FTA c_laws_toEntS (.loop k_laws_toEntS_l8) [.lv 0, .th k_laws_toEntS_r4] (putS (List.replicate 23 .dead) [(0, .t (.sl false (a.map GEnt.row))), (3, .ref (7, 0) out.length), (4, .t (.v (.int .i64 i)))]) (putR (List.replicate 23 []) [(7, [.mem (out.map GEnt.row) 0 false])])) := by
 unfold Ok
 refine laws_toEntS_l8.partial_correctness a _ ?_
 intro F ih out i
 show Ok _ _ _
 have ih : ∀ (out : List (GEnt)) (i : Int), Ok (F out i) _ _ := ih
 rw [ev_loop]
 have k0 := @k_laws_toEntS_l8.eq_1; have k1 := @k_laws_toEntS_r4.eq_1; have g0 := laws_toEnt_ok; have t0 := ih
 exact gs
theorem laws_toEntS_ok : ∀ (a : List GEnt), Ok (laws_toEntS a) e_laws_toEntS (dn FTA n_laws_toEntS [.t (.sl false (a.map GEnt.row))]) := by
 intro a
 rw [den_ev FTA (fn := k_laws_toEntS) rfl (xN rfl rfl _) (lB rfl)]
 have k0 := @k_laws_toEntS.eq_1; have f0 := @laws_toEntS.eq_1; have t0 := laws_toEntS_l8_ok
 exact gs
theorem spec_l1In_ok : ∀ (a0 : Int) (least : Int) (most : Int), Ok (spec_l1In a0 least most) e_spec_l1In (dn FTA n_spec_l1In [.t (.v (.int .i64 a0)), .t (.v (.int .i64 least)), .t (.v (.int .i64 most))]) := by
 intro a0 least most
 rw [den_ev FTA (fn := k_spec_l1In) rfl (xN rfl rfl _) (lB rfl)]
 have k0 := @k_spec_l1In.eq_1; have f0 := @spec_l1In.eq_1
 exact gs
theorem spec_SignAt_l55_ok (s : ByteArray) (at1 : Int) (n : Int) (least : Int) : ∀ (v1 : Int) (i : Int), Ok (spec_SignAt_l55 s at1 n least v1 i) e_spec_SignAt (ev FTA c_spec_SignAt (.loop k_spec_SignAt_l55) [.lv 1, .th k_spec_SignAt_r51] (putS (List.replicate 102 .dead) [(0, .t (.v (.string s))), (1, .t (.v (.int .i64 at1))), (8, .t (.v (.int .i64 n))), (9, .t (.v (.int .i64 least))), (10, .t (.v (.int .i64 v1))), (11, .t (.v (.int .i64 i)))]) (putR (List.replicate 102 []) [])) := by
 unfold Ok
 refine spec_SignAt_l55.partial_correctness s at1 n least _ ?_
 intro F ih v1 i
 show Ok _ _ _
 have ih : ∀ (v1 : Int) (i : Int), Ok (F v1 i) _ _ := ih
 rw [ev_loop]
 have k0 := @k_spec_SignAt_l55.eq_1; have k1 := @k_spec_SignAt_r51.eq_1; have g0 := spec_l1In_ok; have t0 := ih
 exact gs
theorem spec_SignAt_j26_ok : ∀ (s : ByteArray) (at1 : Int) (n : Int) (least : Int) (v : Int), Ok (spec_SignAt_j26 s at1 n least v) e_spec_SignAt (ev FTA c_spec_SignAt k_spec_SignAt_r26 [] (putS (List.replicate 102 .dead) [(0, .t (.v (.string s))), (1, .t (.v (.int .i64 at1))), (8, .t (.v (.int .i64 n))), (9, .t (.v (.int .i64 least))), (10, .t (.v (.int .i64 v)))]) (putR (List.replicate 102 []) [])) := by
 intro s at1 n least v
 have k0 := @k_spec_SignAt_r26.eq_1; have f0 := @spec_SignAt_j26.eq_1; have t0 := spec_SignAt_l55_ok
 exact gs
theorem spec_SignAt_j32_ok : ∀ (s : ByteArray) (at1 : Int) (x : Int) (x2 : Bool), Ok (spec_SignAt_j32 s at1 x x2) e_spec_SignAt (ev FTA c_spec_SignAt k_spec_SignAt_r32 [.lv 0, .hk [.clean []], .th k_spec_SignAt_r26] (putS (List.replicate 102 .dead) [(0, .t (.v (.string s))), (1, .t (.v (.int .i64 at1))), (7, .t (.v (.int .i64 (wr .i64 x)))), (39, .t (.v (.bool x2)))]) (putR (List.replicate 102 []) [])) := by
 intro s at1 x x2
 have k0 := @k_spec_SignAt_r32.eq_1; have f0 := @spec_SignAt_j32.eq_1; have t0 := spec_SignAt_j26_ok
 exact gs
theorem spec_SignAt_j28_ok : ∀ (s : ByteArray) (at1 : Int) (x : Int) (x1 : Bool), Ok (spec_SignAt_j28 s at1 x x1) e_spec_SignAt (ev FTA c_spec_SignAt k_spec_SignAt_r28 [.lv 0, .hk [.clean []], .th k_spec_SignAt_r26] (putS (List.replicate 102 .dead) [(0, .t (.v (.string s))), (1, .t (.v (.int .i64 at1))), (7, .t (.v (.int .i64 (wr .i64 x)))), (30, .t (.v (.bool x1)))]) (putR (List.replicate 102 []) [])) := by
 intro s at1 x x1
 have k0 := @k_spec_SignAt_r28.eq_1; have f0 := @spec_SignAt_j28.eq_1; have t0 := spec_SignAt_j26_ok; have t1 := spec_SignAt_j32_ok
 exact gs
theorem spec_SignAt_ok : ∀ (s : ByteArray) (at1 : Int), Ok (spec_SignAt s at1) e_spec_SignAt (dn FTA n_spec_SignAt [.t (.v (.string s)), .t (.v (.int .i64 at1))]) := by
 intro s at1
 rw [den_ev FTA (fn := k_spec_SignAt) rfl (xN rfl rfl _) (lB rfl)]
 have k0 := @k_spec_SignAt.eq_1; have f0 := @spec_SignAt.eq_1; have t0 := spec_SignAt_j28_ok
 exact gs
theorem spec_IsSign_ok : ∀ (n : Int), Ok (spec_IsSign n) e_spec_IsSign (dn FTA n_spec_IsSign [.t (.v (.int .i64 n))]) := by
 intro n
 rw [den_ev FTA (fn := k_spec_IsSign) rfl (xN rfl rfl _) (lB rfl)]
 have k0 := @k_spec_IsSign.eq_1; have f0 := @spec_IsSign.eq_1; have g0 := spec_l1In_ok
 exact gs
theorem spec_l1Signs_l6_ok (s : ByteArray) : ∀ (at1 : Int), Ok (spec_l1Signs_l6 s at1) e_spec_l1Signs (ev FTA c_spec_l1Signs (.loop k_spec_l1Signs_l6) [.lv 0, .th k_spec_l1Signs_r2] (putS (List.replicate 29 .dead) [(0, .t (.v (.string s))), (3, .t (.v (.int .i64 at1)))]) (putR (List.replicate 29 []) [])) := by
 unfold Ok
 refine spec_l1Signs_l6.partial_correctness s _ ?_
 intro F ih at1
 show Ok _ _ _
 have ih : ∀ (at1 : Int), Ok (F at1) _ _ := ih
 rw [ev_loop]
 have k0 := @k_spec_l1Signs_l6.eq_1; have k1 := @k_spec_l1Signs_r2.eq_1; have g0 := spec_SignAt_ok; have g1 := spec_IsSign_ok; have t0 := ih
 exact gs
theorem spec_l1Signs_ok : ∀ (s : ByteArray), Ok (spec_l1Signs s) e_spec_l1Signs (dn FTA n_spec_l1Signs [.t (.v (.string s))]) := by
 intro s
 rw [den_ev FTA (fn := k_spec_l1Signs) rfl (xN rfl rfl _) (lB rfl)]
 have k0 := @k_spec_l1Signs.eq_1; have f0 := @spec_l1Signs.eq_1; have t0 := spec_l1Signs_l6_ok
 exact gs
theorem spec_l1Ranges_l6_ok (n : Int) (l : List Int) : ∀ (i : Int), Ok (spec_l1Ranges_l6 n l i) e_spec_l1Ranges (ev FTA c_spec_l1Ranges (.loop k_spec_l1Ranges_l6) [.lv 0, .th k_spec_l1Ranges_r2] (putS (List.replicate 24 .dead) [(0, .t (.v (.int .i64 n))), (1, .t (.sl false (l.map rI))), (5, .t (.v (.int .i64 i)))]) (putR (List.replicate 24 []) [])) := by
 unfold Ok
 refine spec_l1Ranges_l6.partial_correctness n l _ ?_
 intro F ih i
 show Ok _ _ _
 have ih : ∀ (i : Int), Ok (F i) _ _ := ih
 rw [ev_loop]
 have k0 := @k_spec_l1Ranges_l6.eq_1; have k1 := @k_spec_l1Ranges_r2.eq_1; have g0 := spec_l1In_ok; have t0 := ih
 exact gs
theorem spec_l1Ranges_ok : ∀ (n : Int) (l : List Int), Ok (spec_l1Ranges n l) e_spec_l1Ranges (dn FTA n_spec_l1Ranges [.t (.v (.int .i64 n)), .t (.sl false (l.map rI))]) := by
 intro n l
 rw [den_ev FTA (fn := k_spec_l1Ranges) rfl (xN rfl rfl _) (lB rfl)]
 have k0 := @k_spec_l1Ranges.eq_1; have f0 := @spec_l1Ranges.eq_1; have t0 := spec_l1Ranges_l6_ok
 exact gs
theorem spec_IsStart_ok : ∀ (n : Int), Ok (spec_IsStart n) e_spec_IsStart (dn FTA n_spec_IsStart [.t (.v (.int .i64 n))]) := by
 intro n
 rw [den_ev FTA (fn := k_spec_IsStart) rfl (xN rfl rfl _) (lB rfl)]
 have k0 := @k_spec_IsStart.eq_1; have f0 := @spec_IsStart.eq_1; have g0 := spec_l1Ranges_ok
 exact gs
theorem spec_IsPart_ok : ∀ (n : Int), Ok (spec_IsPart n) e_spec_IsPart (dn FTA n_spec_IsPart [.t (.v (.int .i64 n))]) := by
 intro n
 rw [den_ev FTA (fn := k_spec_IsPart) rfl (xN rfl rfl _) (lB rfl)]
 have k0 := @k_spec_IsPart.eq_1; have f0 := @spec_IsPart.eq_1; have g0 := spec_IsStart_ok; have g1 := spec_l1Ranges_ok
 exact gs
theorem spec_PlainOk_l14_ok (s : ByteArray) : ∀ (at1 : Int), Ok (spec_PlainOk_l14 s at1) e_spec_PlainOk (ev FTA c_spec_PlainOk (.loop k_spec_PlainOk_l14) [.lv 0, .th k_spec_PlainOk_r10] (putS (List.replicate 39 .dead) [(0, .t (.v (.string s))), (3, .t (.v (.int .i64 at1)))]) (putR (List.replicate 39 []) [])) := by
 unfold Ok
 refine spec_PlainOk_l14.partial_correctness s _ ?_
 intro F ih at1
 show Ok _ _ _
 have ih : ∀ (at1 : Int), Ok (F at1) _ _ := ih
 rw [ev_loop]
 have k0 := @k_spec_PlainOk_l14.eq_1; have k1 := @k_spec_PlainOk_r10.eq_1; have g0 := spec_SignAt_ok; have g1 := spec_IsStart_ok; have g2 := spec_IsPart_ok; have t0 := ih
 exact gs
theorem spec_PlainOk_ok : ∀ (s : ByteArray), Ok (spec_PlainOk s) e_spec_PlainOk (dn FTA n_spec_PlainOk [.t (.v (.string s))]) := by
 intro s
 rw [den_ev FTA (fn := k_spec_PlainOk) rfl (xN rfl rfl _) (lB rfl)]
 have k0 := @k_spec_PlainOk.eq_1; have f0 := @spec_PlainOk.eq_1; have g0 := spec_l1In_ok; have t0 := spec_PlainOk_l14_ok
 exact gs
theorem spec_l3Known_ok : ∀ (s : ByteArray), Ok (spec_l3Known s) e_spec_l3Known (dn FTA n_spec_l3Known [.t (.v (.string s))]) := by
 intro s
 rw [den_ev FTA (fn := k_spec_l3Known) rfl (xN rfl rfl _) (lB rfl)]
 have k0 := @k_spec_l3Known.eq_1; have f0 := @spec_l3Known.eq_1
 exact gs
theorem spec_TextOk_ok : ∀ (s : ByteArray), Ok (spec_TextOk s) e_spec_TextOk (dn FTA n_spec_TextOk [.t (.v (.string s))]) := by
 intro s
 rw [den_ev FTA (fn := k_spec_TextOk) rfl (xN rfl rfl _) (lB rfl)]
 have k0 := @k_spec_TextOk.eq_1; have f0 := @spec_TextOk.eq_1; have g0 := spec_l1Signs_ok
 exact gs
theorem G_spec_EntsOk_l26 (l : List GEnt) : (∀ (i : Int) (k1 : Int), Ok (spec_EntsOk_l26 l i k1) e_spec_EntsOk (ev FTA c_spec_EntsOk (.loop k_spec_EntsOk_l26) [.lv 2, .lv 1, .th k_spec_EntsOk_r13, .hk [.clean []], .th (.loop k_spec_EntsOk_l6), .lv 0, .th k_spec_EntsOk_r2] (putS (List.replicate 55 .dead) [(0, .t (.sl false (l.map GEnt.row))), (3, .t (.v (.int .i64 i))), (4, .t (.v (.int .i64 k1)))]) (putR (List.replicate 55 []) []))) ∧
  (∀ (i : Int), Ok (spec_EntsOk_l6 l i) e_spec_EntsOk (ev FTA c_spec_EntsOk (.loop k_spec_EntsOk_l6) [.lv 0, .th k_spec_EntsOk_r2] (putS (List.replicate 55 .dead) [(0, .t (.sl false (l.map GEnt.row))), (3, .t (.v (.int .i64 i)))]) (putR (List.replicate 55 []) []))) := by
 unfold Ok
 refine spec_EntsOk_l26.mutual_partial_correctness l _ _ ?_ ?_
 ·intro F0 F1 ih0 ih1 i k1
  show Ok _ _ _
  have ih0 : ∀ (i : Int) (k1 : Int), Ok (F0 i k1) _ _ := ih0
  have ih1 : ∀ (i : Int), Ok (F1 i) _ _ := ih1
  rw [ev_loop]
  have k0 := @k_spec_EntsOk_l26.eq_1; have k1 := @k_spec_EntsOk_r13.eq_1; have t0 := ih0; have t1 := ih1
  exact gs
 ·intro F0 ih0 i
  show Ok _ _ _
  have ih0 : ∀ (i : Int) (k1 : Int), Ok (F0 i k1) _ _ := ih0
  rw [ev_loop]
  have k0 := @k_spec_EntsOk_l6.eq_1; have k1 := @k_spec_EntsOk_r2.eq_1; have g0 := spec_PlainOk_ok; have g1 := spec_l3Known_ok; have g2 := spec_TextOk_ok; have t0 := ih0
  exact gs
theorem spec_EntsOk_ok : ∀ (l : List GEnt), Ok (spec_EntsOk l) e_spec_EntsOk (dn FTA n_spec_EntsOk [.t (.sl false (l.map GEnt.row))]) := by
 intro l
 rw [den_ev FTA (fn := k_spec_EntsOk) rfl (xN rfl rfl _) (lB rfl)]
 have k0 := @k_spec_EntsOk.eq_1; have f0 := @spec_EntsOk.eq_1; have t0 := fun a0 => (G_spec_EntsOk_l26 a0).2
 exact gs
end TT
