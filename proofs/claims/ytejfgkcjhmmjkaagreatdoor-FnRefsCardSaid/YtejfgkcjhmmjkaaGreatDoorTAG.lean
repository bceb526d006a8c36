import Derived.Test.YtejfgkcjhmmjkaaGreatDoorTKK
import Derived.Test.YtejfgkcjhmmjkaaGreatDoorTD25
import Derived.Test.YtejfgkcjhmmjkaaGreatDoorTE
import Derived.Test.YtejfgkcjhmmjkaaGreatDoorProg
import Derived.KernelRfl
import Derived.Test.YtejfgkcjhmmjkaaGreatDoorTFnRefsLib
import Derived.Test.YtejfgkcjhmmjkaaGreatDoorTHX4
namespace TT
open Go Go.Proofs
set_option maxRecDepth 100000
set_option linter.unusedSimpArgs false
set_option linter.unusedVariables false
theorem ag_laws_FnRefs : agF Tryz.prog 3 k_laws_FnRefs = true := by kernel_rfl
theorem ag_laws_big : agF Tryz.prog 4 k_laws_big = true := by kernel_rfl
theorem ag_spec_DrawEscText : agF Tryz.prog 5 k_spec_DrawEscText = true := by kernel_rfl
theorem ag_impl_EscText : agF Tryz.prog 6 k_impl_EscText = true := by kernel_rfl
theorem ag_impl_EscAttr : agF Tryz.prog 7 k_impl_EscAttr = true := by kernel_rfl
theorem ag_spec_DrawExpand : agF Tryz.prog 8 k_spec_DrawExpand = true := by kernel_rfl
theorem ag_impl_Expand : agF Tryz.prog 9 k_impl_Expand = true := by kernel_rfl
theorem ag_spec_Expand : agF Tryz.prog 10 k_spec_Expand = true := by kernel_rfl
theorem ag_impl_EntsOk : agF Tryz.prog 11 k_impl_EntsOk = true := by kernel_rfl
theorem ag_spec_EntsOk : agF Tryz.prog 12 k_spec_EntsOk = true := by kernel_rfl
theorem ag_spec_EscText : agF Tryz.prog 13 k_spec_EscText = true := by kernel_rfl
theorem ag_spec_EscAttr : agF Tryz.prog 14 k_spec_EscAttr = true := by kernel_rfl
theorem ag_impl_TextOk : agF Tryz.prog 15 k_impl_TextOk = true := by kernel_rfl
theorem ag_spec_l1New : agF Tryz.prog 16 k_spec_l1New = true := by kernel_rfl
theorem ag_spec_l1Text : agF Tryz.prog 17 k_spec_l1Text = true := by kernel_rfl
theorem ag_spec_l3Refs : agF Tryz.prog 19 k_spec_l3Refs = true := by kernel_rfl
theorem ag_spec_l1Once : agF Tryz.prog 20 k_spec_l1Once = true := by kernel_rfl
theorem ag_spec_l3Ents : agF Tryz.prog 21 k_spec_l3Ents = true := by kernel_rfl
theorem ag_impl_signsOk : agF Tryz.prog 22 k_impl_signsOk = true := by kernel_rfl
theorem ag_impl_stands : agF Tryz.prog 24 k_impl_stands = true := by kernel_rfl
theorem ag_spec_l1Signs : agF Tryz.prog 25 k_spec_l1Signs = true := by kernel_rfl
theorem ag_spec_l3One : agF Tryz.prog 26 k_spec_l3One = true := by kernel_rfl
theorem ag_spec_TextOk : agF Tryz.prog 27 k_spec_TextOk = true := by kernel_rfl
theorem ag_impl_PlainOk : agF Tryz.prog 28 k_impl_PlainOk = true := by kernel_rfl
theorem ag_slices_Contains_string : agF Tryz.prog 29 k_slices_Contains_string = true := by kernel_rfl
theorem ag_impl_ownNames : agF Tryz.prog 30 k_impl_ownNames = true := by kernel_rfl
theorem ag_impl_entAt : agF Tryz.prog 31 k_impl_entAt = true := by kernel_rfl
theorem ag_spec_PlainOk : agF Tryz.prog 32 k_spec_PlainOk = true := by kernel_rfl
theorem ag_spec_l3Known : agF Tryz.prog 33 k_spec_l3Known = true := by kernel_rfl
theorem ag_spec_l3Esc : agF Tryz.prog 34 k_spec_l3Esc = true := by kernel_rfl
theorem ag_spec_l1Below : agF Tryz.prog 35 k_spec_l1Below = true := by kernel_rfl
theorem ag_spec_l1Str : agF Tryz.prog 36 k_spec_l1Str = true := by kernel_rfl
theorem ag_spec_l1Int : agF Tryz.prog 37 k_spec_l1Int = true := by kernel_rfl
theorem ag_impl_SignAt : agF Tryz.prog 39 k_impl_SignAt = true := by kernel_rfl
theorem ag_impl_IsSign : agF Tryz.prog 40 k_impl_IsSign = true := by kernel_rfl
theorem ag_strings_CutPrefix : agF Tryz.prog 42 k_strings_CutPrefix = true := by kernel_rfl
theorem ag_impl_numbered : agF Tryz.prog 43 k_impl_numbered = true := by kernel_rfl
theorem ag_slices_Index_string : agF Tryz.prog 44 k_slices_Index_string = true := by kernel_rfl
theorem ag_spec_SignAt : agF Tryz.prog 45 k_spec_SignAt = true := by kernel_rfl
theorem ag_spec_IsSign : agF Tryz.prog 46 k_spec_IsSign = true := by kernel_rfl
theorem ag_spec_l3Number : agF Tryz.prog 47 k_spec_l3Number = true := by kernel_rfl
theorem ag_spec_SignText : agF Tryz.prog 48 k_spec_SignText = true := by kernel_rfl
theorem ag_impl_IsStart : agF Tryz.prog 49 k_impl_IsStart = true := by kernel_rfl
theorem ag_impl_IsPart : agF Tryz.prog 50 k_impl_IsPart = true := by kernel_rfl
theorem ag_impl_in : agF Tryz.prog 51 k_impl_in = true := by kernel_rfl
theorem ag_slices_IndexFunc_Ent : agF Tryz.prog 52 k_slices_IndexFunc_Ent = true := by kernel_rfl
theorem ag_impl_entAt_1 : agF Tryz.prog 53 k_impl_entAt_1 = true := by kernel_rfl
theorem ag_spec_l1In : agF Tryz.prog 54 k_spec_l1In = true := by kernel_rfl
theorem ag_spec_IsStart : agF Tryz.prog 55 k_spec_IsStart = true := by kernel_rfl
theorem ag_spec_IsPart : agF Tryz.prog 56 k_spec_IsPart = true := by kernel_rfl
theorem ag_spec_l1Byte : agF Tryz.prog 57 k_spec_l1Byte = true := by kernel_rfl
theorem ag_impl_inAny : agF Tryz.prog 64 k_impl_inAny = true := by kernel_rfl
theorem ag_internal_stringslite_CutPrefix : agF Tryz.prog 66 k_internal_stringslite_CutPrefix = true := by kernel_rfl
theorem ag_impl_isDigits : agF Tryz.prog 67 k_impl_isDigits = true := by kernel_rfl
theorem ag_strconv_ParseInt : agF Tryz.prog 68 k_strconv_ParseInt = true := by kernel_rfl
theorem ag_impl_SignText : agF Tryz.prog 69 k_impl_SignText = true := by kernel_rfl
theorem ag_spec_l1Ranges : agF Tryz.prog 70 k_spec_l1Ranges = true := by kernel_rfl
theorem ag_slices_ContainsFunc_A2int : agF Tryz.prog 76 k_slices_ContainsFunc_A2int = true := by kernel_rfl
theorem ag_impl_inAny_1 : agF Tryz.prog 77 k_impl_inAny_1 = true := by kernel_rfl
theorem ag_internal_stringslite_HasPrefix : agF Tryz.prog 82 k_internal_stringslite_HasPrefix = true := by kernel_rfl
theorem ag_internal_strconv_ParseInt : agF Tryz.prog 83 k_internal_strconv_ParseInt = true := by kernel_rfl
theorem ag_slices_IndexFunc_A2int : agF Tryz.prog 87 k_slices_IndexFunc_A2int = true := by kernel_rfl
theorem ag_internal_strconv_ParseUint : agF Tryz.prog 90 k_internal_strconv_ParseUint = true := by kernel_rfl
theorem ag_internal_strconv_lower : agF Tryz.prog 95 k_internal_strconv_lower = true := by kernel_rfl
theorem ag_internal_strconv_underscoreOK : agF Tryz.prog 96 k_internal_strconv_underscoreOK = true := by kernel_rfl
theorem FTT_ag (f : FuncId) (fn : F) (h : FTT f = some fn) : agF Tryz.prog f fn = true := by
 unfold FTT at h
 split at h <;> cases h
 ·exact ag_laws_FnRefs
 ·exact ag_laws_big
 ·exact ag_spec_DrawEscText
 ·exact ag_impl_EscText
 ·exact ag_impl_EscAttr
 ·exact ag_spec_DrawExpand
 ·exact ag_impl_Expand
 ·exact ag_spec_Expand
 ·exact ag_impl_EntsOk
 ·exact ag_spec_EntsOk
 ·exact ag_spec_EscText
 ·exact ag_spec_EscAttr
 ·exact ag_impl_TextOk
 ·exact ag_spec_l1New
 ·exact ag_spec_l1Text
 ·exact ag_spec_l3Refs
 ·exact ag_spec_l1Once
 ·exact ag_spec_l3Ents
 ·exact ag_impl_signsOk
 ·exact ag_impl_stands
 ·exact ag_spec_l1Signs
 ·exact ag_spec_l3One
 ·exact ag_spec_TextOk
 ·exact ag_impl_PlainOk
 ·exact ag_slices_Contains_string
 ·exact ag_impl_ownNames
 ·exact ag_impl_entAt
 ·exact ag_spec_PlainOk
 ·exact ag_spec_l3Known
 ·exact ag_spec_l3Esc
 ·exact ag_spec_l1Below
 ·exact ag_spec_l1Str
 ·exact ag_spec_l1Int
 ·exact ag_impl_SignAt
 ·exact ag_impl_IsSign
 ·exact ag_strings_CutPrefix
 ·exact ag_impl_numbered
 ·exact ag_slices_Index_string
 ·exact ag_spec_SignAt
 ·exact ag_spec_IsSign
 ·exact ag_spec_l3Number
 ·exact ag_spec_SignText
 ·exact ag_impl_IsStart
 ·exact ag_impl_IsPart
 ·exact ag_impl_in
 ·exact ag_slices_IndexFunc_Ent
 ·exact ag_impl_entAt_1
 ·exact ag_spec_l1In
 ·exact ag_spec_IsStart
 ·exact ag_spec_IsPart
 ·exact ag_spec_l1Byte
 ·exact ag_impl_inAny
 ·exact ag_internal_stringslite_CutPrefix
 ·exact ag_impl_isDigits
 ·exact ag_strconv_ParseInt
 ·exact ag_impl_SignText
 ·exact ag_spec_l1Ranges
 ·exact ag_slices_ContainsFunc_A2int
 ·exact ag_impl_inAny_1
 ·exact ag_internal_stringslite_HasPrefix
 ·exact ag_internal_strconv_ParseInt
 ·exact ag_slices_IndexFunc_A2int
 ·exact ag_internal_strconv_ParseUint
 ·exact ag_internal_strconv_lower
 ·exact ag_internal_strconv_underscoreOK
theorem sound0 : Sound GG Tryz.prog (dn ⟨FTT, [], []⟩) := den_sound xOf0_sound (by kernel_rfl) FTT_ag
theorem soundA : Sound GG Tryz.prog (dn FTA) := den_sound (xOf_sound (fun f args res h => by simp [FTA, cloneX] at h) soundL) (by kernel_rfl) FTT_ag
end TT
