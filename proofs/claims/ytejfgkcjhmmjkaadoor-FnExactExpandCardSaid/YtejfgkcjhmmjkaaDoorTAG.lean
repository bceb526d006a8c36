import Derived.Test.YtejfgkcjhmmjkaaDoorTKK
import Derived.Test.YtejfgkcjhmmjkaaDoorTD25
import Derived.Test.YtejfgkcjhmmjkaaDoorTE
import Derived.Test.YtejfgkcjhmmjkaaDoorProg
import Derived.KernelRfl
import Derived.Test.YtejfgkcjhmmjkaaDoorTFnExactExpandLib
import Derived.Test.YtejfgkcjhmmjkaaDoorTHX4
namespace TT
open Go Go.Proofs
set_option maxRecDepth 100000
set_option linter.unusedSimpArgs false
set_option linter.unusedVariables false
theorem ag_laws_FnExactExpand : agF Tryd.prog 3 k_laws_FnExactExpand = true := by kernel_rfl
theorem ag_laws_szEntS : agF Tryd.prog 4 k_laws_szEntS = true := by kernel_rfl
theorem ag_spec_Expand : agF Tryd.prog 5 k_spec_Expand = true := by kernel_rfl
theorem ag_laws_toEntS : agF Tryd.prog 6 k_laws_toEntS = true := by kernel_rfl
theorem ag_impl_Expand : agF Tryd.prog 7 k_impl_Expand = true := by kernel_rfl
theorem ag_laws_eqEntS : agF Tryd.prog 8 k_laws_eqEntS = true := by kernel_rfl
theorem ag_laws_szEnt : agF Tryd.prog 9 k_laws_szEnt = true := by kernel_rfl
theorem ag_spec_l1Signs : agF Tryd.prog 10 k_spec_l1Signs = true := by kernel_rfl
theorem ag_spec_EntsOk : agF Tryd.prog 11 k_spec_EntsOk = true := by kernel_rfl
theorem ag_spec_l3One : agF Tryd.prog 12 k_spec_l3One = true := by kernel_rfl
theorem ag_spec_TextOk : agF Tryd.prog 13 k_spec_TextOk = true := by kernel_rfl
theorem ag_laws_toEnt : agF Tryd.prog 14 k_laws_toEnt = true := by kernel_rfl
theorem ag_impl_signsOk : agF Tryd.prog 15 k_impl_signsOk = true := by kernel_rfl
theorem ag_impl_EntsOk : agF Tryd.prog 16 k_impl_EntsOk = true := by kernel_rfl
theorem ag_impl_stands : agF Tryd.prog 18 k_impl_stands = true := by kernel_rfl
theorem ag_impl_TextOk : agF Tryd.prog 19 k_impl_TextOk = true := by kernel_rfl
theorem ag_laws_eqEnt : agF Tryd.prog 20 k_laws_eqEnt = true := by kernel_rfl
theorem ag_spec_SignAt : agF Tryd.prog 21 k_spec_SignAt = true := by kernel_rfl
theorem ag_spec_IsSign : agF Tryd.prog 22 k_spec_IsSign = true := by kernel_rfl
theorem ag_spec_PlainOk : agF Tryd.prog 23 k_spec_PlainOk = true := by kernel_rfl
theorem ag_spec_l3Known : agF Tryd.prog 24 k_spec_l3Known = true := by kernel_rfl
theorem ag_spec_l3Number : agF Tryd.prog 25 k_spec_l3Number = true := by kernel_rfl
theorem ag_spec_SignText : agF Tryd.prog 26 k_spec_SignText = true := by kernel_rfl
theorem ag_impl_SignAt : agF Tryd.prog 27 k_impl_SignAt = true := by kernel_rfl
theorem ag_impl_IsSign : agF Tryd.prog 28 k_impl_IsSign = true := by kernel_rfl
theorem ag_impl_PlainOk : agF Tryd.prog 29 k_impl_PlainOk = true := by kernel_rfl
theorem ag_slices_Contains_string : agF Tryd.prog 30 k_slices_Contains_string = true := by kernel_rfl
theorem ag_impl_ownNames : agF Tryd.prog 31 k_impl_ownNames = true := by kernel_rfl
theorem ag_impl_entAt : agF Tryd.prog 32 k_impl_entAt = true := by kernel_rfl
theorem ag_strings_CutPrefix : agF Tryd.prog 34 k_strings_CutPrefix = true := by kernel_rfl
theorem ag_impl_numbered : agF Tryd.prog 35 k_impl_numbered = true := by kernel_rfl
theorem ag_slices_Index_string : agF Tryd.prog 36 k_slices_Index_string = true := by kernel_rfl
theorem ag_spec_l1In : agF Tryd.prog 37 k_spec_l1In = true := by kernel_rfl
theorem ag_spec_IsStart : agF Tryd.prog 38 k_spec_IsStart = true := by kernel_rfl
theorem ag_spec_IsPart : agF Tryd.prog 39 k_spec_IsPart = true := by kernel_rfl
theorem ag_impl_in : agF Tryd.prog 40 k_impl_in = true := by kernel_rfl
theorem ag_impl_inAny : agF Tryd.prog 42 k_impl_inAny = true := by kernel_rfl
theorem ag_impl_IsStart : agF Tryd.prog 43 k_impl_IsStart = true := by kernel_rfl
theorem ag_impl_IsPart : agF Tryd.prog 44 k_impl_IsPart = true := by kernel_rfl
theorem ag_slices_IndexFunc_Ent : agF Tryd.prog 45 k_slices_IndexFunc_Ent = true := by kernel_rfl
theorem ag_impl_entAt_1 : agF Tryd.prog 46 k_impl_entAt_1 = true := by kernel_rfl
theorem ag_internal_stringslite_CutPrefix : agF Tryd.prog 48 k_internal_stringslite_CutPrefix = true := by kernel_rfl
theorem ag_impl_isDigits : agF Tryd.prog 49 k_impl_isDigits = true := by kernel_rfl
theorem ag_strconv_ParseInt : agF Tryd.prog 50 k_strconv_ParseInt = true := by kernel_rfl
theorem ag_impl_SignText : agF Tryd.prog 51 k_impl_SignText = true := by kernel_rfl
theorem ag_spec_l1Ranges : agF Tryd.prog 52 k_spec_l1Ranges = true := by kernel_rfl
theorem ag_slices_ContainsFunc_A2int : agF Tryd.prog 54 k_slices_ContainsFunc_A2int = true := by kernel_rfl
theorem ag_impl_inAny_1 : agF Tryd.prog 55 k_impl_inAny_1 = true := by kernel_rfl
theorem ag_internal_stringslite_HasPrefix : agF Tryd.prog 60 k_internal_stringslite_HasPrefix = true := by kernel_rfl
theorem ag_internal_strconv_ParseInt : agF Tryd.prog 61 k_internal_strconv_ParseInt = true := by kernel_rfl
theorem ag_slices_IndexFunc_A2int : agF Tryd.prog 63 k_slices_IndexFunc_A2int = true := by kernel_rfl
theorem ag_internal_strconv_ParseUint : agF Tryd.prog 66 k_internal_strconv_ParseUint = true := by kernel_rfl
theorem ag_internal_strconv_lower : agF Tryd.prog 71 k_internal_strconv_lower = true := by kernel_rfl
theorem ag_internal_strconv_underscoreOK : agF Tryd.prog 72 k_internal_strconv_underscoreOK = true := by kernel_rfl
theorem FTT_ag (f : FuncId) (fn : F) (h : FTT f = some fn) : agF Tryd.prog f fn = true := by
 unfold FTT at h
 split at h <;> cases h
 ·exact ag_laws_FnExactExpand
 ·exact ag_laws_szEntS
 ·exact ag_spec_Expand
 ·exact ag_laws_toEntS
 ·exact ag_impl_Expand
 ·exact ag_laws_eqEntS
 ·exact ag_laws_szEnt
 ·exact ag_spec_l1Signs
 ·exact ag_spec_EntsOk
 ·exact ag_spec_l3One
 ·exact ag_spec_TextOk
 ·exact ag_laws_toEnt
 ·exact ag_impl_signsOk
 ·exact ag_impl_EntsOk
 ·exact ag_impl_stands
 ·exact ag_impl_TextOk
 ·exact ag_laws_eqEnt
 ·exact ag_spec_SignAt
 ·exact ag_spec_IsSign
 ·exact ag_spec_PlainOk
 ·exact ag_spec_l3Known
 ·exact ag_spec_l3Number
 ·exact ag_spec_SignText
 ·exact ag_impl_SignAt
 ·exact ag_impl_IsSign
 ·exact ag_impl_PlainOk
 ·exact ag_slices_Contains_string
 ·exact ag_impl_ownNames
 ·exact ag_impl_entAt
 ·exact ag_strings_CutPrefix
 ·exact ag_impl_numbered
 ·exact ag_slices_Index_string
 ·exact ag_spec_l1In
 ·exact ag_spec_IsStart
 ·exact ag_spec_IsPart
 ·exact ag_impl_in
 ·exact ag_impl_inAny
 ·exact ag_impl_IsStart
 ·exact ag_impl_IsPart
 ·exact ag_slices_IndexFunc_Ent
 ·exact ag_impl_entAt_1
 ·exact ag_internal_stringslite_CutPrefix
 ·exact ag_impl_isDigits
 ·exact ag_strconv_ParseInt
 ·exact ag_impl_SignText
 ·exact ag_spec_l1Ranges
 ·exact ag_slices_ContainsFunc_A2int
 ·exact ag_impl_inAny_1
 ·exact ag_internal_stringslite_HasPrefix
 ·exact ag_internal_strconv_ParseInt
 ·exact ag_slices_IndexFunc_A2int
 ·exact ag_internal_strconv_ParseUint
 ·exact ag_internal_strconv_lower
 ·exact ag_internal_strconv_underscoreOK
theorem sound0 : Sound GG Tryd.prog (dn ⟨FTT, [], []⟩) := den_sound xOf0_sound (by kernel_rfl) FTT_ag
theorem soundA : Sound GG Tryd.prog (dn FTA) := den_sound (xOf_sound (fun f args res h => by simp [FTA, cloneX] at h) soundL) (by kernel_rfl) FTT_ag
end TT
