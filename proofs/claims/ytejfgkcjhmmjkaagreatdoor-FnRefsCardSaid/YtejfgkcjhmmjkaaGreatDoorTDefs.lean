import Derived.Test.YtejfgkcjhmmjkaaGreatDoorTTypes
set_option maxHeartbeats 2000000
set_option linter.unusedVariables false
set_option linter.unusedSimpArgs false
set_option linter.defProp false
set_option maxRecDepth 100000
set_option synthInstance.maxHeartbeats 4000000
set_option synthInstance.maxSize 100000
namespace TT
open Go
def laws_big (code : List Int) : Option (Bool) :=
 some (gtI (lenL code) 1048576)
def spec_l1New_l8 (code : List Int) (h : Int) (i : Int) : Option (Gl1Cur) :=
 if (ltI i (lenL code)) then
  if (ltI i 4000) then
   getI code i >>= fun x1 =>
   spec_l1New_l8 code (andK .i64 (addI (addI (mulI h 137) (wr .i64 x1)) 11) 1073741823) (addI i 1)
  else
   some (Gl1Cur.mk code 0 h)
 else
  some (Gl1Cur.mk code 0 h)
 partial_fixpoint
def spec_l1New (code : List Int) : Option (Gl1Cur) :=
 spec_l1New_l8 code (addI 129371 (lenL code)) 0
def spec_l1Byte (c : Gl1Cur) : Option (Int × Gl1Cur) :=
 shrK .i64 (addI (mulI c.xh 6364136223846793005) 1442695040888963407) 33 >>= fun x =>
 shrK .i64 (addI (mulI c.xh 6364136223846793005) 1442695040888963407) 47 >>= fun x1 =>
 if (ltI c.xi (lenL c.xb)) then
  getI c.xb c.xi >>= fun x2 =>
  some ((andK .i64 (addI (andK .i64 (xorK .i64 x x1) 255) (wr .i64 x2)) 255), (Gl1Cur.mk c.xb (addI c.xi 1) (addI (mulI c.xh 6364136223846793005) 1442695040888963407)))
 else
  some ((andK .i64 (xorK .i64 x x1) 255), (Gl1Cur.mk c.xb c.xi (addI (mulI c.xh 6364136223846793005) 1442695040888963407)))
def spec_l1Below (c : Gl1Cur) (n : Int) : Option (Int × Gl1Cur) :=
 if (leI n 0) then
  some (0, c)
 else
  if (leI n 256) then
   spec_l1Byte c >>= fun r =>
   remI r.1 n >>= fun x =>
   some (x, r.2)
  else
   spec_l1Byte c >>= fun r1 =>
   spec_l1Byte r1.2 >>= fun r2 =>
   spec_l1Byte r2.2 >>= fun r3 =>
   remI (addI (addI (mulI r1.1 65536) (mulI r2.1 256)) r3.1) n >>= fun x1 =>
   some (x1, r3.2)
def spec_l1Str (c : Gl1Cur) (list : List ByteArray) : Option (ByteArray × Gl1Cur) :=
 spec_l1Below c (lenL list) >>= fun r =>
 getI list r.1 >>= fun x =>
 some (x, r.2)
def spec_l1Once (c : Gl1Cur) (n : Int) : Option (Bool × Gl1Cur) :=
 spec_l1Below c n >>= fun r =>
 some ((eqI r.1 0), r.2)
def spec_l1Int (c : Gl1Cur) (list : List Int) : Option (Int × Gl1Cur) :=
 spec_l1Below c (lenL list) >>= fun r =>
 getI list r.1 >>= fun x =>
 some (x, r.2)
def spec_l1Text_l24 (s2 : ByteArray) (c3 : Gl1Cur) : Option (ByteArray × Gl1Cur) :=
 spec_l1Int c3 [600, 601] >>= fun r8 =>
 if (ltI (lenS s2) r8.1) then
  catS s2 (⟨#[120]⟩) >>= fun x5 =>
  spec_l1Text_l24 x5 r8.2
 else
  some (s2, r8.2)
 partial_fixpoint
def spec_l1Text_l8 (s1 : ByteArray) (i : Int) (c2 : Gl1Cur) : Option (ByteArray × Gl1Cur) :=
 if (gtI i 0) then
  spec_l1Str c2 [⟨#[97]⟩, ⟨#[98, 32, 99]⟩, ⟨#[32]⟩, ⟨#[10]⟩, ⟨#[195, 169]⟩, ⟨#[226, 130, 172]⟩, ⟨#[240, 159, 152, 128]⟩, ⟨#[60]⟩, ⟨#[38]⟩, ⟨#[62]⟩, ⟨#[34]⟩, ⟨#[39]⟩, ⟨#[93, 93, 62]⟩, ⟨#[45, 45]⟩, ⟨#[9]⟩, ⟨#[13]⟩, ⟨#[0]⟩, ⟨#[255]⟩, ⟨#[192, 128]⟩, ⟨#[239, 191, 190]⟩] >>= fun r5 =>
  catS s1 r5.1 >>= fun x3 =>
  spec_l1Text_l8 x3 (subI i 1) r5.2
 else
  spec_l1Once c2 40 >>= fun r6 =>
  if r6.1 then
   spec_l1Text_l24 s1 r6.2
  else
   some (s1, r6.2)
 partial_fixpoint
def spec_l1Text (c : Gl1Cur) : Option (ByteArray × Gl1Cur) :=
 spec_l1Below c 4 >>= fun r =>
 spec_l1Text_l8 (⟨#[]⟩) r.1 r.2
def spec_DrawEscText (code : List Int) : Option (ByteArray) :=
 spec_l1New code >>= fun r =>
 spec_l1Text r >>= fun r1 =>
 some r1.1
def strings_ReplaceAll (s : ByteArray) (t : ByteArray) (u : ByteArray) : Option (ByteArray) :=
 if s.size < 4294967281 ∧ 1 ≤ t.size ∧ s.size + Lib.countB s t * u.size ≤ 140737488355328 then some (replB s t u) else none
def impl_EscText (s : ByteArray) : Option (ByteArray) :=
 strings_ReplaceAll s (⟨#[38]⟩) (⟨#[38, 97, 109, 112, 59]⟩) >>= fun r =>
 strings_ReplaceAll r (⟨#[60]⟩) (⟨#[38, 108, 116, 59]⟩) >>= fun r1 =>
 strings_ReplaceAll r1 (⟨#[62]⟩) (⟨#[38, 103, 116, 59]⟩) >>= fun r2 =>
 strings_ReplaceAll r2 (⟨#[13]⟩) (⟨#[38, 35, 49, 51, 59]⟩) >>= fun r3 =>
 some r3
def impl_EscAttr (s : ByteArray) : Option (ByteArray) :=
 impl_EscText s >>= fun r =>
 strings_ReplaceAll r (⟨#[34]⟩) (⟨#[38, 113, 117, 111, 116, 59]⟩) >>= fun r1 =>
 strings_ReplaceAll r1 (⟨#[9]⟩) (⟨#[38, 35, 57, 59]⟩) >>= fun r2 =>
 strings_ReplaceAll r2 (⟨#[10]⟩) (⟨#[38, 35, 49, 48, 59]⟩) >>= fun r3 =>
 some r3
def spec_l3Refs_l8 (s : ByteArray) (i : Int) (c1 : Gl1Cur) : Option (ByteArray × Gl1Cur) :=
 if (gtI i 0) then
  spec_l1Str c1 [⟨#[97]⟩, ⟨#[32]⟩, ⟨#[38, 108, 116, 59]⟩, ⟨#[38, 97, 109, 112, 59]⟩, ⟨#[38, 113, 117, 111, 116, 59]⟩, ⟨#[38, 97, 112, 111, 115, 59]⟩, ⟨#[38, 103, 116, 59]⟩, ⟨#[38, 101, 59]⟩, ⟨#[38, 102, 49, 59]⟩, ⟨#[38, 35, 54, 53, 59]⟩, ⟨#[38, 35, 120, 52, 49, 59]⟩, ⟨#[38, 35, 120, 101, 57, 59]⟩, ⟨#[38, 35, 48, 59]⟩, ⟨#[38, 35, 120, 68, 56, 48, 48, 59]⟩, ⟨#[38, 35, 49, 49, 49, 52, 49, 49, 49, 59]⟩, ⟨#[38, 35, 49, 49, 49, 52, 49, 49, 50, 59]⟩, ⟨#[38, 35, 120, 49, 48, 70, 70, 70, 70, 59]⟩, ⟨#[38]⟩, ⟨#[38, 59]⟩, ⟨#[38, 35, 59]⟩, ⟨#[38, 35, 120, 59]⟩, ⟨#[38, 35, 48, 48, 48, 48, 48, 48, 54, 53, 59]⟩, ⟨#[38, 110, 111, 112, 101, 59]⟩, ⟨#[59]⟩, ⟨#[38, 101]⟩] >>= fun r2 =>
  catS s r2.1 >>= fun x1 =>
  spec_l3Refs_l8 x1 (subI i 1) r2.2
 else
  some (s, c1)
 partial_fixpoint
def spec_l3Refs (c : Gl1Cur) : Option (ByteArray × Gl1Cur) :=
 spec_l1Below c 5 >>= fun r =>
 spec_l3Refs_l8 (⟨#[]⟩) r.1 r.2
def spec_l3Ents_j19 (l2 : List (GEnt)) (c3 : Gl1Cur) : Option (List GEnt × Gl1Cur) :=
 spec_l1Once c3 20 >>= fun r14 =>
 if r14.1 then
  room (l2.length + 4) 32 >>= fun x_5 =>
  some (((((l2 ++ [(GEnt.mk (⟨#[118]⟩) (⟨#[]⟩))]) ++ [(GEnt.mk (⟨#[119]⟩) (⟨#[]⟩))]) ++ [(GEnt.mk (⟨#[120]⟩) (⟨#[]⟩))]) ++ [(GEnt.mk (⟨#[121]⟩) (⟨#[]⟩))]), r14.2)
 else
  some (l2, r14.2)
def spec_l3Ents_l8 (l1 : List (GEnt)) (i : Int) (c2 : Gl1Cur) : Option (List GEnt × Gl1Cur) :=
 if (gtI i 0) then
  spec_l1Str c2 [⟨#[101]⟩, ⟨#[102]⟩, ⟨#[103]⟩] >>= fun r8 =>
  spec_l1Str r8.2 [⟨#[]⟩, ⟨#[49]⟩] >>= fun r9 =>
  catS r8.1 r9.1 >>= fun x1 =>
  spec_l1Str r9.2 [⟨#[]⟩, ⟨#[120]⟩, ⟨#[97, 38, 98]⟩, ⟨#[60]⟩, ⟨#[195, 169, 32]⟩] >>= fun r10 =>
  room (l1.length + 1) 32 >>= fun x_3 =>
  spec_l3Ents_l8 (l1 ++ [(GEnt.mk x1 r10.1)]) (subI i 1) r10.2
 else
  spec_l1Once c2 10 >>= fun r11 =>
  if r11.1 then
   spec_l1Str r11.2 [⟨#[108, 116]⟩, ⟨#[]⟩, ⟨#[101, 58, 102]⟩, ⟨#[111, 107]⟩] >>= fun r12 =>
   spec_l1Text r12.2 >>= fun r13 =>
   room (l1.length + 1) 32 >>= fun x_4 =>
   spec_l3Ents_j19 (l1 ++ [(GEnt.mk r12.1 r13.1)]) r13.2
  else
   spec_l3Ents_j19 l1 r11.2
 partial_fixpoint
def spec_l3Ents (c : Gl1Cur) : Option (List GEnt × Gl1Cur) :=
 spec_l1Below c 3 >>= fun r =>
 spec_l3Ents_l8 [] r.1 r.2
def spec_DrawExpand (code : List Int) : Option (ByteArray × List GEnt) :=
 spec_l1New code >>= fun r =>
 spec_l3Refs r >>= fun r1 =>
 spec_l1Once r1.2 8 >>= fun r2 =>
 if r2.1 then
  spec_l1Text r2.2 >>= fun r3 =>
  catS r1.1 r3.1 >>= fun x =>
  spec_l3Ents r3.2 >>= fun r4 =>
  some (x, r4.1)
 else
  spec_l3Ents r2.2 >>= fun r5 =>
  some (r1.1, r5.1)
def impl_in (n : Int) (lo : Int) (hi : Int) : Option (Bool) :=
 if (geI n lo) then
  some (leI n hi)
 else
  some false
def unicode_utf8_DecodeRuneInString (s : ByteArray) : Option (Int × Int) :=
 some (decodeI s)
def impl_SignAt (s : ByteArray) (at1 : Int) : Option (Int × Int × Bool) :=
 impl_in at1 0 (subI (lenS s) 1) >>= fun r =>
 if r then
  subS s at1 (lenS s) >>= fun x =>
  unicode_utf8_DecodeRuneInString x >>= fun r1 =>
  if (eqI r1.1 65533) then
   if (leI r1.2 1) then
    some (0, 0, false)
   else
    some ((wr .i64 r1.1), (addI at1 r1.2), true)
  else
   some ((wr .i64 r1.1), (addI at1 r1.2), true)
 else
  some (0, 0, false)
def impl_inAny_1 (r : GArr2Int) (a1 : Int) : Option (Bool × Int) :=
 impl_in a1 r.xa0 r.xa1 >>= fun r1 =>
 some (r1, a1)
def slices_IndexFunc_A2int_inAny_1_l6 (s : List GArr2Int) (x1 : Int) (f : Int) : Option (Int × Int) :=
 if (ltI x1 (lenL s)) then
  getI s x1 >>= fun x2 =>
  impl_inAny_1 x2 f >>= fun r1 =>
  if r1.1 then
   some (x1, r1.2)
  else
   slices_IndexFunc_A2int_inAny_1_l6 s (addI x1 1) r1.2
 else
  some ((-1), f)
 partial_fixpoint
def slices_IndexFunc_A2int_inAny_1 (s : List GArr2Int) (fc0 : Int) : Option (Int × Int) :=
 slices_IndexFunc_A2int_inAny_1_l6 s 0 fc0
def slices_ContainsFunc_A2int_inAny_1 (s : List GArr2Int) (fc0 : Int) : Option (Bool × Int) :=
 slices_IndexFunc_A2int_inAny_1 s fc0 >>= fun r =>
 some ((geI r.1 0), r.2)
def impl_inAny (n : Int) (ranges : List GArr2Int) : Option (Bool) :=
 slices_ContainsFunc_A2int_inAny_1 ranges n >>= fun r =>
 some r.1
def impl_IsSign (n : Int) : Option (Bool) :=
 impl_inAny n [(GArr2Int.mk 9 10), (GArr2Int.mk 13 13), (GArr2Int.mk 32 55295), (GArr2Int.mk 57344 65533), (GArr2Int.mk 65536 1114111)] >>= fun r =>
 some r
def impl_signsOk_l6 (s : ByteArray) (at1 : Int) : Option (Bool) :=
 if (ltI at1 (lenS s)) then
  impl_SignAt s at1 >>= fun r2 =>
  if r2.2.2 then
   impl_IsSign r2.1 >>= fun r3 =>
   if r3 then
    impl_signsOk_l6 s r2.2.1
   else
    some false
  else
   some false
 else
  some true
 partial_fixpoint
def impl_signsOk (s : ByteArray) : Option (Bool) :=
 impl_signsOk_l6 s 0
def impl_IsStart (n : Int) : Option (Bool) :=
 impl_inAny n [(GArr2Int.mk 65 90), (GArr2Int.mk 95 95), (GArr2Int.mk 97 122), (GArr2Int.mk 192 214), (GArr2Int.mk 216 246), (GArr2Int.mk 248 767), (GArr2Int.mk 880 893), (GArr2Int.mk 895 8191), (GArr2Int.mk 8204 8205), (GArr2Int.mk 8304 8591), (GArr2Int.mk 11264 12271), (GArr2Int.mk 12289 55295), (GArr2Int.mk 63744 64975), (GArr2Int.mk 65008 65533), (GArr2Int.mk 65536 983039)] >>= fun r =>
 some r
def impl_IsPart (n : Int) : Option (Bool) :=
 impl_IsStart n >>= fun r =>
 if r then
  some true
 else
  impl_inAny n [(GArr2Int.mk 45 46), (GArr2Int.mk 48 57), (GArr2Int.mk 183 183), (GArr2Int.mk 768 879), (GArr2Int.mk 8255 8256)] >>= fun r1 =>
  some r1
def impl_PlainOk_l6 (s : ByteArray) (at1 : Int) : Option (Bool) :=
 if (ltI at1 (lenS s)) then
  impl_SignAt s at1 >>= fun r5 =>
  if r5.2.2 then
   if (eqI at1 0) then
    impl_IsStart r5.1 >>= fun r6 =>
    if r6 then
     impl_IsPart r5.1 >>= fun r7 =>
     if r7 then
      impl_PlainOk_l6 s r5.2.1
     else
      some false
    else
     some false
   else
    impl_IsPart r5.1 >>= fun r8 =>
    if r8 then
     impl_PlainOk_l6 s r5.2.1
    else
     some false
  else
   some false
 else
  impl_in (lenS s) 1 16 >>= fun r9 =>
  some r9
 partial_fixpoint
def impl_PlainOk (s : ByteArray) : Option (Bool) :=
 impl_PlainOk_l6 s 0
def impl_ownNames : Option (List ByteArray) :=
 some [⟨#[108, 116]⟩, ⟨#[103, 116]⟩, ⟨#[97, 109, 112]⟩, ⟨#[97, 112, 111, 115]⟩, ⟨#[113, 117, 111, 116]⟩]
def slices_Index_string_l6 (s : List ByteArray) (v : ByteArray) (x1 : Int) : Option (Int) :=
 if (ltI x1 (lenL s)) then
  getI s x1 >>= fun x2 =>
  if (eqS v x2) then
   some x1
  else
   slices_Index_string_l6 s v (addI x1 1)
 else
  some (-1)
 partial_fixpoint
def slices_Index_string (s : List ByteArray) (v : ByteArray) : Option (Int) :=
 slices_Index_string_l6 s v 0
def slices_Contains_string (s : List ByteArray) (v : ByteArray) : Option (Bool) :=
 slices_Index_string s v >>= fun r =>
 some (geI r 0)
def impl_TextOk (s : ByteArray) : Option (Bool) :=
 if (leI (lenS s) 600) then
  impl_signsOk s >>= fun r =>
  some r
 else
  some false
def impl_entAt_1 (e : GEnt) (a1 : ByteArray) : Option (Bool × ByteArray) :=
 some ((eqS e.Name a1), a1)
def slices_IndexFunc_Ent_entAt_1_l6 (s : List GEnt) (x1 : Int) (f : ByteArray) : Option (Int × ByteArray) :=
 if (ltI x1 (lenL s)) then
  getI s x1 >>= fun x2 =>
  impl_entAt_1 x2 f >>= fun r1 =>
  if r1.1 then
   some (x1, r1.2)
  else
   slices_IndexFunc_Ent_entAt_1_l6 s (addI x1 1) r1.2
 else
  some ((-1), f)
 partial_fixpoint
def slices_IndexFunc_Ent_entAt_1 (s : List GEnt) (fc0 : ByteArray) : Option (Int × ByteArray) :=
 slices_IndexFunc_Ent_entAt_1_l6 s 0 fc0
def impl_entAt (l : List GEnt) (name : ByteArray) : Option (Int) :=
 slices_IndexFunc_Ent_entAt_1 l name >>= fun r =>
 some r.1
def impl_EntsOk_l6 (l : List GEnt) (x1 : Int) : Option (Bool) :=
 if (ltI x1 (lenL l)) then
  getI l x1 >>= fun x2 =>
  impl_PlainOk x2.Name >>= fun r5 =>
  if r5 then
   impl_ownNames >>= fun r6 =>
   slices_Contains_string r6 x2.Name >>= fun r7 =>
   if r7 then
    some false
   else
    impl_TextOk x2.Val >>= fun r8 =>
    if r8 then
     impl_entAt l x2.Name >>= fun r9 =>
     if (neI r9 x1) then
      some false
     else
      impl_EntsOk_l6 l (addI x1 1)
    else
     some false
  else
   some false
 else
  some (leI (lenL l) 4)
 partial_fixpoint
def impl_EntsOk (l : List GEnt) : Option (Bool) :=
 impl_EntsOk_l6 l 0
def strings_Cut (s : ByteArray) (t : ByteArray) : Option (ByteArray × ByteArray × Bool) :=
 if s.size < 4294967281 then some (cutB s t) else none
def internal_stringslite_HasPrefix (s : ByteArray) (prefix1 : ByteArray) : Option (Bool) :=
 if (geI (lenS s) (lenS prefix1)) then
  subS s 0 (lenS prefix1) >>= fun x =>
  some (eqS x prefix1)
 else
  some false
def internal_stringslite_CutPrefix (s : ByteArray) (prefix1 : ByteArray) : Option (ByteArray × Bool) :=
 internal_stringslite_HasPrefix s prefix1 >>= fun r =>
 if r then
  subS s (lenS prefix1) (lenS s) >>= fun x =>
  some (x, true)
 else
  some (s, false)
def strings_CutPrefix (s : ByteArray) (prefix1 : ByteArray) : Option (ByteArray × Bool) :=
 internal_stringslite_CutPrefix s prefix1 >>= fun r =>
 some (r.1, r.2)
def impl_isDigits_l6 (s : ByteArray) (base : Int) (most : Int) (x1 : Int) : Option (Bool) :=
 if (ltI x1 (lenS s)) then
  atS s x1 >>= fun x2 =>
  if (ltI x2 48) then
   if (eqI base 10) then
    some false
   else
    if (ltI x2 97) then
     if (ltI x2 65) then
      some false
     else
      if (gtI x2 70) then
       some false
      else
       impl_isDigits_l6 s base most (addI x1 1)
    else
     if (gtI x2 102) then
      if (ltI x2 65) then
       some false
      else
       if (gtI x2 70) then
        some false
       else
        impl_isDigits_l6 s base most (addI x1 1)
     else
      impl_isDigits_l6 s base most (addI x1 1)
  else
   if (gtI x2 57) then
    if (eqI base 10) then
     some false
    else
     if (ltI x2 97) then
      if (ltI x2 65) then
       some false
      else
       if (gtI x2 70) then
        some false
       else
        impl_isDigits_l6 s base most (addI x1 1)
     else
      if (gtI x2 102) then
       if (ltI x2 65) then
        some false
       else
        if (gtI x2 70) then
         some false
        else
         impl_isDigits_l6 s base most (addI x1 1)
      else
       impl_isDigits_l6 s base most (addI x1 1)
   else
    impl_isDigits_l6 s base most (addI x1 1)
 else
  impl_in (lenS s) 1 most >>= fun r1 =>
  some r1
 partial_fixpoint
def impl_isDigits (s : ByteArray) (base : Int) (most : Int) : Option (Bool) :=
 impl_isDigits_l6 s base most 0
def internal_strconv_lower (c : Int) : Option (Int) :=
 some (orK .u8 c 32)
mutual
def internal_strconv_underscoreOK_j35 (s1 : ByteArray) (saw1 : Int) (i1 : Int) (hex3 : Bool) : Option (Bool) :=
 atS s1 i1 >>= fun x24 =>
 if (eqI x24 95) then
  if (neI saw1 48) then
   some false
  else
   internal_strconv_underscoreOK_l26 s1 95 (addI i1 1) hex3
 else
  if (eqI saw1 95) then
   some false
  else
   internal_strconv_underscoreOK_l26 s1 33 (addI i1 1) hex3
 partial_fixpoint
def internal_strconv_underscoreOK_l26 (s1 : ByteArray) (saw1 : Int) (i1 : Int) (hex2 : Bool) : Option (Bool) :=
 if (ltI i1 (lenS s1)) then
  atS s1 i1 >>= fun x18 =>
  if (leI 48 x18) then
   atS s1 i1 >>= fun x19 =>
   if (leI x19 57) then
    internal_strconv_underscoreOK_l26 s1 48 (addI i1 1) hex2
   else
    if hex2 then
     atS s1 i1 >>= fun x20 =>
     internal_strconv_lower x20 >>= fun r10 =>
     if (leI 97 r10) then
      atS s1 i1 >>= fun x21 =>
      internal_strconv_lower x21 >>= fun r11 =>
      if (leI r11 102) then
       internal_strconv_underscoreOK_l26 s1 48 (addI i1 1) true
      else
       internal_strconv_underscoreOK_j35 s1 saw1 i1 true
     else
      internal_strconv_underscoreOK_j35 s1 saw1 i1 true
    else
     internal_strconv_underscoreOK_j35 s1 saw1 i1 false
  else
   if hex2 then
    atS s1 i1 >>= fun x22 =>
    internal_strconv_lower x22 >>= fun r12 =>
    if (leI 97 r12) then
     atS s1 i1 >>= fun x23 =>
     internal_strconv_lower x23 >>= fun r13 =>
     if (leI r13 102) then
      internal_strconv_underscoreOK_l26 s1 48 (addI i1 1) true
     else
      internal_strconv_underscoreOK_j35 s1 saw1 i1 true
    else
     internal_strconv_underscoreOK_j35 s1 saw1 i1 true
   else
    internal_strconv_underscoreOK_j35 s1 saw1 i1 false
 else
  some (neI saw1 95)
 partial_fixpoint
end
def internal_strconv_underscoreOK_j14 (s1 : ByteArray) (saw : Int) (i : Int) (hex : Bool) : Option (Bool) :=
 internal_strconv_underscoreOK_l26 s1 saw i hex
def internal_strconv_underscoreOK_j6 (s1 : ByteArray) : Option (Bool) :=
 if (geI (lenS s1) 2) then
  atS s1 0 >>= fun x4 =>
  if (eqI x4 48) then
   atS s1 1 >>= fun x5 =>
   internal_strconv_lower x5 >>= fun r =>
   if (eqI r 98) then
    atS s1 1 >>= fun x6 =>
    internal_strconv_lower x6 >>= fun r1 =>
    internal_strconv_underscoreOK_j14 s1 48 2 (eqI r1 120)
   else
    atS s1 1 >>= fun x7 =>
    internal_strconv_lower x7 >>= fun r2 =>
    if (eqI r2 111) then
     atS s1 1 >>= fun x8 =>
     internal_strconv_lower x8 >>= fun r3 =>
     internal_strconv_underscoreOK_j14 s1 48 2 (eqI r3 120)
    else
     atS s1 1 >>= fun x9 =>
     internal_strconv_lower x9 >>= fun r4 =>
     if (eqI r4 120) then
      atS s1 1 >>= fun x10 =>
      internal_strconv_lower x10 >>= fun r5 =>
      internal_strconv_underscoreOK_j14 s1 48 2 (eqI r5 120)
     else
      internal_strconv_underscoreOK_j14 s1 94 0 false
  else
   internal_strconv_underscoreOK_j14 s1 94 0 false
 else
  internal_strconv_underscoreOK_j14 s1 94 0 false
def internal_strconv_underscoreOK (s : ByteArray) : Option (Bool) :=
 if (geI (lenS s) 1) then
  atS s 0 >>= fun x =>
  if (eqI x 45) then
   subS s 1 (lenS s) >>= fun x1 =>
   internal_strconv_underscoreOK_j6 x1
  else
   atS s 0 >>= fun x2 =>
   if (eqI x2 43) then
    subS s 1 (lenS s) >>= fun x3 =>
    internal_strconv_underscoreOK_j6 x3
   else
    internal_strconv_underscoreOK_j6 s
 else
  internal_strconv_underscoreOK_j6 s
mutual
def internal_strconv_ParseUint_j106 (base1 : Int) (base0 : Bool) (s : ByteArray) (cutoff : Int) (x13 : Int) (underscores : Bool) (n : Int) (x19 : Int) (x14 : List Int) (x18 : Int) (x20 : Bool) : Option (Int × Unit) :=
 if x20 then
  internal_strconv_ParseUint_l91 base1 base0 s cutoff x13 true n x14 (addI x18 1)
 else
  if (leI 48 x19) then
   internal_strconv_ParseUint_j112 base1 base0 s cutoff x13 underscores n x19 x14 x18 (leI x19 57)
  else
   internal_strconv_ParseUint_j112 base1 base0 s cutoff x13 underscores n x19 x14 x18 false
 partial_fixpoint
def internal_strconv_ParseUint_j112 (base1 : Int) (base0 : Bool) (s : ByteArray) (cutoff : Int) (x13 : Int) (underscores : Bool) (n : Int) (x19 : Int) (x14 : List Int) (x18 : Int) (x21 : Bool) : Option (Int × Unit) :=
 if x21 then
  internal_strconv_ParseUint_j104 base1 base0 s cutoff x13 underscores n (subK .u8 x19 48) x14 x18
 else
  internal_strconv_lower x19 >>= fun r6 =>
  if (leI 97 r6) then
   internal_strconv_lower x19 >>= fun r7 =>
   if (leI r7 122) then
    internal_strconv_lower x19 >>= fun r8 =>
    internal_strconv_ParseUint_j104 base1 base0 s cutoff x13 underscores n (addK .u8 (subK .u8 r8 97) 10) x14 x18
   else
    none
  else
   none
 partial_fixpoint
def internal_strconv_ParseUint_j104 (base1 : Int) (base0 : Bool) (s : ByteArray) (cutoff : Int) (x13 : Int) (underscores : Bool) (n : Int) (d1 : Int) (x14 : List Int) (x18 : Int) : Option (Int × Unit) :=
 if (geI d1 (wr .u8 base1)) then
  none
 else
  if (geI n cutoff) then
   none
  else
   if (ltI (addK .u64 (mulK .u64 n (wr .u64 base1)) (wr .u64 d1)) (mulK .u64 n (wr .u64 base1))) then
    none
   else
    if (gtI (addK .u64 (mulK .u64 n (wr .u64 base1)) (wr .u64 d1)) (subK .u64 x13 1)) then
     none
    else
     internal_strconv_ParseUint_l91 base1 base0 s cutoff x13 underscores (addK .u64 (mulK .u64 n (wr .u64 base1)) (wr .u64 d1)) x14 (addI x18 1)
 partial_fixpoint
def internal_strconv_ParseUint_l91 (base1 : Int) (base0 : Bool) (s : ByteArray) (cutoff : Int) (x13 : Int) (underscores : Bool) (n : Int) (x14 : List Int) (x18 : Int) : Option (Int × Unit) :=
 if (ltI x18 (lenL x14)) then
  getI x14 x18 >>= fun x19 =>
  if (eqI x19 95) then
   internal_strconv_ParseUint_j106 base1 base0 s cutoff x13 underscores n x19 x14 x18 base0
  else
   internal_strconv_ParseUint_j106 base1 base0 s cutoff x13 underscores n x19 x14 x18 false
 else
  if underscores then
   internal_strconv_underscoreOK s >>= fun r9 =>
   if r9 then
    some (n, ())
   else
    none
  else
   some (n, ())
 partial_fixpoint
end
def pc_internal_strconv_ParseUint_j106 := @internal_strconv_ParseUint_j106.mutual_partial_correctness
def internal_strconv_ParseUint_j68 (s1 : ByteArray) (base1 : Int) (bitSize1 : Int) (base0 : Bool) (s : ByteArray) (cutoff : Int) : Option (Int × Unit) :=
 shlK .u64 1 (wr .u64 bitSize1) >>= fun x13 =>
 bytesK s1 >>= fun x14 =>
 internal_strconv_ParseUint_l91 base1 base0 s cutoff x13 false 0 x14 0
def internal_strconv_ParseUint_j54 (s1 : ByteArray) (base1 : Int) (bitSize1 : Int) (base0 : Bool) (s : ByteArray) : Option (Int × Unit) :=
 if (eqI base1 10) then
  internal_strconv_ParseUint_j68 s1 base1 bitSize1 base0 s 1844674407370955162
 else
  if (eqI base1 16) then
   internal_strconv_ParseUint_j68 s1 base1 bitSize1 base0 s 1152921504606846976
  else
   quoK .u64 18446744073709551615 (wr .u64 base1) >>= fun x12 =>
   internal_strconv_ParseUint_j68 s1 base1 bitSize1 base0 s (addK .u64 x12 1)
def internal_strconv_ParseUint_j14 (s1 : ByteArray) (base1 : Int) (bitSize : Int) (base0 : Bool) (s : ByteArray) : Option (Int × Unit) :=
 if (eqI bitSize 0) then
  internal_strconv_ParseUint_j54 s1 base1 64 base0 s
 else
  if (ltI bitSize 0) then
   none
  else
   if (gtI bitSize 64) then
    none
   else
    internal_strconv_ParseUint_j54 s1 base1 bitSize base0 s
def internal_strconv_ParseUint_j35 (s : ByteArray) (bitSize : Int) (x6 : Bool) : Option (Int × Unit) :=
 if x6 then
  subS s 2 (lenS s) >>= fun x7 =>
  internal_strconv_ParseUint_j14 x7 8 bitSize true s
 else
  if (geI (lenS s) 3) then
   atS s 1 >>= fun x8 =>
   internal_strconv_lower x8 >>= fun r2 =>
   if (eqI r2 120) then
    subS s 2 (lenS s) >>= fun x9 =>
    internal_strconv_ParseUint_j14 x9 16 bitSize true s
   else
    subS s 1 (lenS s) >>= fun x10 =>
    internal_strconv_ParseUint_j14 x10 8 bitSize true s
  else
   subS s 1 (lenS s) >>= fun x11 =>
   internal_strconv_ParseUint_j14 x11 8 bitSize true s
def internal_strconv_ParseUint_j29 (s : ByteArray) (bitSize : Int) (x3 : Bool) : Option (Int × Unit) :=
 if x3 then
  subS s 2 (lenS s) >>= fun x4 =>
  internal_strconv_ParseUint_j14 x4 2 bitSize true s
 else
  if (geI (lenS s) 3) then
   atS s 1 >>= fun x5 =>
   internal_strconv_lower x5 >>= fun r1 =>
   internal_strconv_ParseUint_j35 s bitSize (eqI r1 111)
  else
   internal_strconv_ParseUint_j35 s bitSize false
def internal_strconv_ParseUint_j16 (s : ByteArray) (base : Int) (bitSize : Int) (x : Bool) : Option (Int × Unit) :=
 if x then
  internal_strconv_ParseUint_j14 s base bitSize (eqI base 0) s
 else
  if (eqI base 0) then
   atS s 0 >>= fun x1 =>
   if (eqI x1 48) then
    if (geI (lenS s) 3) then
     atS s 1 >>= fun x2 =>
     internal_strconv_lower x2 >>= fun r =>
     internal_strconv_ParseUint_j29 s bitSize (eqI r 98)
    else
     internal_strconv_ParseUint_j29 s bitSize false
   else
    internal_strconv_ParseUint_j14 s 10 bitSize true s
  else
   none
def internal_strconv_ParseUint (s : ByteArray) (base : Int) (bitSize : Int) : Option (Int × Unit) :=
 if (eqS s (⟨#[]⟩)) then
  none
 else
  if (leI 2 base) then
   internal_strconv_ParseUint_j16 s base bitSize (leI base 36)
  else
   internal_strconv_ParseUint_j16 s base bitSize false
def internal_strconv_ParseInt_j55 (neg2 : Bool) (r : Int × Unit) : Option (Int × Unit) :=
 if neg2 then
  some ((negI (wr .i64 r.1)), ())
 else
  some ((wr .i64 r.1), ())
def internal_strconv_ParseInt_j47 (neg1 : Bool) (r : Int × Unit) (x3 : Int) : Option (Int × Unit) :=
 if neg1 then
  if (gtI r.1 x3) then
   none
  else
   internal_strconv_ParseInt_j55 true r
 else
  internal_strconv_ParseInt_j55 false r
def internal_strconv_ParseInt_j39 (bitSize1 : Int) (neg : Bool) (r : Int × Unit) : Option (Int × Unit) :=
 shlK .u64 1 (wr .u64 (subI bitSize1 1)) >>= fun x3 =>
 if neg then
  internal_strconv_ParseInt_j47 true r x3
 else
  if (geI r.1 x3) then
   none
  else
   internal_strconv_ParseInt_j47 false r x3
def internal_strconv_ParseInt_j12 (s1 : ByteArray) (base : Int) (bitSize : Int) (neg : Bool) : Option (Int × Unit) :=
 internal_strconv_ParseUint s1 base bitSize >>= fun r =>
 if (eqI bitSize 0) then
  internal_strconv_ParseInt_j39 64 neg r
 else
  internal_strconv_ParseInt_j39 bitSize neg r
def internal_strconv_ParseInt (s : ByteArray) (base : Int) (bitSize : Int) : Option (Int × Unit) :=
 if (eqS s (⟨#[]⟩)) then
  none
 else
  atS s 0 >>= fun x =>
  if (eqI x 43) then
   subS s 1 (lenS s) >>= fun x1 =>
   internal_strconv_ParseInt_j12 x1 base bitSize false
  else
   if (eqI x 45) then
    subS s 1 (lenS s) >>= fun x2 =>
    internal_strconv_ParseInt_j12 x2 base bitSize true
   else
    internal_strconv_ParseInt_j12 s base bitSize false
def strconv_ParseInt (s : ByteArray) (base : Int) (bitSize : Int) : Option (Int × Unit) :=
 internal_strconv_ParseInt s base bitSize >>= fun r =>
 some (r.1, ())
def impl_SignText (n : Int) : Option (ByteArray) :=
 impl_in n 0 1114111 >>= fun r =>
 if r then
  impl_in n 55296 57343 >>= fun r1 =>
  if r1 then
   some (⟨#[]⟩)
  else
   some (runeS (wr .i32 n))
 else
  some (⟨#[]⟩)
def impl_numbered (s : ByteArray) (base : Int) (most : Int) : Option (ByteArray × Bool) :=
 impl_isDigits s base most >>= fun r =>
 if r then
  strconv_ParseInt s base 64 >>= fun r1 =>
  impl_IsSign r1.1 >>= fun r2 =>
  if r2 then
   impl_SignText r1.1 >>= fun r3 =>
   some (r3, true)
  else
   some (⟨#[]⟩, false)
 else
  some (⟨#[]⟩, false)
def impl_stands (name : ByteArray) (l : List GEnt) : Option (ByteArray × Bool) :=
 strings_CutPrefix name (⟨#[35, 120]⟩) >>= fun r =>
 if r.2 then
  impl_numbered r.1 16 6 >>= fun r1 =>
  some (r1.1, r1.2)
 else
  strings_CutPrefix name (⟨#[35]⟩) >>= fun r2 =>
  if r2.2 then
   impl_numbered r2.1 10 7 >>= fun r3 =>
   some (r3.1, r3.2)
  else
   impl_ownNames >>= fun r4 =>
   slices_Index_string r4 name >>= fun r5 =>
   if (geI r5 0) then
    subS (⟨#[60, 62, 38, 39, 34]⟩) r5 (addI r5 1) >>= fun x =>
    some (x, true)
   else
    impl_entAt l name >>= fun r6 =>
    if (geI r6 0) then
     getI l r6 >>= fun x1 =>
     some (x1.Val, true)
    else
     some (⟨#[]⟩, false)
def impl_Expand_l14 (s1 : ByteArray) (l : List GEnt) (out : ByteArray) : Option (ByteArray × Bool) :=
 strings_Cut s1 (⟨#[38]⟩) >>= fun r6 =>
 catS out r6.1 >>= fun x2 =>
 if r6.2.2 then
  strings_Cut r6.2.1 (⟨#[59]⟩) >>= fun r8 =>
  impl_stands r8.1 l >>= fun r9 =>
  if r8.2.2 then
   if r9.2 then
    catS x2 r9.1 >>= fun x3 =>
    impl_Expand_l14 r8.2.1 l x3
   else
    some (⟨#[]⟩, false)
  else
   some (⟨#[]⟩, false)
 else
  impl_TextOk x2 >>= fun r7 =>
  if r7 then
   some (x2, true)
  else
   some (⟨#[]⟩, false)
 partial_fixpoint
def impl_Expand (s : ByteArray) (l : List GEnt) : Option (ByteArray × Bool) :=
 if (gtI (lenS s) 1500) then
  some (⟨#[]⟩, false)
 else
  impl_signsOk s >>= fun r =>
  if r then
   impl_EntsOk l >>= fun r1 =>
   if r1 then
    impl_Expand_l14 s l (⟨#[]⟩)
   else
    some (⟨#[]⟩, false)
  else
   some (⟨#[]⟩, false)
def spec_l1In (a0 : Int) (least : Int) (most : Int) : Option (Bool) :=
 if (geI a0 least) then
  some (leI a0 most)
 else
  some false
def spec_SignAt_l55 (s : ByteArray) (at1 : Int) (n : Int) (least : Int) (v1 : Int) (i : Int) : Option (Int × Int × Bool) :=
 if (leI i n) then
  atS s (addI at1 i) >>= fun x4 =>
  if (ltI (wr .i64 x4) 128) then
   some (0, 0, false)
  else
   if (gtI (wr .i64 x4) 191) then
    some (0, 0, false)
   else
    spec_SignAt_l55 s at1 n least (subI (addI (mulI v1 64) (wr .i64 x4)) 128) (addI i 1)
 else
  if (ltI v1 least) then
   some (0, 0, false)
  else
   if (gtI v1 1114111) then
    some (0, 0, false)
   else
    spec_l1In v1 55296 57343 >>= fun r1 =>
    if r1 then
     some (0, 0, false)
    else
     some (v1, (addI (addI at1 1) n), true)
 partial_fixpoint
def pc_spec_SignAt_l55 := @spec_SignAt_l55.partial_correctness
def spec_SignAt_j26 (s : ByteArray) (at1 : Int) (n : Int) (least : Int) (v : Int) : Option (Int × Int × Bool) :=
 if (gtI at1 (subI (subI (lenS s) 1) n)) then
  some (0, 0, false)
 else
  spec_SignAt_l55 s at1 n least v 1
def spec_SignAt_j32 (s : ByteArray) (at1 : Int) (x : Int) (x2 : Bool) : Option (Int × Int × Bool) :=
 if x2 then
  spec_SignAt_j26 s at1 2 2048 (andK .i64 (wr .i64 x) 15)
 else
  if (geI (wr .i64 x) 240) then
   if (ltI (wr .i64 x) 248) then
    spec_SignAt_j26 s at1 3 65536 (andK .i64 (wr .i64 x) 7)
   else
    some (0, 0, false)
  else
   some (0, 0, false)
def spec_SignAt_j28 (s : ByteArray) (at1 : Int) (x : Int) (x1 : Bool) : Option (Int × Int × Bool) :=
 if x1 then
  spec_SignAt_j26 s at1 1 128 (andK .i64 (wr .i64 x) 31)
 else
  if (geI (wr .i64 x) 224) then
   spec_SignAt_j32 s at1 x (ltI (wr .i64 x) 240)
  else
   spec_SignAt_j32 s at1 x false
def spec_SignAt (s : ByteArray) (at1 : Int) : Option (Int × Int × Bool) :=
 if (ltI at1 0) then
  some (0, 0, false)
 else
  if (geI at1 (lenS s)) then
   some (0, 0, false)
  else
   atS s at1 >>= fun x =>
   if (ltI (wr .i64 x) 128) then
    some ((wr .i64 x), (addI at1 1), true)
   else
    if (geI (wr .i64 x) 192) then
     spec_SignAt_j28 s at1 x (ltI (wr .i64 x) 224)
    else
     spec_SignAt_j28 s at1 x false
def spec_IsSign (n : Int) : Option (Bool) :=
 if (eqI n 9) then
  some true
 else
  if (eqI n 10) then
   some true
  else
   if (eqI n 13) then
    some true
   else
    spec_l1In n 32 55295 >>= fun r =>
    if r then
     some true
    else
     spec_l1In n 57344 65533 >>= fun r1 =>
     if r1 then
      some true
     else
      spec_l1In n 65536 1114111 >>= fun r2 =>
      some r2
def spec_l1Signs_l6 (s : ByteArray) (at1 : Int) : Option (Bool) :=
 if (ltI at1 (lenS s)) then
  spec_SignAt s at1 >>= fun r2 =>
  if r2.2.2 then
   spec_IsSign r2.1 >>= fun r3 =>
   if r3 then
    spec_l1Signs_l6 s r2.2.1
   else
    some false
  else
   some false
 else
  some (leI (lenS s) 1500)
 partial_fixpoint
def spec_l1Signs (s : ByteArray) : Option (Bool) :=
 spec_l1Signs_l6 s 0
def spec_l1Ranges_l6 (n : Int) (l : List Int) (i : Int) : Option (Bool) :=
 if (ltI (addI i 1) (lenL l)) then
  getI l i >>= fun x2 =>
  getI l (addI i 1) >>= fun x3 =>
  spec_l1In n x2 x3 >>= fun r1 =>
  if r1 then
   some true
  else
   spec_l1Ranges_l6 n l (addI i 2)
 else
  some false
 partial_fixpoint
def spec_l1Ranges (n : Int) (l : List Int) : Option (Bool) :=
 spec_l1Ranges_l6 n l 0
def spec_IsStart (n : Int) : Option (Bool) :=
 spec_l1Ranges n [65, 90, 95, 95, 97, 122, 192, 214, 216, 246, 248, 767, 880, 893, 895, 8191, 8204, 8205, 8304, 8591, 11264, 12271, 12289, 55295, 63744, 64975, 65008, 65533, 65536, 983039] >>= fun r =>
 some r
def spec_IsPart (n : Int) : Option (Bool) :=
 spec_IsStart n >>= fun r =>
 if r then
  some true
 else
  spec_l1Ranges n [45, 46, 48, 57, 183, 183, 768, 879, 8255, 8256] >>= fun r1 =>
  some r1
def spec_PlainOk_l14 (s : ByteArray) (at1 : Int) : Option (Bool) :=
 if (ltI at1 (lenS s)) then
  spec_SignAt s at1 >>= fun r5 =>
  if r5.2.2 then
   if (eqI at1 0) then
    spec_IsStart r5.1 >>= fun r6 =>
    if r6 then
     spec_IsPart r5.1 >>= fun r7 =>
     if r7 then
      spec_PlainOk_l14 s r5.2.1
     else
      some false
    else
     some false
   else
    spec_IsPart r5.1 >>= fun r8 =>
    if r8 then
     spec_PlainOk_l14 s r5.2.1
    else
     some false
  else
   some false
 else
  some true
 partial_fixpoint
def spec_PlainOk (s : ByteArray) : Option (Bool) :=
 spec_l1In (lenS s) 1 16 >>= fun r =>
 if r then
  spec_PlainOk_l14 s 0
 else
  some false
def spec_l3Known (s : ByteArray) : Option (ByteArray) :=
 if (eqS s (⟨#[108, 116]⟩)) then
  some (⟨#[60]⟩)
 else
  if (eqS s (⟨#[103, 116]⟩)) then
   some (⟨#[62]⟩)
  else
   if (eqS s (⟨#[97, 109, 112]⟩)) then
    some (⟨#[38]⟩)
   else
    if (eqS s (⟨#[97, 112, 111, 115]⟩)) then
     some (⟨#[39]⟩)
    else
     if (eqS s (⟨#[113, 117, 111, 116]⟩)) then
      some (⟨#[34]⟩)
     else
      some (⟨#[]⟩)
def spec_TextOk (s : ByteArray) : Option (Bool) :=
 if (leI (lenS s) 600) then
  spec_l1Signs s >>= fun r =>
  some r
 else
  some false
mutual
def spec_EntsOk_l26 (l : List GEnt) (i : Int) (k1 : Int) : Option (Bool) :=
 if (ltI k1 i) then
  getI l k1 >>= fun x7 =>
  getI l i >>= fun x8 =>
  if (eqS x7.Name x8.Name) then
   some false
  else
   spec_EntsOk_l26 l i (addI k1 1)
 else
  spec_EntsOk_l6 l (addI i 1)
 partial_fixpoint
def spec_EntsOk_l6 (l : List GEnt) (i : Int) : Option (Bool) :=
 if (ltI i (lenL l)) then
  getI l i >>= fun x4 =>
  spec_PlainOk x4.Name >>= fun r3 =>
  if r3 then
   spec_l3Known x4.Name >>= fun r4 =>
   if (neS r4 (⟨#[]⟩)) then
    some false
   else
    spec_TextOk x4.Val >>= fun r5 =>
    if r5 then
     spec_EntsOk_l26 l i 0
    else
     some false
  else
   some false
 else
  some (leI (lenL l) 4)
 partial_fixpoint
end
def spec_EntsOk (l : List GEnt) : Option (Bool) :=
 spec_EntsOk_l6 l 0
mutual
def spec_l3Number_j29 (s : ByteArray) (base : Int) (n : Int) (i : Int) (d1 : Int) : Option (Int) :=
 if (ltI d1 0) then
  some (-1)
 else
  if (geI d1 base) then
   some (-1)
  else
   spec_l3Number_l16 s base (addI (mulI n base) d1) (addI i 1)
 partial_fixpoint
def spec_l3Number_l16 (s : ByteArray) (base : Int) (n : Int) (i : Int) : Option (Int) :=
 if (ltI i (lenS s)) then
  atS s i >>= fun x1 =>
  spec_l1In (wr .i64 x1) 48 57 >>= fun r4 =>
  if r4 then
   spec_l3Number_j29 s base n i (subI (wr .i64 x1) 48)
  else
   spec_l1In (wr .i64 x1) 97 102 >>= fun r5 =>
   if r5 then
    spec_l3Number_j29 s base n i (addI (subI (wr .i64 x1) 97) 10)
   else
    spec_l1In (wr .i64 x1) 65 70 >>= fun r6 =>
    if r6 then
     spec_l3Number_j29 s base n i (addI (subI (wr .i64 x1) 65) 10)
    else
     spec_l3Number_j29 s base n i (-1)
 else
  some n
 partial_fixpoint
end
def spec_l3Number (s : ByteArray) (base : Int) (most : Int) : Option (Int) :=
 spec_l1In (lenS s) 1 most >>= fun r =>
 if r then
  spec_l3Number_l16 s base 0 0
 else
  some (-1)
def spec_SignText_j4 (n : Int) (x : Bool) : Option (ByteArray) :=
 if x then
  some (⟨#[]⟩)
 else
  if (ltI n 128) then
   some (⟨([UInt8.ofNat ((wr .u8 n)).toNat]).toArray⟩)
  else
   if (ltI n 2048) then
    shrK .i64 n 6 >>= fun x1 =>
    some (⟨([UInt8.ofNat ((wr .u8 (addI 192 x1))).toNat, UInt8.ofNat ((wr .u8 (addI 128 (andK .i64 n 63)))).toNat]).toArray⟩)
   else
    if (ltI n 65536) then
     shrK .i64 n 12 >>= fun x2 =>
     shrK .i64 n 6 >>= fun x3 =>
     some (⟨([UInt8.ofNat ((wr .u8 (addI 224 x2))).toNat, UInt8.ofNat ((wr .u8 (addI 128 (andK .i64 x3 63)))).toNat, UInt8.ofNat ((wr .u8 (addI 128 (andK .i64 n 63)))).toNat]).toArray⟩)
    else
     shrK .i64 n 18 >>= fun x4 =>
     shrK .i64 n 12 >>= fun x5 =>
     shrK .i64 n 6 >>= fun x6 =>
     some (⟨([UInt8.ofNat ((wr .u8 (addI 240 x4))).toNat, UInt8.ofNat ((wr .u8 (addI 128 (andK .i64 x5 63)))).toNat, UInt8.ofNat ((wr .u8 (addI 128 (andK .i64 x6 63)))).toNat, UInt8.ofNat ((wr .u8 (addI 128 (andK .i64 n 63)))).toNat]).toArray⟩)
def spec_SignText (n : Int) : Option (ByteArray) :=
 if (ltI n 0) then
  spec_SignText_j4 n true
 else
  if (gtI n 1114111) then
   spec_SignText_j4 n true
  else
   spec_l1In n 55296 57343 >>= fun r =>
   spec_SignText_j4 n r
def spec_l3One_j8 (n : Int) : Option (ByteArray × Bool) :=
 spec_SignText n >>= fun r2 =>
 if (geI n 0) then
  spec_IsSign n >>= fun r3 =>
  some (r2, r3)
 else
  some (r2, false)
def spec_l3One_l30 (s : ByteArray) (l : List GEnt) (i : Int) : Option (ByteArray × Bool) :=
 if (ltI i (lenL l)) then
  getI l i >>= fun x6 =>
  if (eqS x6.Name s) then
   some (x6.Val, true)
  else
   spec_l3One_l30 s l (addI i 1)
 else
  some (⟨#[]⟩, false)
 partial_fixpoint
def spec_l3One_j3 (s : ByteArray) (l : List GEnt) (x1 : Bool) : Option (ByteArray × Bool) :=
 if x1 then
  atS s 1 >>= fun x2 =>
  if (eqI x2 120) then
   subS s 2 (lenS s) >>= fun x3 =>
   spec_l3Number x3 16 6 >>= fun r =>
   spec_l3One_j8 r
  else
   subS s 1 (lenS s) >>= fun x4 =>
   spec_l3Number x4 10 7 >>= fun r1 =>
   spec_l3One_j8 r1
 else
  spec_l3Known s >>= fun r4 =>
  if (neS r4 (⟨#[]⟩)) then
   spec_l3Known s >>= fun r5 =>
   some (r5, true)
  else
   spec_l3One_l30 s l 0
def spec_l3One (s : ByteArray) (l : List GEnt) : Option (ByteArray × Bool) :=
 if (gtI (lenS s) 1) then
  atS s 0 >>= fun x =>
  spec_l3One_j3 s l (eqI x 35)
 else
  spec_l3One_j3 s l false
mutual
def spec_Expand_l37 (s : ByteArray) (l : List GEnt) (out : ByteArray) (at1 : Int) (k1 : Int) : Option (ByteArray × Bool) :=
 if (ltI k1 (lenS s)) then
  atS s k1 >>= fun x11 =>
  if (neI x11 59) then
   spec_Expand_l37 s l out at1 (addI k1 1)
  else
   spec_Expand_j35 s l out at1 k1
 else
  spec_Expand_j35 s l out at1 k1
 partial_fixpoint
def spec_Expand_j35 (s : ByteArray) (l : List GEnt) (out : ByteArray) (at1 : Int) (k1 : Int) : Option (ByteArray × Bool) :=
 if (eqI k1 (lenS s)) then
  some (⟨#[]⟩, false)
 else
  subS s (addI at1 1) k1 >>= fun x12 =>
  spec_l3One x12 l >>= fun r4 =>
  if r4.2 then
   catS out r4.1 >>= fun x13 =>
   spec_Expand_l16 s l x13 (addI k1 1)
  else
   some (⟨#[]⟩, false)
 partial_fixpoint
def spec_Expand_l16 (s : ByteArray) (l : List GEnt) (out : ByteArray) (at1 : Int) : Option (ByteArray × Bool) :=
 if (ltI at1 (lenS s)) then
  atS s at1 >>= fun x7 =>
  if (neI x7 38) then
   subS s at1 (addI at1 1) >>= fun x8 =>
   catS out x8 >>= fun x9 =>
   spec_Expand_l16 s l x9 (addI at1 1)
  else
   spec_Expand_l37 s l out at1 at1
 else
  spec_TextOk out >>= fun r5 =>
  if r5 then
   some (out, true)
  else
   some (⟨#[]⟩, false)
 partial_fixpoint
end
def spec_Expand (s : ByteArray) (l : List GEnt) : Option (ByteArray × Bool) :=
 spec_l1Signs s >>= fun r =>
 if r then
  spec_EntsOk l >>= fun r1 =>
  if r1 then
   spec_Expand_l16 s l (⟨#[]⟩) 0
  else
   some (⟨#[]⟩, false)
 else
  some (⟨#[]⟩, false)
def spec_l3Esc_l8 (s : ByteArray) (attr1 : Bool) (out : ByteArray) (i : Int) : Option (ByteArray) :=
 if (ltI i (lenS s)) then
  subS s i (addI i 1) >>= fun x13 =>
  atS s i >>= fun x14 =>
  if (eqI x14 38) then
   catS out (⟨#[38, 97, 109, 112, 59]⟩) >>= fun x15 =>
   spec_l3Esc_l8 s attr1 x15 (addI i 1)
  else
   if (eqI x14 60) then
    catS out (⟨#[38, 108, 116, 59]⟩) >>= fun x16 =>
    spec_l3Esc_l8 s attr1 x16 (addI i 1)
   else
    if (eqI x14 62) then
     catS out (⟨#[38, 103, 116, 59]⟩) >>= fun x17 =>
     spec_l3Esc_l8 s attr1 x17 (addI i 1)
    else
     if (eqI x14 13) then
      catS out (⟨#[38, 35, 49, 51, 59]⟩) >>= fun x18 =>
      spec_l3Esc_l8 s attr1 x18 (addI i 1)
     else
      if (eqI x14 34) then
       if attr1 then
        catS out (⟨#[38, 113, 117, 111, 116, 59]⟩) >>= fun x19 =>
        spec_l3Esc_l8 s true x19 (addI i 1)
       else
        catS out x13 >>= fun x20 =>
        spec_l3Esc_l8 s false x20 (addI i 1)
      else
       if (eqI x14 9) then
        if attr1 then
         catS out (⟨#[38, 35, 57, 59]⟩) >>= fun x21 =>
         spec_l3Esc_l8 s true x21 (addI i 1)
        else
         catS out x13 >>= fun x22 =>
         spec_l3Esc_l8 s false x22 (addI i 1)
       else
        if (eqI x14 10) then
         if attr1 then
          catS out (⟨#[38, 35, 49, 48, 59]⟩) >>= fun x23 =>
          spec_l3Esc_l8 s true x23 (addI i 1)
         else
          catS out x13 >>= fun x24 =>
          spec_l3Esc_l8 s false x24 (addI i 1)
        else
         catS out x13 >>= fun x25 =>
         spec_l3Esc_l8 s attr1 x25 (addI i 1)
 else
  some out
 partial_fixpoint
def spec_l3Esc (s : ByteArray) (attr : Bool) : Option (ByteArray) :=
 spec_l3Esc_l8 s attr (⟨#[]⟩) 0
def spec_EscText (s : ByteArray) : Option (ByteArray) :=
 spec_l3Esc s false >>= fun r =>
 some r
def spec_EscAttr (s : ByteArray) : Option (ByteArray) :=
 spec_l3Esc s true >>= fun r =>
 some r
def laws_FnRefs_l55 (r1 : ByteArray) (r2 : ByteArray) (r3 : ByteArray) (r4 : ByteArray × List GEnt) (i2 : Int) : Option (Bool) :=
 if (ltI i2 (lenS r3)) then
  atS r3 i2 >>= fun x19 =>
  if (eqI x19 60) then
   some false
  else
   atS r3 i2 >>= fun x20 =>
   if (eqI x20 34) then
    some false
   else
    atS r3 i2 >>= fun x21 =>
    if (eqI x21 9) then
     some false
    else
     atS r3 i2 >>= fun x22 =>
     if (eqI x22 10) then
      some false
     else
      atS r3 i2 >>= fun x23 =>
      if (eqI x23 13) then
       some false
      else
       laws_FnRefs_l55 r1 r2 r3 r4 (addI i2 1)
 else
  impl_TextOk r1 >>= fun r23 =>
  if r23 then
   if (gtI (lenS r3) 1500) then
    some true
   else
    impl_Expand r2 r4.2 >>= fun r24 =>
    impl_Expand r3 r4.2 >>= fun r25 =>
    impl_EntsOk r4.2 >>= fun r26 =>
    if r26 then
     if r24.2 then
      if r25.2 then
       if (eqS r24.1 r1) then
        some (eqS r25.1 r1)
       else
        some false
      else
       some false
     else
      some false
    else
     some true
  else
   some true
 partial_fixpoint
def laws_FnRefs_l34 (r1 : ByteArray) (r2 : ByteArray) (r3 : ByteArray) (r4 : ByteArray × List GEnt) (i1 : Int) : Option (Bool) :=
 if (ltI i1 (lenS r2)) then
  atS r2 i1 >>= fun x12 =>
  if (eqI x12 60) then
   some false
  else
   atS r2 i1 >>= fun x13 =>
   if (eqI x13 62) then
    some false
   else
    laws_FnRefs_l34 r1 r2 r3 r4 (addI i1 1)
 else
  laws_FnRefs_l55 r1 r2 r3 r4 0
 partial_fixpoint
def laws_FnRefs (code : List Int) : Option (Bool) :=
 laws_big code >>= fun r =>
 if r then
  some true
 else
  spec_DrawEscText code >>= fun r1 =>
  impl_EscText r1 >>= fun r2 =>
  impl_EscAttr r1 >>= fun r3 =>
  spec_DrawExpand code >>= fun r4 =>
  impl_Expand r4.1 r4.2 >>= fun r5 =>
  spec_Expand r4.1 r4.2 >>= fun r6 =>
  if (neS r5.1 r6.1) then
   some false
  else
   if (neB r5.2 r6.2) then
    some false
   else
    impl_EntsOk r4.2 >>= fun r7 =>
    spec_EntsOk r4.2 >>= fun r8 =>
    if (neB r7 r8) then
     some false
    else
     spec_EscText r1 >>= fun r9 =>
     if (neS r2 r9) then
      some false
     else
      spec_EscAttr r1 >>= fun r10 =>
      if (neS r3 r10) then
       some false
      else
       laws_FnRefs_l34 r1 r2 r3 r4 0
end TT
