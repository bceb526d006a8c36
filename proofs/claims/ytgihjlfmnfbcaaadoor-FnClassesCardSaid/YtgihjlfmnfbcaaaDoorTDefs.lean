import Derived.Test.YtgihjlfmnfbcaaaDoorTTypes
set_option maxHeartbeats 2000000
set_option linter.unusedVariables false
set_option linter.unusedSimpArgs false
set_option linter.defProp false
set_option maxRecDepth 100000
set_option synthInstance.maxHeartbeats 4000000
set_option synthInstance.maxSize 100000
namespace TT
open Go
def Ie (code : List Int) : Option (Bool) :=
 some (Rd (Be code) 1048576)
def CB (code : List Int) (h : Int) (i : Int) : Option (A8) :=
 if (J1 i (Be code)) then
  if (J1 i 4000) then
   getI code i >>= fun x1 =>
   CB code (Gd .i64 (C1 (C1 (HM h 137) (wr .i64 x1)) 11) 1073741823) (C1 i 1)
  else
   some (A8.mk code 0 h)
 else
  some (A8.mk code 0 h)
 partial_fixpoint
def CT (code : List Int) : Option (A8) :=
 CB code (C1 129371 (Be code)) 0
def CO (c : A8) : Option (Int × A8) :=
 Pk .i64 (C1 (HM c.xh 6364136223846793005) 1442695040888963407) 33 >>= fun x =>
 Pk .i64 (C1 (HM c.xh 6364136223846793005) 1442695040888963407) 47 >>= fun x1 =>
 if (J1 c.xi (Be c.xb)) then
  getI c.xb c.xi >>= fun x2 =>
  some ((Gd .i64 (C1 (Gd .i64 (Tb .i64 x x1) 255) (wr .i64 x2)) 255), (A8.mk c.xb (C1 c.xi 1) (C1 (HM c.xh 6364136223846793005) 1442695040888963407)))
 else
  some ((Gd .i64 (Tb .i64 x x1) 255), (A8.mk c.xb c.xi (C1 (HM c.xh 6364136223846793005) 1442695040888963407)))
def AT (c : A8) (n : Int) : Option (Int × A8) :=
 if (Rc n 0) then
  some (0, c)
 else
  if (Rc n 256) then
   CO c >>= fun r =>
   E5 r.1 n >>= fun x =>
   some (x, r.2)
  else
   CO c >>= fun r1 =>
   CO r1.2 >>= fun r2 =>
   CO r2.2 >>= fun r3 =>
   E5 (C1 (C1 (HM r1.1 65536) (HM r2.1 256)) r3.1) n >>= fun x1 =>
   some (x1, r3.2)
def Cs (c : A8) (n : Int) : Option (Bool × A8) :=
 AT c n >>= fun r =>
 some ((Ja r.1 0), r.2)
def EE (c : A8) (list : List Int) : Option (Int × A8) :=
 AT c (Be list) >>= fun r =>
 getI list r.1 >>= fun x =>
 some (x, r.2)
def Ct (c : A8) : Option (Int × A8) :=
 EE c [0, 9, 10, 13, 31, 32, 45, 48, 58, 65, 95, 97, 127, 128, 183, 192, 215, 247, 767, 768, 880, 894, 2047, 2048, 8204, 8255, 12288, 55295, 55296, 57343, 57344, 65533, 65534, 65535, 65536, 983039, 983040, 1114111, 1114112, (-1)] >>= fun r =>
 some (r.1, r.2)
def CY (code : List Int) : Option (Int) :=
 CT code >>= fun r =>
 Cs r 2 >>= fun r1 =>
 if r1.1 then
  Ct r1.2 >>= fun r2 =>
  some r2.1
 else
  AT r1.2 70000 >>= fun r3 =>
  some r3.1
def CM (code : List Int) : Option (Int) :=
 CT code >>= fun r =>
 Cs r 2 >>= fun r1 =>
 if r1.1 then
  Ct r1.2 >>= fun r2 =>
  some r2.1
 else
  AT r1.2 70000 >>= fun r3 =>
  some r3.1
def CZ (code : List Int) : Option (Int) :=
 CT code >>= fun r =>
 Ct r >>= fun r1 =>
 some r1.1
def DM (c : A8) (list : List ByteArray) : Option (ByteArray × A8) :=
 AT c (Be list) >>= fun r =>
 getI list r.1 >>= fun x =>
 some (x, r.2)
def Ba (s2 : ByteArray) (c3 : A8) : Option (ByteArray × A8) :=
 EE c3 [600, 601] >>= fun r8 =>
 if (J1 (Bg s2) r8.1) then
  Pj s2 (⟨#[120]⟩) >>= fun x5 =>
  Ba x5 r8.2
 else
  some (s2, r8.2)
 partial_fixpoint
def Bs (s1 : ByteArray) (i : Int) (c2 : A8) : Option (ByteArray × A8) :=
 if (Rd i 0) then
  DM c2 [⟨#[97]⟩, ⟨#[98, 32, 99]⟩, ⟨#[32]⟩, ⟨#[10]⟩, ⟨#[195, 169]⟩, ⟨#[226, 130, 172]⟩, ⟨#[240, 159, 152, 128]⟩, ⟨#[60]⟩, ⟨#[38]⟩, ⟨#[62]⟩, ⟨#[34]⟩, ⟨#[39]⟩, ⟨#[93, 93, 62]⟩, ⟨#[45, 45]⟩, ⟨#[9]⟩, ⟨#[13]⟩, ⟨#[0]⟩, ⟨#[255]⟩, ⟨#[192, 128]⟩, ⟨#[239, 191, 190]⟩] >>= fun r5 =>
  Pj s1 r5.1 >>= fun x3 =>
  Bs x3 (Mw i 1) r5.2
 else
  Cs c2 40 >>= fun r6 =>
  if r6.1 then
   Ba s1 r6.2
  else
   some (s1, r6.2)
 partial_fixpoint
def Eh (c : A8) : Option (ByteArray × A8) :=
 AT c 4 >>= fun r =>
 Bs (⟨#[]⟩) r.1 r.2
def Ei (c : A8) (s : ByteArray) : Option (ByteArray × A8) :=
 Gq s >>= fun x =>
 AT c 8 >>= fun r =>
 if (Ja r.1 0) then
  if (Rd (Be x) 0) then
   AT r.2 (Be x) >>= fun r1 =>
   Ps x >>= fun x_ =>
   getI x r1.1 >>= fun x1 =>
   AT r1.2 255 >>= fun r2 =>
   getI x r1.1 >>= fun x2 =>
   some (⟨((x.set (Int.toNat r1.1) (Tb .u8 x1 (wr .u8 (C1 1 r2.1)))).map fun n : Int => UInt8.ofNat n.toNat).toArray⟩, r2.2)
  else
   some (⟨(x.map fun n : Int => UInt8.ofNat n.toNat).toArray⟩, r.2)
 else
  if (Ja r.1 1) then
   if (Rd (Be x) 0) then
    AT r.2 (Be x) >>= fun r3 =>
    Ps x >>= fun x_1 =>
    vwB x.length 0 r3.1 >>= fun x_2 =>
    vwB x.length (C1 r3.1 1) ((x.length : Nat) : Int) >>= fun x_3 =>
    Kb x.length ((r3.1).toNat) (((C1 r3.1 1)).toNat) >>= fun x_4 =>
    some (⟨((x.take ((r3.1).toNat) ++ x.drop (((C1 r3.1 1)).toNat)).map fun n : Int => UInt8.ofNat n.toNat).toArray⟩, r3.2)
   else
    some (⟨(x.map fun n : Int => UInt8.ofNat n.toNat).toArray⟩, r.2)
  else
   if (Ja r.1 2) then
    AT r.2 (C1 (Be x) 1) >>= fun r4 =>
    DM r4.2 [⟨#[60]⟩, ⟨#[62]⟩, ⟨#[38]⟩, ⟨#[34]⟩, ⟨#[39]⟩, ⟨#[47]⟩, ⟨#[32]⟩, ⟨#[61]⟩, ⟨#[10]⟩, ⟨#[93]⟩, ⟨#[120]⟩, ⟨#[255]⟩, ⟨#[45]⟩] >>= fun r5 =>
    slL x 0 r4.1 >>= fun x3 =>
    room (0 + x3.length) 1 >>= fun x_5 =>
    room ((0 + x3.length) + (D4 r5.1).length) 1 >>= fun x_6 =>
    slL x r4.1 (Be x) >>= fun x4 =>
    room (((0 + x3.length) + (D4 r5.1).length) + x4.length) 1 >>= fun x_7 =>
    some (⟨(((([] ++ x3) ++ (D4 r5.1)) ++ x4).map fun n : Int => UInt8.ofNat n.toNat).toArray⟩, r5.2)
   else
    some (⟨(x.map fun n : Int => UInt8.ofNat n.toNat).toArray⟩, r.2)
def Ca (code : List Int) : Option (ByteArray) :=
 CT code >>= fun r =>
 Eh r >>= fun r1 =>
 Ei r1.2 r1.1 >>= fun r2 =>
 some r2.1
def C5 (code : List Int) : Option (ByteArray) :=
 CT code >>= fun r =>
 DM r [⟨#[]⟩, ⟨#[32]⟩, ⟨#[10, 9, 13, 32]⟩, ⟨#[32, 97]⟩, ⟨#[97]⟩, ⟨#[194, 160]⟩, ⟨#[32, 32, 10]⟩] >>= fun r1 =>
 some r1.1
def Fe (n : Int) (lo : Int) (hi : Int) : Option (Bool) :=
 if (ST n lo) then
  some (Rc n hi)
 else
  some false
def FC (r : A2) (a1 : Int) : Option (Bool × Int) :=
 Fe a1 r.xa0 r.xa1 >>= fun r1 =>
 some (r1, a1)
def AB (s : List A2) (x1 : Int) (f : Int) : Option (Int × Int) :=
 if (J1 x1 (Be s)) then
  getI s x1 >>= fun x2 =>
  FC x2 f >>= fun r1 =>
  if r1.1 then
   some (x1, r1.2)
  else
   AB s (C1 x1 1) r1.2
 else
  some ((-1), f)
 partial_fixpoint
def Aj (s : List A2) (fc0 : Int) : Option (Int × Int) :=
 AB s 0 fc0
def Ac (s : List A2) (fc0 : Int) : Option (Bool × Int) :=
 Aj s fc0 >>= fun r =>
 some ((ST r.1 0), r.2)
def DN (n : Int) (ranges : List A2) : Option (Bool) :=
 Ac ranges n >>= fun r =>
 some r.1
def CU (n : Int) : Option (Bool) :=
 DN n [(A2.mk 65 90), (A2.mk 95 95), (A2.mk 97 122), (A2.mk 192 214), (A2.mk 216 246), (A2.mk 248 767), (A2.mk 880 893), (A2.mk 895 8191), (A2.mk 8204 8205), (A2.mk 8304 8591), (A2.mk 11264 12271), (A2.mk 12289 55295), (A2.mk 63744 64975), (A2.mk 65008 65533), (A2.mk 65536 983039)] >>= fun r =>
 some r
def BA (n : Int) : Option (Bool) :=
 CU n >>= fun r =>
 if r then
  some true
 else
  DN n [(A2.mk 45 46), (A2.mk 48 57), (A2.mk 183 183), (A2.mk 768 879), (A2.mk 8255 8256)] >>= fun r1 =>
  some r1
def Cb (a0 : Int) (least : Int) (most : Int) : Option (Bool) :=
 if (ST a0 least) then
  some (Rc a0 most)
 else
  some false
def BN (n : Int) (l : List Int) (i : Int) : Option (Bool) :=
 if (J1 (C1 i 1) (Be l)) then
  getI l i >>= fun x2 =>
  getI l (C1 i 1) >>= fun x3 =>
  Cb n x2 x3 >>= fun r1 =>
  if r1 then
   some true
  else
   BN n l (C1 i 2)
 else
  some false
 partial_fixpoint
def Cc (n : Int) (l : List Int) : Option (Bool) :=
 BN n l 0
def D2 (n : Int) : Option (Bool) :=
 Cc n [65, 90, 95, 95, 97, 122, 192, 214, 216, 246, 248, 767, 880, 893, 895, 8191, 8204, 8205, 8304, 8591, 11264, 12271, 12289, 55295, 63744, 64975, 65008, 65533, 65536, 983039] >>= fun r =>
 some r
def Ej (n : Int) : Option (Bool) :=
 D2 n >>= fun r =>
 if r then
  some true
 else
  Cc n [45, 46, 48, 57, 183, 183, 768, 879, 8255, 8256] >>= fun r1 =>
  some r1
def CP (n : Int) : Option (Bool) :=
 DN n [(A2.mk 9 10), (A2.mk 13 13), (A2.mk 32 55295), (A2.mk 57344 65533), (A2.mk 65536 1114111)] >>= fun r =>
 some r
def DW (n : Int) : Option (Bool) :=
 if (Ja n 9) then
  some true
 else
  if (Ja n 10) then
   some true
  else
   if (Ja n 13) then
    some true
   else
    Cb n 32 55295 >>= fun r =>
    if r then
     some true
    else
     Cb n 57344 65533 >>= fun r1 =>
     if r1 then
      some true
     else
      Cb n 65536 1114111 >>= fun r2 =>
      some r2
def AR (n : Int) : Option (Bool) :=
 if (Ja n 9) then
  some true
 else
  if (Ja n 10) then
   some true
  else
   if (Ja n 13) then
    some true
   else
    some (Ja n 32)
def BH (s : ByteArray) : Option (Int × Int) :=
 some (K3 s)
def Ek (s : ByteArray) (at1 : Int) : Option (Int × Int × Bool) :=
 Fe at1 0 (Mw (Bg s) 1) >>= fun r =>
 if r then
  Re s at1 (Bg s) >>= fun x =>
  BH x >>= fun r1 =>
  if (Ja r1.1 65533) then
   if (Rc r1.2 1) then
    some (0, 0, false)
   else
    some ((wr .i64 r1.1), (C1 at1 r1.2), true)
  else
   some ((wr .i64 r1.1), (C1 at1 r1.2), true)
 else
  some (0, 0, false)
def BB (s : ByteArray) (at1 : Int) : Option (Bool) :=
 if (J1 at1 (Bg s)) then
  Ek s at1 >>= fun r2 =>
  if r2.2.2 then
   CP r2.1 >>= fun r3 =>
   if r3 then
    BB s r2.2.1
   else
    some false
  else
   some false
 else
  some true
 partial_fixpoint
def E0 (s : ByteArray) : Option (Bool) :=
 BB s 0
def BC (s : ByteArray) : Option (Bool) :=
 if (Rc (Bg s) 600) then
  E0 s >>= fun r =>
  some r
 else
  some false
def Aa (s : ByteArray) (at1 : Int) (n : Int) (least : Int) (v1 : Int) (i : Int) : Option (Int × Int × Bool) :=
 if (Rc i n) then
  atS s (C1 at1 i) >>= fun x4 =>
  if (J1 (wr .i64 x4) 128) then
   some (0, 0, false)
  else
   if (Rd (wr .i64 x4) 191) then
    some (0, 0, false)
   else
    Aa s at1 n least (Mw (C1 (HM v1 64) (wr .i64 x4)) 128) (C1 i 1)
 else
  if (J1 v1 least) then
   some (0, 0, false)
  else
   if (Rd v1 1114111) then
    some (0, 0, false)
   else
    Cb v1 55296 57343 >>= fun r1 =>
    if r1 then
     some (0, 0, false)
    else
     some (v1, (C1 (C1 at1 1) n), true)
 partial_fixpoint
def Qb := @Aa.partial_correctness
def Bb (s : ByteArray) (at1 : Int) (n : Int) (least : Int) (v : Int) : Option (Int × Int × Bool) :=
 if (Rd at1 (Mw (Mw (Bg s) 1) n)) then
  some (0, 0, false)
 else
  Aa s at1 n least v 1
def C2 (s : ByteArray) (at1 : Int) (x : Int) (x2 : Bool) : Option (Int × Int × Bool) :=
 if x2 then
  Bb s at1 2 2048 (Gd .i64 (wr .i64 x) 15)
 else
  if (ST (wr .i64 x) 240) then
   if (J1 (wr .i64 x) 248) then
    Bb s at1 3 65536 (Gd .i64 (wr .i64 x) 7)
   else
    some (0, 0, false)
  else
   some (0, 0, false)
def C3 (s : ByteArray) (at1 : Int) (x : Int) (x1 : Bool) : Option (Int × Int × Bool) :=
 if x1 then
  Bb s at1 1 128 (Gd .i64 (wr .i64 x) 31)
 else
  if (ST (wr .i64 x) 224) then
   C2 s at1 x (J1 (wr .i64 x) 240)
  else
   C2 s at1 x false
def El (s : ByteArray) (at1 : Int) : Option (Int × Int × Bool) :=
 if (J1 at1 0) then
  some (0, 0, false)
 else
  if (ST at1 (Bg s)) then
   some (0, 0, false)
  else
   atS s at1 >>= fun x =>
   if (J1 (wr .i64 x) 128) then
    some ((wr .i64 x), (C1 at1 1), true)
   else
    if (ST (wr .i64 x) 192) then
     C3 s at1 x (J1 (wr .i64 x) 224)
    else
     C3 s at1 x false
def BD (s : ByteArray) (at1 : Int) : Option (Bool) :=
 if (J1 at1 (Bg s)) then
  El s at1 >>= fun r2 =>
  if r2.2.2 then
   DW r2.1 >>= fun r3 =>
   if r3 then
    BD s r2.2.1
   else
    some false
  else
   some false
 else
  some (Rc (Bg s) 1500)
 partial_fixpoint
def E1 (s : ByteArray) : Option (Bool) :=
 BD s 0
def BE (s : ByteArray) : Option (Bool) :=
 if (Rc (Bg s) 600) then
  E1 s >>= fun r =>
  some r
 else
  some false
def BF (s : ByteArray) (at2 : Int) : Option (Int) :=
 if (J1 at2 (Bg s)) then
  atS s at2 >>= fun x1 =>
  AR (wr .i64 x1) >>= fun r1 =>
  if r1 then
   BF s (C1 at2 1)
  else
   some at2
 else
  some at2
 partial_fixpoint
def Ff (s : ByteArray) (at1 : Int) : Option (Int) :=
 if (J1 at1 0) then
  some at1
 else
  BF s at1
def Ag (s : ByteArray) : Option (Bool) :=
 if (neS s (⟨#[]⟩)) then
  Ff s 0 >>= fun r =>
  some (Ja r (Bg s))
 else
  some false
def Ak (n : Int) : Option (Bool) :=
 if (Ja n 9) then
  some true
 else
  if (Ja n 10) then
   some true
  else
   if (Ja n 13) then
    some true
   else
    some (Ja n 32)
def Av (s : ByteArray) (i : Int) : Option (Bool) :=
 if (J1 i (Bg s)) then
  atS s i >>= fun x1 =>
  Ak (wr .i64 x1) >>= fun r1 =>
  if r1 then
   Av s (C1 i 1)
  else
   some false
 else
  some (neS s (⟨#[]⟩))
 partial_fixpoint
def Ah (s : ByteArray) : Option (Bool) :=
 Av s 0
def BY (code : List Int) (i : Int) : Option (Int) :=
 if (J1 i (Be code)) then
  getI code i >>= fun x =>
  some (wr .i64 x)
 else
  E5 (C1 (HM i 31) (HM (Be code) 7)) 256 >>= fun x1 =>
  some x1
def E2 (code : List Int) : Option (Bool) :=
 Ie code >>= fun r =>
 if r then
  some true
 else
  CY code >>= fun r1 =>
  CM code >>= fun r2 =>
  CZ code >>= fun r3 =>
  Ca code >>= fun r4 =>
  C5 code >>= fun r5 =>
  BA r1 >>= fun r6 =>
  Ej r1 >>= fun r7 =>
  if (Hw r6 r7) then
   CU r2 >>= fun r8 =>
   D2 r2 >>= fun r9 =>
   if (Hw r8 r9) then
    CP r3 >>= fun r10 =>
    DW r3 >>= fun r11 =>
    if (Hw r10 r11) then
     CU r2 >>= fun r12 =>
     if r12 then
      BA r2 >>= fun r13 =>
      if r13 then
       BA r1 >>= fun r14 =>
       if r14 then
        CP r1 >>= fun r15 =>
        if r15 then
         AR r1 >>= fun r16 =>
         if r16 then
          BA r1 >>= fun r17 =>
          if r17 then
           some false
          else
           BC r4 >>= fun r18 =>
           BE r4 >>= fun r19 =>
           if (Hw r18 r19) then
            Ag r5 >>= fun r20 =>
            Ah r5 >>= fun r21 =>
            if (Hw r20 r21) then
             BY code 2 >>= fun r22 =>
             E5 r22 40 >>= fun x =>
             AR x >>= fun r23 =>
             BY code 2 >>= fun r24 =>
             E5 r24 40 >>= fun x1 =>
             Ak x1 >>= fun r25 =>
             some (Hw r23 r25)
            else
             some false
           else
            some false
         else
          BC r4 >>= fun r26 =>
          BE r4 >>= fun r27 =>
          if (Hw r26 r27) then
           Ag r5 >>= fun r28 =>
           Ah r5 >>= fun r29 =>
           if (Hw r28 r29) then
            BY code 2 >>= fun r30 =>
            E5 r30 40 >>= fun x2 =>
            AR x2 >>= fun r31 =>
            BY code 2 >>= fun r32 =>
            E5 r32 40 >>= fun x3 =>
            Ak x3 >>= fun r33 =>
            some (Hw r31 r33)
           else
            some false
          else
           some false
        else
         some false
       else
        AR r1 >>= fun r34 =>
        if r34 then
         BA r1 >>= fun r35 =>
         if r35 then
          some false
         else
          BC r4 >>= fun r36 =>
          BE r4 >>= fun r37 =>
          if (Hw r36 r37) then
           Ag r5 >>= fun r38 =>
           Ah r5 >>= fun r39 =>
           if (Hw r38 r39) then
            BY code 2 >>= fun r40 =>
            E5 r40 40 >>= fun x4 =>
            AR x4 >>= fun r41 =>
            BY code 2 >>= fun r42 =>
            E5 r42 40 >>= fun x5 =>
            Ak x5 >>= fun r43 =>
            some (Hw r41 r43)
           else
            some false
          else
           some false
        else
         BC r4 >>= fun r44 =>
         BE r4 >>= fun r45 =>
         if (Hw r44 r45) then
          Ag r5 >>= fun r46 =>
          Ah r5 >>= fun r47 =>
          if (Hw r46 r47) then
           BY code 2 >>= fun r48 =>
           E5 r48 40 >>= fun x6 =>
           AR x6 >>= fun r49 =>
           BY code 2 >>= fun r50 =>
           E5 r50 40 >>= fun x7 =>
           Ak x7 >>= fun r51 =>
           some (Hw r49 r51)
          else
           some false
         else
          some false
      else
       some false
     else
      BA r1 >>= fun r52 =>
      if r52 then
       CP r1 >>= fun r53 =>
       if r53 then
        AR r1 >>= fun r54 =>
        if r54 then
         BA r1 >>= fun r55 =>
         if r55 then
          some false
         else
          BC r4 >>= fun r56 =>
          BE r4 >>= fun r57 =>
          if (Hw r56 r57) then
           Ag r5 >>= fun r58 =>
           Ah r5 >>= fun r59 =>
           if (Hw r58 r59) then
            BY code 2 >>= fun r60 =>
            E5 r60 40 >>= fun x8 =>
            AR x8 >>= fun r61 =>
            BY code 2 >>= fun r62 =>
            E5 r62 40 >>= fun x9 =>
            Ak x9 >>= fun r63 =>
            some (Hw r61 r63)
           else
            some false
          else
           some false
        else
         BC r4 >>= fun r64 =>
         BE r4 >>= fun r65 =>
         if (Hw r64 r65) then
          Ag r5 >>= fun r66 =>
          Ah r5 >>= fun r67 =>
          if (Hw r66 r67) then
           BY code 2 >>= fun r68 =>
           E5 r68 40 >>= fun x10 =>
           AR x10 >>= fun r69 =>
           BY code 2 >>= fun r70 =>
           E5 r70 40 >>= fun x11 =>
           Ak x11 >>= fun r71 =>
           some (Hw r69 r71)
          else
           some false
         else
          some false
       else
        some false
      else
       AR r1 >>= fun r72 =>
       if r72 then
        BA r1 >>= fun r73 =>
        if r73 then
         some false
        else
         BC r4 >>= fun r74 =>
         BE r4 >>= fun r75 =>
         if (Hw r74 r75) then
          Ag r5 >>= fun r76 =>
          Ah r5 >>= fun r77 =>
          if (Hw r76 r77) then
           BY code 2 >>= fun r78 =>
           E5 r78 40 >>= fun x12 =>
           AR x12 >>= fun r79 =>
           BY code 2 >>= fun r80 =>
           E5 r80 40 >>= fun x13 =>
           Ak x13 >>= fun r81 =>
           some (Hw r79 r81)
          else
           some false
         else
          some false
       else
        BC r4 >>= fun r82 =>
        BE r4 >>= fun r83 =>
        if (Hw r82 r83) then
         Ag r5 >>= fun r84 =>
         Ah r5 >>= fun r85 =>
         if (Hw r84 r85) then
          BY code 2 >>= fun r86 =>
          E5 r86 40 >>= fun x14 =>
          AR x14 >>= fun r87 =>
          BY code 2 >>= fun r88 =>
          E5 r88 40 >>= fun x15 =>
          Ak x15 >>= fun r89 =>
          some (Hw r87 r89)
         else
          some false
        else
         some false
    else
     some false
   else
    some false
  else
   some false
end TT
