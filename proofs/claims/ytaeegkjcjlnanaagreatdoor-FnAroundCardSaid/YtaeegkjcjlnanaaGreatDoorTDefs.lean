import Derived.Test.YtaeegkjcjlnanaaGreatDoorTTypes
set_option maxHeartbeats 2000000
set_option linter.unusedVariables false
set_option linter.unusedSimpArgs false
set_option linter.defProp false
set_option maxRecDepth 100000
set_option synthInstance.maxHeartbeats 4000000
set_option synthInstance.maxSize 100000
namespace TT
open Go
def US (code : List Int) : Option (Bool) :=
 some (Nw (AC code) 1048576)
def Ef (code : List Int) (h : Int) (i : Int) : Option (A2) :=
 if (IY i (AC code)) then
  if (IY i 4000) then
   getI code i >>= fun x1 =>
   Ef code (Q7 .i64 (Ac (Ac (UH h 137) (wr .i64 x1)) 11) 1073741823) (Ac i 1)
  else
   some (A2.mk code 0 h)
 else
  some (A2.mk code 0 h)
 partial_fixpoint
def KF (code : List Int) : Option (A2) :=
 Ef code (Ac 129371 (AC code)) 0
def FM (c : A2) : Option (Int × A2) :=
 jx .i64 (Ac (UH c.xh 6364136223846793005) 1442695040888963407) 33 >>= fun x =>
 jx .i64 (Ac (UH c.xh 6364136223846793005) 1442695040888963407) 47 >>= fun x1 =>
 if (IY c.xi (AC c.xb)) then
  getI c.xb c.xi >>= fun x2 =>
  some ((Q7 .i64 (Ac (Q7 .i64 (tJ .i64 x x1) 255) (wr .i64 x2)) 255), (A2.mk c.xb (Ac c.xi 1) (Ac (UH c.xh 6364136223846793005) 1442695040888963407)))
 else
  some ((Q7 .i64 (tJ .i64 x x1) 255), (A2.mk c.xb c.xi (Ac (UH c.xh 6364136223846793005) 1442695040888963407)))
def BI (c : A2) (n : Int) : Option (Int × A2) :=
 if (Rg n 0) then
  some (0, c)
 else
  if (Rg n 256) then
   FM c >>= fun r =>
   jw r.1 n >>= fun x =>
   some (x, r.2)
  else
   FM c >>= fun r1 =>
   FM r1.2 >>= fun r2 =>
   FM r2.2 >>= fun r3 =>
   jw (Ac (Ac (UH r1.1 65536) (UH r2.1 256)) r3.1) n >>= fun x1 =>
   some (x1, r3.2)
def D8 (c : A2) (n : Int) : Option (Bool × A2) :=
 BI c n >>= fun r =>
 some ((BE r.1 0), r.2)
def Ab (c : A2) (list : List ByteArray) : Option (ByteArray × A2) :=
 BI c (AC list) >>= fun r =>
 getI list r.1 >>= fun x =>
 some (x, r.2)
def KG (c : A2) : Option (ByteArray × A2) :=
 Ab c [⟨#[117, 114, 110, 58, 117]⟩, ⟨#[117, 114, 110, 58, 118]⟩, ⟨#[117, 114, 110, 58, 119]⟩] >>= fun r =>
 some (r.1, r.2)
def GC (c : A2) : Option (A1 × A2) :=
 Ab c [⟨#[]⟩, ⟨#[112]⟩, ⟨#[113]⟩, ⟨#[114]⟩] >>= fun r =>
 KG r.2 >>= fun r1 =>
 if (Cs r.1 (⟨#[]⟩)) then
  D8 r1.2 3 >>= fun r2 =>
  if r2.1 then
   some ((A1.mk r.1 (⟨#[]⟩)), r2.2)
  else
   some ((A1.mk r.1 r1.1), r2.2)
 else
  some ((A1.mk r.1 r1.1), r1.2)
def Bd (l : List (A1)) (i : Int) (c1 : A2) : Option (List A1 × A2) :=
 if (Nw i 0) then
  GC c1 >>= fun r2 =>
  if (BE (AC l) 0) then
   room (l.length + 1) 32 >>= fun x_2 =>
   Bd (l ++ [r2.1]) (Bz i 1) r2.2
  else
   getI l (Bz (AC l) 1) >>= fun x1 =>
   if (ltS x1.Pre r2.1.Pre) then
    room (l.length + 1) 32 >>= fun x_3 =>
    Bd (l ++ [r2.1]) (Bz i 1) r2.2
   else
    Bd l (Bz i 1) r2.2
 else
  some (l, c1)
 partial_fixpoint
def IB (c : A2) : Option (List A1 × A2) :=
 BI c 4 >>= fun r =>
 Bd [] r.1 r.2
def DL (l : List A1) (more : List A1) : Option (List A1) :=
 room (0 + l.length) 32 >>= fun x_ =>
 room ((0 + l.length) + more.length) 32 >>= fun x_1 =>
 some (([] ++ l) ++ more)
def B7 (l : List A1) (pre : ByteArray) (i : Int) : Option (ByteArray × Bool) :=
 if (geI i 0) then
  getI l i >>= fun x1 =>
  if (Cs x1.Pre pre) then
   some (x1.Uri, true)
  else
   B7 l pre (Bz i 1)
 else
  some (⟨#[]⟩, (Cs pre (⟨#[]⟩)))
 partial_fixpoint
def B5 (l : List A1) (pre : ByteArray) : Option (ByteArray × Bool) :=
 B7 l pre (Bz (AC l) 1)
def NA (c : A2) : Option (ByteArray × A2) :=
 Ab c [⟨#[]⟩, ⟨#[49]⟩, ⟨#[50]⟩, ⟨#[120, 32, 121]⟩, ⟨#[195, 169]⟩, ⟨#[60, 38, 62, 34]⟩, ⟨#[97, 10, 98]⟩, ⟨#[9]⟩] >>= fun r =>
 some (r.1, r.2)
def FN (a : A3) (b : A3) : Option (Bool) :=
 if (ltS a.Uri b.Uri) then
  some true
 else
  if (Cs a.Uri b.Uri) then
   some (ltS a.Local b.Local)
  else
   some false
mutual
def NB (l : List A0) : Option (List A0) :=
 H5 l [] 0
 partial_fixpoint
def H5 (l : List A0) (out : List (A0)) (i : Int) : Option (List A0) :=
 if (IY i (AC l)) then
  getI l i >>= fun x1 =>
  EJ x1 >>= fun r1 =>
  room (out.length + 1) 144 >>= fun x_1 =>
  H5 l (out ++ [r1]) (Ac i 1)
 else
  some out
 partial_fixpoint
def EJ (n : A0) : Option (A0) :=
 room (0 + n.Decls.length) 32 >>= fun x_ =>
 room (0 + n.Attrs.length) 64 >>= fun x_1 =>
 NB n.Kids >>= fun r =>
 some (A0.mk n.Kind n.Pre n.Local n.Uri ([] ++ n.Decls) ([] ++ n.Attrs) r n.Text)
 partial_fixpoint
end
mutual
def Dw (l : List A0) (out : List (A0)) (i : Int) (x8 : Bool) (x6 : A0) : Option (List A0) :=
 if x8 then
  getI out (Bz (AC out) 1) >>= fun x9 =>
  aV x9.Text x6.Text >>= fun x10 =>
  getI out (Bz (AC out) 1) >>= fun x11 =>
  Bf l (out.set (Int.toNat (Bz (AC out) 1)) (A0.mk x11.Kind x11.Pre x11.Local x11.Uri x11.Decls x11.Attrs x11.Kids x10)) (Ac i 1)
 else
  EJ x6 >>= fun r2 =>
  room (out.length + 1) 144 >>= fun x_2 =>
  Bf l (out ++ [r2]) (Ac i 1)
 partial_fixpoint
def Bf (l : List A0) (out : List (A0)) (i : Int) : Option (List A0) :=
 if (IY i (AC l)) then
  getI l i >>= fun x6 =>
  if (BE x6.Kind 2) then
   if (Cs x6.Text (⟨#[]⟩)) then
    Bf l out (Ac i 1)
   else
    if (Nw (AC out) 0) then
     getI out (Bz (AC out) 1) >>= fun x7 =>
     Dw l out i (BE x7.Kind 2) x6
    else
     Dw l out i false x6
  else
   EJ x6 >>= fun r3 =>
   room (out.length + 1) 144 >>= fun x_3 =>
   Bf l (out ++ [r3]) (Ac i 1)
 else
  some out
 partial_fixpoint
end
def Ht (l : List A0) : Option (List A0) :=
 Bf l [] 0
mutual
def FI (c : A2) (in1 : List A1) (most : Int) : Option (A0 × A2 × Int) :=
 Ab c [⟨#[97]⟩, ⟨#[98]⟩, ⟨#[99]⟩, ⟨#[105, 116, 101, 109]⟩] >>= fun r =>
 D8 r.2 4 >>= fun r1 =>
 if r1.1 then
  IB r1.2 >>= fun r2 =>
  JW in1 r2.2 most r r2.1
 else
  JW in1 r1.2 most r []
 partial_fixpoint
def JW (in1 : List A1) (c1 : A2) (most : Int) (r : ByteArray × A2) (nDecls : List (A1)) : Option (A0 × A2 × Int) :=
 DL in1 nDecls >>= fun r3 =>
 D8 c1 4 >>= fun r4 =>
 if r4.1 then
  Ab r4.2 [⟨#[112]⟩, ⟨#[113]⟩] >>= fun r5 =>
  H6 r3 r5.2 most r5.1 r nDecls
 else
  H6 r3 r4.2 most (⟨#[]⟩) r nDecls
 partial_fixpoint
def H6 (r3 : List A1) (c2 : A2) (most : Int) (nPre : ByteArray) (r : ByteArray × A2) (nDecls : List (A1)) : Option (A0 × A2 × Int) :=
 B5 r3 nPre >>= fun r6 =>
 if r6.2 then
  H7 r3 r6.1 c2 most nPre r nDecls
 else
  B5 r3 (⟨#[]⟩) >>= fun r7 =>
  H7 r3 r7.1 c2 most (⟨#[]⟩) r nDecls
 partial_fixpoint
def H7 (r3 : List A1) (u : ByteArray) (c2 : A2) (most : Int) (nPre1 : ByteArray) (r : ByteArray × A2) (nDecls : List (A1)) : Option (A0 × A2 × Int) :=
 BI c2 3 >>= fun r8 =>
 DZ r3 r8.1 r8.2 most nPre1 r u nDecls []
 partial_fixpoint
def Fi (r3 : List A1) (i1 : Int) (r31 : ByteArray × A2) (most : Int) (nPre1 : ByteArray) (r : ByteArray × A2) (u : ByteArray) (nDecls : List (A1)) (nAttrs : List (A3)) (a1 : A3) : Option (A0 × A2 × Int) :=
 if (BE (AC nAttrs) 0) then
  room (nAttrs.length + 1) 64 >>= fun x_10 =>
  DZ r3 (Bz i1 1) r31.2 most nPre1 r u nDecls (nAttrs ++ [a1])
 else
  getI nAttrs (Bz (AC nAttrs) 1) >>= fun x3 =>
  FN x3 a1 >>= fun r33 =>
  if r33 then
   room (nAttrs.length + 1) 64 >>= fun x_11 =>
   DZ r3 (Bz i1 1) r31.2 most nPre1 r u nDecls (nAttrs ++ [a1])
  else
   DZ r3 (Bz i1 1) r31.2 most nPre1 r u nDecls nAttrs
 partial_fixpoint
def H8 (r3 : List A1) (i2 : Int) (r42 : Int × A2) (x5 : Bool) (most2 : Int) (nPre1 : ByteArray) (r : ByteArray × A2) (u : ByteArray) (nDecls : List (A1)) (nAttrs : List (A3)) (nKids1 : List (A0)) : Option (A0 × A2 × Int) :=
 if x5 then
  Ab r42.2 [⟨#[120]⟩, ⟨#[121]⟩, ⟨#[32]⟩, ⟨#[10, 32, 32]⟩, ⟨#[49]⟩, ⟨#[226, 130, 172, 60]⟩] >>= fun r43 =>
  room (nKids1.length + 1) 144 >>= fun x_16 =>
  CM r3 (Bz i2 1) r43.2 (Bz most2 1) nPre1 r u nDecls nAttrs (nKids1 ++ [(A0.mk 2 (⟨#[]⟩) (⟨#[]⟩) (⟨#[]⟩) [] [] [] r43.1)])
 else
  if (BE r42.1 2) then
   Ab r42.2 [⟨#[]⟩, ⟨#[110]⟩, ⟨#[32, 109, 32]⟩] >>= fun r44 =>
   room (nKids1.length + 1) 144 >>= fun x_17 =>
   CM r3 (Bz i2 1) r44.2 (Bz most2 1) nPre1 r u nDecls nAttrs (nKids1 ++ [(A0.mk 3 (⟨#[]⟩) (⟨#[]⟩) (⟨#[]⟩) [] [] [] r44.1)])
  else
   if (BE r42.1 3) then
    Ab r42.2 [⟨#[]⟩, ⟨#[103, 111]⟩] >>= fun r45 =>
    room (nKids1.length + 1) 144 >>= fun x_18 =>
    CM r3 (Bz i2 1) r45.2 (Bz most2 1) nPre1 r u nDecls nAttrs (nKids1 ++ [(A0.mk 4 (⟨#[]⟩) (⟨#[116]⟩) (⟨#[]⟩) [] [] [] r45.1)])
   else
    FI r42.2 r3 (Bz most2 1) >>= fun r46 =>
    room (nKids1.length + 1) 144 >>= fun x_19 =>
    CM r3 (Bz i2 1) r46.2.1 r46.2.2 nPre1 r u nDecls nAttrs (nKids1 ++ [r46.1])
 partial_fixpoint
def CM (r3 : List A1) (i2 : Int) (c5 : A2) (most2 : Int) (nPre1 : ByteArray) (r : ByteArray × A2) (u : ByteArray) (nDecls : List (A1)) (nAttrs : List (A3)) (nKids1 : List (A0)) : Option (A0 × A2 × Int) :=
 if (Nw i2 0) then
  if (Nw most2 0) then
   BI c5 6 >>= fun r42 =>
   if (BE r42.1 0) then
    H8 r3 i2 r42 true most2 nPre1 r u nDecls nAttrs nKids1
   else
    H8 r3 i2 r42 (BE r42.1 1) most2 nPre1 r u nDecls nAttrs nKids1
  else
   Ht nKids1 >>= fun r47 =>
   some ((A0.mk 1 nPre1 r.1 u nDecls nAttrs r47 (⟨#[]⟩)), c5, most2)
 else
  Ht nKids1 >>= fun r48 =>
  some ((A0.mk 1 nPre1 r.1 u nDecls nAttrs r48 (⟨#[]⟩)), c5, most2)
 partial_fixpoint
def DZ (r3 : List A1) (i1 : Int) (c4 : A2) (most : Int) (nPre1 : ByteArray) (r : ByteArray × A2) (u : ByteArray) (nDecls : List (A1)) (nAttrs : List (A3)) : Option (A0 × A2 × Int) :=
 if (Nw i1 0) then
  Ab c4 [⟨#[105, 100]⟩, ⟨#[107]⟩, ⟨#[118]⟩] >>= fun r29 =>
  NA r29.2 >>= fun r30 =>
  Ab r30.2 [⟨#[]⟩, ⟨#[]⟩, ⟨#[112]⟩] >>= fun r31 =>
  B5 r3 r31.1 >>= fun r32 =>
  if (neS r31.1 (⟨#[]⟩)) then
   if r32.2 then
    Fi r3 i1 r31 most nPre1 r u nDecls nAttrs (A3.mk r31.1 r29.1 r32.1 r30.1)
   else
    Fi r3 i1 r31 most nPre1 r u nDecls nAttrs (A3.mk (⟨#[]⟩) r29.1 (⟨#[]⟩) r30.1)
  else
   Fi r3 i1 r31 most nPre1 r u nDecls nAttrs (A3.mk (⟨#[]⟩) r29.1 (⟨#[]⟩) r30.1)
 else
  BI c4 4 >>= fun r34 =>
  CM r3 r34.1 r34.2 most nPre1 r u nDecls nAttrs []
 partial_fixpoint
end
def vS := @FI.mutual_partial_correctness
mutual
def Aw (n : A0) : Option (Int) :=
 Ad (Ac 1 (AC n.Attrs)) 0 n
 partial_fixpoint
def Ad (k : Int) (i : Int) (n : A0) : Option (Int) :=
 if (IY i (AC n.Kids)) then
  getI n.Kids i >>= fun x1 =>
  Aw x1 >>= fun r1 =>
  Ad (Ac k r1) (Ac i 1) n
 else
  some k
 partial_fixpoint
end
def Dk (a0 : Int) (least : Int) (most : Int) : Option (Bool) :=
 if (geI a0 least) then
  some (Rg a0 most)
 else
  some false
def Af (s : ByteArray) (at1 : Int) (n : Int) (least : Int) (v1 : Int) (i : Int) : Option (Int × Int × Bool) :=
 if (Rg i n) then
  PM s (Ac at1 i) >>= fun x4 =>
  if (IY (wr .i64 x4) 128) then
   some (0, 0, false)
  else
   if (Nw (wr .i64 x4) 191) then
    some (0, 0, false)
   else
    Af s at1 n least (Bz (Ac (UH v1 64) (wr .i64 x4)) 128) (Ac i 1)
 else
  if (IY v1 least) then
   some (0, 0, false)
  else
   if (Nw v1 1114111) then
    some (0, 0, false)
   else
    Dk v1 55296 57343 >>= fun r1 =>
    if r1 then
     some (0, 0, false)
    else
     some (v1, (Ac (Ac at1 1) n), true)
 partial_fixpoint
def kv := @Af.partial_correctness
def C5 (s : ByteArray) (at1 : Int) (n : Int) (least : Int) (v : Int) : Option (Int × Int × Bool) :=
 if (Nw at1 (Bz (Bz (AU s) 1) n)) then
  some (0, 0, false)
 else
  Af s at1 n least v 1
def Ce (s : ByteArray) (at1 : Int) (x : Int) (x2 : Bool) : Option (Int × Int × Bool) :=
 if x2 then
  C5 s at1 2 2048 (Q7 .i64 (wr .i64 x) 15)
 else
  if (geI (wr .i64 x) 240) then
   if (IY (wr .i64 x) 248) then
    C5 s at1 3 65536 (Q7 .i64 (wr .i64 x) 7)
   else
    some (0, 0, false)
  else
   some (0, 0, false)
def Cf (s : ByteArray) (at1 : Int) (x : Int) (x1 : Bool) : Option (Int × Int × Bool) :=
 if x1 then
  C5 s at1 1 128 (Q7 .i64 (wr .i64 x) 31)
 else
  if (geI (wr .i64 x) 224) then
   Ce s at1 x (IY (wr .i64 x) 240)
  else
   Ce s at1 x false
def Da (s : ByteArray) (at1 : Int) : Option (Int × Int × Bool) :=
 if (IY at1 0) then
  some (0, 0, false)
 else
  if (geI at1 (AU s)) then
   some (0, 0, false)
  else
   PM s at1 >>= fun x =>
   if (IY (wr .i64 x) 128) then
    some ((wr .i64 x), (Ac at1 1), true)
   else
    if (geI (wr .i64 x) 192) then
     Cf s at1 x (IY (wr .i64 x) 224)
    else
     Cf s at1 x false
def AW (n : Int) (l : List Int) (i : Int) : Option (Bool) :=
 if (IY (Ac i 1) (AC l)) then
  getI l i >>= fun x2 =>
  getI l (Ac i 1) >>= fun x3 =>
  Dk n x2 x3 >>= fun r1 =>
  if r1 then
   some true
  else
   AW n l (Ac i 2)
 else
  some false
 partial_fixpoint
def D6 (n : Int) (l : List Int) : Option (Bool) :=
 AW n l 0
def CT (n : Int) : Option (Bool) :=
 D6 n [65, 90, 95, 95, 97, 122, 192, 214, 216, 246, 248, 767, 880, 893, 895, 8191, 8204, 8205, 8304, 8591, 11264, 12271, 12289, 55295, 63744, 64975, 65008, 65533, 65536, 983039] >>= fun r =>
 some r
def D9 (n : Int) : Option (Bool) :=
 CT n >>= fun r =>
 if r then
  some true
 else
  D6 n [45, 46, 48, 57, 183, 183, 768, 879, 8255, 8256] >>= fun r1 =>
  some r1
def AQ (s : ByteArray) (at1 : Int) : Option (Bool) :=
 if (IY at1 (AU s)) then
  Da s at1 >>= fun r5 =>
  if r5.2.2 then
   if (BE at1 0) then
    CT r5.1 >>= fun r6 =>
    if r6 then
     D9 r5.1 >>= fun r7 =>
     if r7 then
      AQ s r5.2.1
     else
      some false
    else
     some false
   else
    D9 r5.1 >>= fun r8 =>
    if r8 then
     AQ s r5.2.1
    else
     some false
  else
   some false
 else
  some true
 partial_fixpoint
def B6 (s : ByteArray) : Option (Bool) :=
 Dk (AU s) 1 16 >>= fun r =>
 if r then
  AQ s 0
 else
  some false
def GD (s : ByteArray) : Option (Bool) :=
 if (geI (AU s) 3) then
  PN s 0 3 >>= fun x =>
  some (Cs x (⟨#[120, 109, 108]⟩))
 else
  some false
def CU (s : ByteArray) : Option (Bool) :=
 if (Cs s (⟨#[]⟩)) then
  some true
 else
  B6 s >>= fun r =>
  if r then
   GD s >>= fun r1 =>
   some (!r1)
  else
   some false
def GE (n : Int) : Option (Bool) :=
 if (BE n 9) then
  some true
 else
  if (BE n 10) then
   some true
  else
   if (BE n 13) then
    some true
   else
    Dk n 32 55295 >>= fun r =>
    if r then
     some true
    else
     Dk n 57344 65533 >>= fun r1 =>
     if r1 then
      some true
     else
      Dk n 65536 1114111 >>= fun r2 =>
      some r2
def B8 (s : ByteArray) (at1 : Int) : Option (Bool) :=
 if (IY at1 (AU s)) then
  Da s at1 >>= fun r2 =>
  if r2.2.2 then
   GE r2.1 >>= fun r3 =>
   if r3 then
    B8 s r2.2.1
   else
    some false
  else
   some false
 else
  some (Rg (AU s) 1500)
 partial_fixpoint
def EK (s : ByteArray) : Option (Bool) :=
 B8 s 0
def Ax (s : ByteArray) : Option (Bool) :=
 if (Rg (AU s) 600) then
  EK s >>= fun r =>
  some r
 else
  some false
def Dx (d : A1) : Option (Bool) :=
 Ax d.Uri >>= fun r2 =>
 if r2 then
  some (Rg (AU d.Uri) 40)
 else
  some false
def GF (d : A1) : Option (Bool) :=
 if (neS d.Pre (⟨#[]⟩)) then
  B6 d.Pre >>= fun r =>
  if r then
   GD d.Pre >>= fun r1 =>
   if r1 then
    some false
   else
    if (Cs d.Uri (⟨#[]⟩)) then
     some false
    else
     Dx d
  else
   some false
 else
  Dx d
def B9 (l : List A1) (i : Int) : Option (Bool) :=
 if (IY i (AC l)) then
  getI l i >>= fun x2 =>
  GF x2 >>= fun r1 =>
  if r1 then
   if (Nw i 0) then
    getI l (Bz i 1) >>= fun x3 =>
    if (geS x3.Pre x2.Pre) then
     some false
    else
     B9 l (Ac i 1)
   else
    B9 l (Ac i 1)
  else
   some false
 else
  some (Rg (AC l) 4)
 partial_fixpoint
def C6 (l : List A1) : Option (Bool) :=
 B9 l 0
def FO (n : A0) : Option (Bool) :=
 if (Cs n.Pre (⟨#[]⟩)) then
  if (Cs n.Uri (⟨#[]⟩)) then
   if (BE (AC n.Decls) 0) then
    if (BE (AC n.Attrs) 0) then
     some (BE (AC n.Kids) 0)
    else
     some false
   else
    some false
  else
   some false
 else
  some false
def Bg (s : ByteArray) (t : ByteArray) (i : Int) : Option (Bool) :=
 if (Rg (Ac i (AU t)) (AU s)) then
  PN s i (Ac i (AU t)) >>= fun x1 =>
  if (Cs x1 t) then
   some true
  else
   Bg s t (Ac i 1)
 else
  some false
 partial_fixpoint
def D0 (s : ByteArray) (t : ByteArray) : Option (Bool) :=
 Bg s t 0
def Hu (s : ByteArray) : Option (Bool) :=
 if (neI (AU s) 3) then
  some false
 else
  PM s 0 >>= fun x =>
  if (BE x 120) then
   PM s 1 >>= fun x1 =>
   if (BE x1 109) then
    PM s 2 >>= fun x2 =>
    if (BE x2 108) then
     some true
    else
     PM s 2 >>= fun x3 =>
     some (BE x3 76)
   else
    PM s 1 >>= fun x4 =>
    if (BE x4 77) then
     PM s 2 >>= fun x5 =>
     if (BE x5 108) then
      some true
     else
      PM s 2 >>= fun x6 =>
      some (BE x6 76)
    else
     some false
  else
   PM s 0 >>= fun x7 =>
   if (BE x7 88) then
    PM s 1 >>= fun x8 =>
    if (BE x8 109) then
     PM s 2 >>= fun x9 =>
     if (BE x9 108) then
      some true
     else
      PM s 2 >>= fun x10 =>
      some (BE x10 76)
    else
     PM s 1 >>= fun x11 =>
     if (BE x11 77) then
      PM s 2 >>= fun x12 =>
      if (BE x12 108) then
       some true
      else
       PM s 2 >>= fun x13 =>
       some (BE x13 76)
     else
      some false
   else
    some false
def EL (n : Int) : Option (Bool) :=
 if (BE n 9) then
  some true
 else
  if (BE n 10) then
   some true
  else
   if (BE n 13) then
    some true
   else
    some (BE n 32)
def D1 (a : A3) : Option (Bool) :=
 Ax a.Val >>= fun r2 =>
 if r2 then
  Ax a.Uri >>= fun r3 =>
  if r3 then
   some (Rg (AU a.Uri) 40)
  else
   some false
 else
  some false
def Db (a : A3) : Option (Bool) :=
 CU a.Pre >>= fun r =>
 if r then
  if (neB (Cs a.Pre (⟨#[]⟩)) (Cs a.Uri (⟨#[]⟩))) then
   some false
  else
   B6 a.Local >>= fun r1 =>
   if r1 then
    if (Cs a.Pre (⟨#[]⟩)) then
     if (Cs a.Local (⟨#[120, 109, 108, 110, 115]⟩)) then
      some false
     else
      D1 a
    else
     D1 a
   else
    some false
 else
  some false
def Ay (i : Int) (n : A0) : Option (Bool) :=
 if (IY i (AC n.Attrs)) then
  getI n.Attrs i >>= fun x2 =>
  Db x2 >>= fun r8 =>
  if r8 then
   if (Nw i 0) then
    getI n.Attrs (Bz i 1) >>= fun x3 =>
    FN x3 x2 >>= fun r9 =>
    if r9 then
     Ay (Ac i 1) n
    else
     some false
   else
    Ay (Ac i 1) n
  else
   some false
 else
  some true
 partial_fixpoint
def CN (n : A0) : Option (Bool) :=
 Ay 0 n
def Bw (n : A0) : Option (Bool) :=
 if (BE n.Kind 1) then
  CU n.Pre >>= fun r =>
  if r then
   B6 n.Local >>= fun r1 =>
   if r1 then
    if (neS n.Text (⟨#[]⟩)) then
     some false
    else
     if (neS n.Pre (⟨#[]⟩)) then
      if (Cs n.Uri (⟨#[]⟩)) then
       some false
      else
       Ax n.Uri >>= fun r2 =>
       if r2 then
        if (Nw (AU n.Uri) 40) then
         some false
        else
         C6 n.Decls >>= fun r3 =>
         if r3 then
          if (Nw (AC n.Attrs) 5) then
           some false
          else
           CN n
         else
          some false
       else
        some false
     else
      Ax n.Uri >>= fun r4 =>
      if r4 then
       if (Nw (AU n.Uri) 40) then
        some false
       else
        C6 n.Decls >>= fun r5 =>
        if r5 then
         if (Nw (AC n.Attrs) 5) then
          some false
         else
          CN n
        else
         some false
      else
       some false
   else
    some false
  else
   some false
 else
  if (BE n.Kind 2) then
   FO n >>= fun r10 =>
   if r10 then
    if (Cs n.Local (⟨#[]⟩)) then
     if (neS n.Text (⟨#[]⟩)) then
      Ax n.Text >>= fun r11 =>
      some r11
     else
      some false
    else
     some false
   else
    some false
  else
   if (BE n.Kind 3) then
    FO n >>= fun r12 =>
    if r12 then
     if (Cs n.Local (⟨#[]⟩)) then
      Ax n.Text >>= fun r13 =>
      if r13 then
       D0 n.Text (⟨#[45, 45]⟩) >>= fun r14 =>
       if r14 then
        some false
       else
        D0 n.Text (⟨#[13]⟩) >>= fun r15 =>
        if r15 then
         some false
        else
         if (Cs n.Text (⟨#[]⟩)) then
          some true
         else
          PM n.Text (Bz (AU n.Text) 1) >>= fun x4 =>
          some (neI x4 45)
      else
       some false
     else
      some false
    else
     some false
   else
    if (BE n.Kind 4) then
     FO n >>= fun r16 =>
     if r16 then
      B6 n.Local >>= fun r17 =>
      if r17 then
       Hu n.Local >>= fun r18 =>
       if r18 then
        some false
       else
        Ax n.Text >>= fun r19 =>
        if r19 then
         D0 n.Text (⟨#[63, 62]⟩) >>= fun r20 =>
         if r20 then
          some false
         else
          D0 n.Text (⟨#[13]⟩) >>= fun r21 =>
          if r21 then
           some false
          else
           if (Cs n.Text (⟨#[]⟩)) then
            some true
           else
            PM n.Text 0 >>= fun x5 =>
            EL (wr .i64 x5) >>= fun r22 =>
            some (!r22)
        else
         some false
      else
       some false
     else
      some false
    else
     some false
mutual
def Ak (l : List A0) (deep : Int) : Option (Bool) :=
 Ai l deep 0
 partial_fixpoint
def Bh (l : List A0) (deep : Int) (i : Int) (x2 : A0) : Option (Bool) :=
 if (BE x2.Kind 1) then
  if (BE deep 7) then
   some false
  else
   Ak x2.Kids (Ac deep 1) >>= fun r3 =>
   if r3 then
    Ai l deep (Ac i 1)
   else
    some false
 else
  Ai l deep (Ac i 1)
 partial_fixpoint
def Ai (l : List A0) (deep : Int) (i : Int) : Option (Bool) :=
 if (IY i (AC l)) then
  getI l i >>= fun x2 =>
  Bw x2 >>= fun r2 =>
  if r2 then
   if (BE x2.Kind 2) then
    if (Nw i 0) then
     getI l (Bz i 1) >>= fun x3 =>
     if (BE x3.Kind 2) then
      some false
     else
      Bh l deep i x2
    else
     Bh l deep i x2
   else
    Bh l deep i x2
  else
   some false
 else
  some true
 partial_fixpoint
end
mutual
def Bi (k2 : Int) (i : Int) (n : A0) : Option (Bool) :=
 getI n.Kids i >>= fun x3 =>
 if (BE x3.Kind 2) then
  some false
 else
  AT k2 (Ac i 1) n
 partial_fixpoint
def AT (k1 : Int) (i : Int) (n : A0) : Option (Bool) :=
 if (IY i (AC n.Kids)) then
  getI n.Kids i >>= fun x2 =>
  if (BE x2.Kind 1) then
   Bi (Ac k1 1) i n
  else
   Bi k1 i n
 else
  if (BE k1 1) then
   if (Cs n.Pre (⟨#[]⟩)) then
    if (Cs n.Local (⟨#[]⟩)) then
     if (Cs n.Uri (⟨#[]⟩)) then
      if (Cs n.Text (⟨#[]⟩)) then
       if (BE (AC n.Decls) 0) then
        if (BE (AC n.Attrs) 0) then
         Ak n.Kids 0 >>= fun r3 =>
         some r3
        else
         some false
       else
        some false
      else
       some false
     else
      some false
    else
     some false
   else
    some false
  else
   some false
 partial_fixpoint
end
def Cg (n : A0) : Option (Bool) :=
 Aw n >>= fun r =>
 if (Nw r 60) then
  some false
 else
  if (neI n.Kind 0) then
   Ak [n] 0 >>= fun r1 =>
   some r1
  else
   AT 0 0 n
mutual
def BG (n : A0) (l : List A1) : Option (Bool) :=
 DL l n.Decls >>= fun r =>
 if (BE n.Kind 1) then
  B5 r n.Pre >>= fun r1 =>
  if r1.2 then
   if (neS r1.1 n.Uri) then
    some false
   else
    BM r n
  else
   some false
 else
  BM r n
 partial_fixpoint
def BM (r : List A1) (n : A0) : Option (Bool) :=
 Am r 0 n
 partial_fixpoint
def AO (r : List A1) (i2 : Int) (n : A0) : Option (Bool) :=
 if (IY i2 (AC n.Kids)) then
  getI n.Kids i2 >>= fun x5 =>
  BG x5 r >>= fun r7 =>
  if r7 then
   AO r (Ac i2 1) n
  else
   some false
 else
  some true
 partial_fixpoint
def Am (r : List A1) (i1 : Int) (n : A0) : Option (Bool) :=
 if (IY i1 (AC n.Attrs)) then
  getI n.Attrs i1 >>= fun x3 =>
  B5 r x3.Pre >>= fun r5 =>
  if (neS x3.Pre (⟨#[]⟩)) then
   if r5.2 then
    if (neS r5.1 x3.Uri) then
     some false
    else
     Am r (Ac i1 1) n
   else
    some false
  else
   Am r (Ac i1 1) n
 else
  AO r 0 n
 partial_fixpoint
end
def CC (n : A0) : Option (Bool) :=
 if (BE n.Kind 0) then
  Cg n >>= fun r =>
  if r then
   BG n [] >>= fun r1 =>
   some r1
  else
   some false
 else
  some false
def EC (r3 : Bool × A2) (nKids1 : List (A0)) : Option (A0 × A2) :=
 CC (A0.mk 0 (⟨#[]⟩) (⟨#[]⟩) (⟨#[]⟩) [] [] nKids1 (⟨#[]⟩)) >>= fun r4 =>
 if r4 then
  some ((A0.mk 0 (⟨#[]⟩) (⟨#[]⟩) (⟨#[]⟩) [] [] nKids1 (⟨#[]⟩)), r3.2)
 else
  some ((A0.mk 0 (⟨#[]⟩) (⟨#[]⟩) (⟨#[]⟩) [] [] [(A0.mk 1 (⟨#[]⟩) (⟨#[97]⟩) (⟨#[]⟩) [] [] [] (⟨#[]⟩))] (⟨#[]⟩)), r3.2)
def FJ (r1 : Bool × A2) (r : Int × A2) (nKids : List (A0)) : Option (A0 × A2) :=
 FI r1.2 [] (Ac 3 r.1) >>= fun r2 =>
 room (nKids.length + 1) 144 >>= fun x_1 =>
 D8 r2.2.1 4 >>= fun r3 =>
 if r3.1 then
  room ((nKids ++ [r2.1]).length + 1) 144 >>= fun x_2 =>
  EC r3 ((nKids ++ [r2.1]) ++ [(A0.mk 4 (⟨#[]⟩) (⟨#[116]⟩) (⟨#[]⟩) [] [] [] (⟨#[101, 110, 100]⟩))])
 else
  EC r3 (nKids ++ [r2.1])
def ID (c : A2) : Option (A0 × A2) :=
 BI c 8 >>= fun r =>
 D8 r.2 4 >>= fun r1 =>
 if r1.1 then
  room 1 144 >>= fun x_ =>
  FJ r1 r ([] ++ [(A0.mk 3 (⟨#[]⟩) (⟨#[]⟩) (⟨#[]⟩) [] [] [] (⟨#[104]⟩))])
 else
  FJ r1 r []
def H9 (code : List Int) : Option (A0) :=
 KF code >>= fun r =>
 ID r >>= fun r1 =>
 some r1.1
def Bn (s : List (Int)) : Option (List Int) :=
 room s.length 8 >>= fun _ => some s
def EM (s : List (List (Int))) : Option (List Int) :=
 match s with | [l, m] => if (l.length + m.length) * 8 ≤ 140737488351232 ∧ l.length + m.length ≤ 1000000000000 then some (l ++ m) else none | _ => none
mutual
def Eg (n : A0) (path : List Int) (out : List (List Int)) : Option (List (List Int)) :=
 Bn path >>= fun r =>
 room (out.length + 1) 24 >>= fun x_ =>
 Dl path (out ++ [r]) n 0
 partial_fixpoint
def Dl (path : List Int) (out1 : List (List Int)) (n : A0) (x1 : Int) : Option (List (List Int)) :=
 if (IY x1 (AC n.Kids)) then
  getI n.Kids x1 >>= fun x2 =>
  EM [path, [x1]] >>= fun r3 =>
  Eg x2 r3 out1 >>= fun r4 =>
  Dl path r4 n (Ac x1 1)
 else
  some out1
 partial_fixpoint
end
def IE (n : A0) : Option (List (List Int)) :=
 Eg n [] [] >>= fun r =>
 some r
mutual
def EN (n : A0) : Option (Int) :=
 ED (Ac 1 (AC n.Attrs)) n 0
 partial_fixpoint
def ED (out : Int) (n : A0) (x1 : Int) : Option (Int) :=
 if (IY x1 (AC n.Kids)) then
  getI n.Kids x1 >>= fun x2 =>
  EN x2 >>= fun r1 =>
  ED (Ac out r1) n (Ac x1 1)
 else
  some out
 partial_fixpoint
end
def Fw (n : Int) (lo : Int) (hi : Int) : Option (Bool) :=
 if (geI n lo) then
  some (Rg n hi)
 else
  some false
def Cm (s : ByteArray) : Option (Int × Int) :=
 some (Xs s)
def IF (s : ByteArray) (at1 : Int) : Option (Int × Int × Bool) :=
 Fw at1 0 (Bz (AU s) 1) >>= fun r =>
 if r then
  PN s at1 (AU s) >>= fun x =>
  Cm x >>= fun r1 =>
  if (BE r1.1 65533) then
   if (Rg r1.2 1) then
    some (0, 0, false)
   else
    some ((wr .i64 r1.1), (Ac at1 r1.2), true)
  else
   some ((wr .i64 r1.1), (Ac at1 r1.2), true)
 else
  some (0, 0, false)
def Mn (r : A7) (a1 : Int) : Option (Bool × Int) :=
 Fw a1 r.xa0 r.xa1 >>= fun r1 =>
 some (r1, a1)
def AM (s : List A7) (x1 : Int) (f : Int) : Option (Int × Int) :=
 if (IY x1 (AC s)) then
  getI s x1 >>= fun x2 =>
  Mn x2 f >>= fun r1 =>
  if r1.1 then
   some (x1, r1.2)
  else
   AM s (Ac x1 1) r1.2
 else
  some ((-1), f)
 partial_fixpoint
def Bo (s : List A7) (fc0 : Int) : Option (Int × Int) :=
 AM s 0 fc0
def BO (s : List A7) (fc0 : Int) : Option (Bool × Int) :=
 Bo s fc0 >>= fun r =>
 some ((geI r.1 0), r.2)
def Hv (n : Int) (ranges : List A7) : Option (Bool) :=
 BO ranges n >>= fun r =>
 some r.1
def LP (n : Int) : Option (Bool) :=
 Hv n [(A7.mk 9 10), (A7.mk 13 13), (A7.mk 32 55295), (A7.mk 57344 65533), (A7.mk 65536 1114111)] >>= fun r =>
 some r
def Ch (s : ByteArray) (at1 : Int) : Option (Bool) :=
 if (IY at1 (AU s)) then
  IF s at1 >>= fun r2 =>
  if r2.2.2 then
   LP r2.1 >>= fun r3 =>
   if r3 then
    Ch s r2.2.1
   else
    some false
  else
   some false
 else
  some true
 partial_fixpoint
def JX (s : ByteArray) : Option (Bool) :=
 Ch s 0
def Dc (s : ByteArray) : Option (Bool) :=
 if (Rg (AU s) 600) then
  JX s >>= fun r =>
  some r
 else
  some false
def strings_Contains (s : ByteArray) (t : ByteArray) : Option (Bool) :=
 if s.size < 4294967281 then some (F9 s t) else none
def Bq (s : ByteArray) (suffix : ByteArray) : Option (Bool) :=
 if (geI (AU s) (AU suffix)) then
  PN s (Bz (AU s) (AU suffix)) (AU s) >>= fun x =>
  some (Cs x suffix)
 else
  some false
def EO (s : ByteArray) (suffix : ByteArray) : Option (Bool) :=
 Bq s suffix >>= fun r =>
 some r
def Nm (s : ByteArray) : Option (Bool) :=
 Dc s >>= fun r =>
 if r then
  strings_Contains s (⟨#[45, 45]⟩) >>= fun r1 =>
  if r1 then
   some false
  else
   EO s (⟨#[45]⟩) >>= fun r2 =>
   if r2 then
    some false
   else
    strings_Contains s (⟨#[13]⟩) >>= fun r3 =>
    some (!r3)
 else
  some false
def Gd (n : Int) : Option (Bool) :=
 Hv n [(A7.mk 65 90), (A7.mk 95 95), (A7.mk 97 122), (A7.mk 192 214), (A7.mk 216 246), (A7.mk 248 767), (A7.mk 880 893), (A7.mk 895 8191), (A7.mk 8204 8205), (A7.mk 8304 8591), (A7.mk 11264 12271), (A7.mk 12289 55295), (A7.mk 63744 64975), (A7.mk 65008 65533), (A7.mk 65536 983039)] >>= fun r =>
 some r
def IG (n : Int) : Option (Bool) :=
 Gd n >>= fun r =>
 if r then
  some true
 else
  Hv n [(A7.mk 45 46), (A7.mk 48 57), (A7.mk 183 183), (A7.mk 768 879), (A7.mk 8255 8256)] >>= fun r1 =>
  some r1
def C7 (s : ByteArray) (at1 : Int) : Option (Bool) :=
 if (IY at1 (AU s)) then
  IF s at1 >>= fun r5 =>
  if r5.2.2 then
   if (BE at1 0) then
    Gd r5.1 >>= fun r6 =>
    if r6 then
     IG r5.1 >>= fun r7 =>
     if r7 then
      C7 s r5.2.1
     else
      some false
    else
     some false
   else
    IG r5.1 >>= fun r8 =>
    if r8 then
     C7 s r5.2.1
    else
     some false
  else
   some false
 else
  Fw (AU s) 1 16 >>= fun r9 =>
  some r9
 partial_fixpoint
def EP (s : ByteArray) : Option (Bool) :=
 C7 s 0
def strings_EqualFold (s : ByteArray) (t : ByteArray) : Option (Bool) :=
 if s.size < 4294967281 ∧ yU t = true then some (SE s t) else none
def Ge (n : Int) : Option (Bool) :=
 if (BE n 9) then
  some true
 else
  if (BE n 10) then
   some true
  else
   if (BE n 13) then
    some true
   else
    some (BE n 32)
def Nn (local1 : ByteArray) (s : ByteArray) : Option (Bool) :=
 EP local1 >>= fun r =>
 if r then
  strings_EqualFold local1 (⟨#[120, 109, 108]⟩) >>= fun r1 =>
  if r1 then
   some false
  else
   Dc s >>= fun r2 =>
   if r2 then
    strings_Contains s (⟨#[63, 62]⟩) >>= fun r3 =>
    if r3 then
     some false
    else
     strings_Contains s (⟨#[13]⟩) >>= fun r4 =>
     if r4 then
      some false
     else
      if (Cs s (⟨#[]⟩)) then
       some true
      else
       PM s 0 >>= fun x =>
       Ge (wr .i64 x) >>= fun r5 =>
       some (!r5)
   else
    some false
 else
  some false
def GH (n : A0) : Option (Bool) :=
 if (BE n.Kind 2) then
  if (neS n.Text (⟨#[]⟩)) then
   Dc n.Text >>= fun r =>
   some r
  else
   some false
 else
  if (BE n.Kind 3) then
   Nm n.Text >>= fun r1 =>
   some r1
  else
   if (BE n.Kind 4) then
    Nn n.Local n.Text >>= fun r2 =>
    some r2
   else
    some false
def GI (n : A0) : Option (Bool) :=
 if (neS n.Pre (⟨#[]⟩)) then
  some false
 else
  if (neS n.Uri (⟨#[]⟩)) then
   some false
  else
   if (Nw (AC n.Decls) 0) then
    some false
   else
    if (Nw (AC n.Attrs) 0) then
     some false
    else
     if (Nw (AC n.Kids) 0) then
      some false
     else
      if (neS n.Local (⟨#[]⟩)) then
       if (neI n.Kind 4) then
        some false
       else
        GH n
      else
       GH n
def Bt (s : ByteArray) (prefix1 : ByteArray) : Option (Bool) :=
 if (geI (AU s) (AU prefix1)) then
  PN s 0 (AU prefix1) >>= fun x =>
  some (Cs x prefix1)
 else
  some false
def EQ (s : ByteArray) (prefix1 : ByteArray) : Option (Bool) :=
 Bt s prefix1 >>= fun r =>
 some r
def GJ (s : ByteArray) : Option (Bool) :=
 if (Cs s (⟨#[]⟩)) then
  some true
 else
  EP s >>= fun r =>
  if r then
   EQ s (⟨#[120, 109, 108]⟩) >>= fun r1 =>
   some (!r1)
  else
   some false
def Hw (uri : ByteArray) (pre : ByteArray) : Option (Bool) :=
 Dc uri >>= fun r =>
 if r then
  if (Rg (AU uri) 40) then
   if (neS uri (⟨#[]⟩)) then
    some true
   else
    some (Cs pre (⟨#[]⟩))
  else
   some false
 else
  some false
def LQ (d : A1) : Option (Bool) :=
 GJ d.Pre >>= fun r =>
 if r then
  Hw d.Uri d.Pre >>= fun r1 =>
  some r1
 else
  some false
def Ci (l : List A1) (x2 : Int) : Option (Bool) :=
 if (IY x2 (AC l)) then
  getI l x2 >>= fun x3 =>
  LQ x3 >>= fun r1 =>
  if r1 then
   if (Nw x2 0) then
    getI l (Bz x2 1) >>= fun x4 =>
    if (geS x4.Pre x3.Pre) then
     some false
    else
     Ci l (Ac x2 1)
   else
    Ci l (Ac x2 1)
  else
   some false
 else
  some (Rg (AC l) 4)
 partial_fixpoint
def Mo (l : List A1) : Option (Bool) :=
 Ci l 0
def GK (a : A3) : Option (Bool) :=
 GJ a.Pre >>= fun r =>
 if r then
  if (neB (Cs a.Pre (⟨#[]⟩)) (Cs a.Uri (⟨#[]⟩))) then
   some false
  else
   Hw a.Uri a.Pre >>= fun r1 =>
   if r1 then
    EP a.Local >>= fun r2 =>
    if r2 then
     Dc a.Val >>= fun r3 =>
     if r3 then
      if (neS a.Pre (⟨#[]⟩)) then
       some true
      else
       some (neS a.Local (⟨#[120, 109, 108, 110, 115]⟩))
     else
      some false
    else
     some false
   else
    some false
 else
  some false
def strings_Compare (s : ByteArray) (t : ByteArray) : Option (Int) :=
 some (LM s t)
def ER (a : A3) (b : A3) : Option (Int) :=
 strings_Compare a.Uri b.Uri >>= fun r =>
 if (neI r 0) then
  some r
 else
  strings_Compare a.Local b.Local >>= fun r1 =>
  some r1
def Cj (l : List A3) (x2 : Int) : Option (Bool) :=
 if (IY x2 (AC l)) then
  getI l x2 >>= fun x3 =>
  GK x3 >>= fun r2 =>
  if r2 then
   if (Nw x2 0) then
    getI l (Bz x2 1) >>= fun x4 =>
    ER x4 x3 >>= fun r3 =>
    if (geI r3 0) then
     some false
    else
     Cj l (Ac x2 1)
   else
    Cj l (Ac x2 1)
  else
   some false
 else
  some (Rg (AC l) 5)
 partial_fixpoint
def JY (l : List A3) : Option (Bool) :=
 Cj l 0
def BJ (l : List A0) (x2 : Int) : Option (Bool) :=
 if (IY x2 (AC l)) then
  getI l x2 >>= fun x3 =>
  if (Nw x2 0) then
   if (BE x3.Kind 2) then
    getI l (Bz x2 1) >>= fun x4 =>
    if (BE x4.Kind 2) then
     some false
    else
     BJ l (Ac x2 1)
   else
    BJ l (Ac x2 1)
  else
   BJ l (Ac x2 1)
 else
  some true
 partial_fixpoint
def Ff (l : List A0) : Option (Bool) :=
 BJ l 0
mutual
def Dd (n : A0) (deep : Int) : Option (Bool) :=
 Ff n.Kids >>= fun r =>
 if r then
  BP n.Kids deep >>= fun r1 =>
  some (!r1.1)
 else
  some false
 partial_fixpoint
def L6 (k : A0) (a1 : Int) : Option (Bool × Int) :=
 Be k a1 >>= fun r =>
 some ((!r), a1)
 partial_fixpoint
def Be (n : A0) (deep : Int) : Option (Bool) :=
 if (neI n.Kind 1) then
  GI n >>= fun r =>
  some r
 else
  if (geI deep 7) then
   some false
  else
   if (neS n.Text (⟨#[]⟩)) then
    some false
   else
    GJ n.Pre >>= fun r1 =>
    if r1 then
     Hw n.Uri n.Pre >>= fun r2 =>
     if r2 then
      EP n.Local >>= fun r3 =>
      if r3 then
       Mo n.Decls >>= fun r4 =>
       if r4 then
        JY n.Attrs >>= fun r5 =>
        if r5 then
         Dd n (Ac deep 1) >>= fun r6 =>
         some r6
        else
         some false
       else
        some false
      else
       some false
     else
      some false
    else
     some false
 partial_fixpoint
def BP (s : List A0) (fc0 : Int) : Option (Bool × Int) :=
 Bu s fc0 >>= fun r =>
 some ((geI r.1 0), r.2)
 partial_fixpoint
def Bu (s : List A0) (fc0 : Int) : Option (Int × Int) :=
 AS s 0 fc0
 partial_fixpoint
def AS (s : List A0) (x1 : Int) (f : Int) : Option (Int × Int) :=
 if (IY x1 (AC s)) then
  getI s x1 >>= fun x2 =>
  L6 x2 f >>= fun r1 =>
  if r1.1 then
   some (x1, r1.2)
  else
   AS s (Ac x1 1) r1.2
 else
  some ((-1), f)
 partial_fixpoint
end
def DA (kind : Int) (n : Int) (l : List A0) (x1 : Int) : Option (Int) :=
 if (IY x1 (AC l)) then
  getI l x1 >>= fun x2 =>
  if (BE x2.Kind kind) then
   DA kind (Ac n 1) l (Ac x1 1)
  else
   DA kind n l (Ac x1 1)
 else
  some n
 partial_fixpoint
def IH (l : List A0) (kind : Int) : Option (Int) :=
 DA kind 0 l 0
def Bj (bare : Bool) (n : A0) : Option (Bool) :=
 if bare then
  IH n.Kids 1 >>= fun r2 =>
  if (BE r2 1) then
   IH n.Kids 2 >>= fun r3 =>
   if (BE r3 0) then
    Dd n 0 >>= fun r4 =>
    some r4
   else
    some false
  else
   some false
 else
  some false
def GL (n : A0) : Option (Bool) :=
 EN n >>= fun r =>
 if (Nw r 60) then
  some false
 else
  if (neI n.Kind 0) then
   Be n 0 >>= fun r1 =>
   some r1
  else
   if (Cs n.Pre (⟨#[]⟩)) then
    if (Cs n.Local (⟨#[]⟩)) then
     if (Cs n.Uri (⟨#[]⟩)) then
      if (Cs n.Text (⟨#[]⟩)) then
       if (BE (AC n.Decls) 0) then
        Bj (BE (AC n.Attrs) 0) n
       else
        Bj false n
      else
       Bj false n
     else
      Bj false n
    else
     Bj false n
   else
    Bj false n
def No (n : A0) (l : List (A1)) : Option (Bool) :=
 LO ((A0.row false) n) (l.map fun x => (x.Pre, x.Uri))
def II (n : A0) : Option (Bool) :=
 if (BE n.Kind 0) then
  GL n >>= fun r =>
  if r then
   No n [] >>= fun r1 =>
   some r1
  else
   some false
 else
  some false
def ET (s : List (A1)) : Option (List A1) :=
 room s.length 32 >>= fun _ => some s
def EU (s : List (A3)) : Option (List A3) :=
 room s.length 64 >>= fun _ => some s
mutual
def C2 (n : A0) : Option (A0) :=
 ET n.Decls >>= fun r =>
 EU n.Attrs >>= fun r1 =>
 Hg n.Kids >>= fun r2 =>
 some (A0.mk n.Kind n.Pre n.Local n.Uri r r1 r2 n.Text)
 partial_fixpoint
def Hg (l : List A0) : Option (List A0) :=
 Dy [] l 0
 partial_fixpoint
def Dy (out : List (A0)) (l : List A0) (x1 : Int) : Option (List A0) :=
 if (IY x1 (AC l)) then
  getI l x1 >>= fun x2 =>
  C2 x2 >>= fun r1 =>
  room (out.length + 1) 144 >>= fun x_1 =>
  Dy (out ++ [r1]) l (Ac x1 1)
 else
  some out
 partial_fixpoint
end
def IJ (t : A0) : Option (AI × Bool) :=
 II t >>= fun r =>
 if r then
  C2 t >>= fun r1 =>
  some ((AI.mk r1 []), true)
 else
  some ((AI.mk (A0.mk 0 (⟨#[]⟩) (⟨#[]⟩) (⟨#[]⟩) [] [] [] (⟨#[]⟩)) []), false)
def Dz (path : List Int) (x2 : Int) (n1 : A0) : Option (A0 × Bool) :=
 if (IY x2 (AC path)) then
  getI path x2 >>= fun x3 =>
  Fw x3 0 (Bz (AC n1.Kids) 1) >>= fun r2 =>
  if r2 then
   getI n1.Kids x3 >>= fun x4 =>
   Dz path (Ac x2 1) x4
  else
   some ((A0.mk 0 (⟨#[]⟩) (⟨#[]⟩) (⟨#[]⟩) [] [] [] (⟨#[]⟩)), false)
 else
  C2 n1 >>= fun r3 =>
  some (r3, true)
 partial_fixpoint
def De (n : A0) (path : List Int) : Option (A0 × Bool) :=
 Dz path 0 n
def CV (a : List Int) (b : List Int) (i : Int) : Option (Bool) :=
 if (IY i (AC a)) then
  getI a i >>= fun x2 =>
  getI b i >>= fun x3 =>
  if (neI x2 x3) then
   some false
  else
   CV a b (Ac i 1)
 else
  some true
 partial_fixpoint
def D7 (a : List Int) (b : List Int) : Option (Bool) :=
 if (neI (AC a) (AC b)) then
  some false
 else
  CV a b 0
def GM (w : AI) : Option (Bool) :=
 De w.Tre w.Path >>= fun r =>
 if r.2 then
  II w.Tre >>= fun r1 =>
  some r1
 else
  some false
def Oq (w : AI) : Option (A0) :=
 GM w >>= fun r =>
 if r then
  De w.Tre w.Path >>= fun r1 =>
  some r1.1
 else
  some (A0.mk 0 (⟨#[]⟩) (⟨#[]⟩) (⟨#[]⟩) [] [] [] (⟨#[]⟩))
def Aq (s1 : List A1) (s2 : List A1) (x2 : Int) : Option (Bool) :=
 if (IY x2 (AC s1)) then
  getI s1 x2 >>= fun x3 =>
  getI s2 x2 >>= fun x4 =>
  if (Cs x3.Pre x4.Pre && Cs x3.Uri x4.Uri) then
   Aq s1 s2 (Ac x2 1)
  else
   some false
 else
  some true
 partial_fixpoint
def EV (s1 : List A1) (s2 : List A1) : Option (Bool) :=
 if (neI (AC s1) (AC s2)) then
  some false
 else
  Aq s1 s2 0
def Ar (s1 : List A3) (s2 : List A3) (x2 : Int) : Option (Bool) :=
 if (IY x2 (AC s1)) then
  getI s1 x2 >>= fun x3 =>
  getI s2 x2 >>= fun x4 =>
  if (Cs x3.Pre x4.Pre && (Cs x3.Local x4.Local && (Cs x3.Uri x4.Uri && Cs x3.Val x4.Val))) then
   Ar s1 s2 (Ac x2 1)
  else
   some false
 else
  some true
 partial_fixpoint
def EW (s1 : List A3) (s2 : List A3) : Option (Bool) :=
 if (neI (AC s1) (AC s2)) then
  some false
 else
  Ar s1 s2 0
def GN (a : A0) (b : A0) : Option (Bool) :=
 if (BE a.Kind b.Kind) then
  if (Cs a.Pre b.Pre) then
   if (Cs a.Local b.Local) then
    if (Cs a.Uri b.Uri) then
     if (Cs a.Text b.Text) then
      EV a.Decls b.Decls >>= fun r =>
      if r then
       EW a.Attrs b.Attrs >>= fun r1 =>
       some r1
      else
       some false
     else
      some false
    else
     some false
   else
    some false
  else
   some false
 else
  some false
mutual
def Df (a : A0) (b : A0) : Option (Bool) :=
 GN a b >>= fun r =>
 if r then
  BC a.Kids b.Kids >>= fun r1 =>
  some r1
 else
  some false
 partial_fixpoint
def BC (s1 : List A0) (s2 : List A0) : Option (Bool) :=
 if (neI (AC s1) (AC s2)) then
  some false
 else
  AK s2 s1 0
 partial_fixpoint
def AK (s2 : List A0) (s1 : List A0) (x2 : Int) : Option (Bool) :=
 if (IY x2 (AC s1)) then
  getI s1 x2 >>= fun x3 =>
  getI s2 x2 >>= fun x4 =>
  Df x3 x4 >>= fun r1 =>
  if r1 then
   AK s2 s1 (Ac x2 1)
  else
   some false
 else
  some true
 partial_fixpoint
end
def BH (s1 : List Int) (s2 : List Int) (x2 : Int) : Option (Bool) :=
 if (IY x2 (AC s1)) then
  getI s1 x2 >>= fun x3 =>
  getI s2 x2 >>= fun x4 =>
  if (neI x3 x4) then
   some false
  else
   BH s1 s2 (Ac x2 1)
 else
  some true
 partial_fixpoint
def FL (s1 : List Int) (s2 : List Int) : Option (Bool) :=
 if (neI (AC s1) (AC s2)) then
  some false
 else
  BH s1 s2 0
def Fj (a : List Int) (b : List Int) : Option (Bool) :=
 FL a b >>= fun r =>
 some r
def JZ (p : List Int) (a1 : AI) : Option (Bool × AI) :=
 Fj p a1.Path >>= fun r =>
 some (r, a1)
def AV (s : List (List Int)) (x1 : Int) (f : AI) : Option (Int × AI) :=
 if (IY x1 (AC s)) then
  getI s x1 >>= fun x2 =>
  JZ x2 f >>= fun r1 =>
  if r1.1 then
   some (x1, r1.2)
  else
   AV s (Ac x1 1) r1.2
 else
  some ((-1), f)
 partial_fixpoint
def Bx (s : List (List Int)) (fc0 : AI) : Option (Int × AI) :=
 AV s 0 fc0
def E0 (w : AI) : Option (AI) :=
 C2 w.Tre >>= fun r =>
 Bn w.Path >>= fun r1 =>
 some (AI.mk r r1)
def UT (w : AI) (path : List Int) : Option (AI × Bool) :=
 E0 w >>= fun r =>
 De w.Tre path >>= fun r1 =>
 if r1.2 then
  GM w >>= fun r2 =>
  if r2 then
   Bn path >>= fun r3 =>
   some ((AI.mk r.Tre r3), true)
  else
   some (r, false)
 else
  some (r, false)
def KH (w : AI) (by1 : Int) : Option (AI × Bool) :=
 GM w >>= fun r =>
 if r then
  IE w.Tre >>= fun r2 =>
  Bx r2 w >>= fun r3 =>
  Fw (Ac r3.1 by1) 0 (Bz (AC r2) 1) >>= fun r4 =>
  if r4 then
   getI r2 (Ac r3.1 by1) >>= fun x =>
   UT r3.2 x >>= fun r6 =>
   some (r6.1, r6.2)
  else
   E0 r3.2 >>= fun r5 =>
   some (r5, false)
 else
  E0 w >>= fun r1 =>
  some (r1, false)
def Ot (w : AI) : Option (AI × Bool) :=
 KH w (-1) >>= fun r =>
 some (r.1, r.2)
def KI (w : AI) : Option (AI × Bool) :=
 KH w 1 >>= fun r =>
 some (r.1, r.2)
def Hy (c : A2) (list : List Int) : Option (Int × A2) :=
 BI c (AC list) >>= fun r =>
 getI list r.1 >>= fun x =>
 some (x, r.2)
def Np (c : A2) : Option (ByteArray × A2) :=
 Ab c [⟨#[97]⟩, ⟨#[98]⟩, ⟨#[99]⟩, ⟨#[105, 116, 101, 109]⟩, ⟨#[112, 58, 97]⟩, ⟨#[113, 58, 98]⟩, ⟨#[112, 58, 120]⟩, ⟨#[105, 100]⟩] >>= fun r =>
 some (r.1, r.2)
def NC (c : A2) : Option (ByteArray × A2) :=
 D8 c 2 >>= fun r =>
 if r.1 then
  Np r.2 >>= fun r1 =>
  some (r1.1, r1.2)
 else
  Ab r.2 [⟨#[]⟩, ⟨#[195, 169, 116, 195, 169]⟩, ⟨#[45, 97]⟩, ⟨#[97, 45, 98, 46, 99]⟩, ⟨#[49, 97]⟩, ⟨#[97, 49]⟩, ⟨#[97, 58, 98, 58, 99]⟩, ⟨#[58, 97]⟩, ⟨#[97, 58]⟩, ⟨#[97, 32, 98]⟩, ⟨#[115, 105, 120, 116, 101, 101, 110, 108, 101, 116, 116, 101, 114, 115, 95, 120]⟩, ⟨#[115, 101, 118, 101, 110, 116, 101, 101, 110, 108, 101, 116, 116, 101, 114, 115, 120]⟩, ⟨#[112, 58, 115, 105, 120, 116, 101, 101, 110, 108, 101, 116, 116, 101, 114, 115, 95, 120]⟩, ⟨#[255]⟩, ⟨#[95]⟩, ⟨#[97, 204, 128]⟩, ⟨#[204, 128]⟩, ⟨#[97, 47, 98]⟩] >>= fun r2 =>
  some (r2.1, r2.2)
def ND (c : A2) : Option (List A1 × A2) :=
 IB c >>= fun r =>
 BI r.2 8 >>= fun r1 =>
 if (BE r1.1 0) then
  Ab r1.2 [⟨#[120, 109, 108]⟩, ⟨#[120, 109, 108, 110, 115]⟩, ⟨#[120, 109, 108, 97]⟩, ⟨#[97, 58, 98]⟩, ⟨#[49]⟩, ⟨#[122]⟩, ⟨#[112]⟩] >>= fun r2 =>
  Ab r2.2 [⟨#[]⟩, ⟨#[117, 114, 110, 58, 117]⟩, ⟨#[255]⟩] >>= fun r3 =>
  room (r.1.length + 1) 32 >>= fun x_ =>
  some ((r.1 ++ [(A1.mk r2.1 r3.1)]), r3.2)
 else
  if (BE r1.1 1) then
   GC r1.2 >>= fun r4 =>
   GC r4.2 >>= fun r5 =>
   room (r.1.length + 2) 32 >>= fun x_1 =>
   some (((r.1 ++ [r4.1]) ++ [r5.1]), r5.2)
  else
   if (BE r1.1 2) then
    Ab r1.2 [⟨#[49, 50, 51, 52, 53, 54, 55, 56, 57, 48, 49, 50, 51, 52, 53, 54, 55, 56, 57, 48, 49, 50, 51, 52, 53, 54, 55, 56, 57, 48, 49, 50, 51, 52, 53, 54, 55, 56, 57, 48]⟩, ⟨#[49, 50, 51, 52, 53, 54, 55, 56, 57, 48, 49, 50, 51, 52, 53, 54, 55, 56, 57, 48, 49, 50, 51, 52, 53, 54, 55, 56, 57, 48, 49, 50, 51, 52, 53, 54, 55, 56, 57, 48, 49]⟩] >>= fun r6 =>
    room (r.1.length + 3) 32 >>= fun x_2 =>
    some ((((r.1 ++ [(A1.mk (⟨#[115]⟩) r6.1)]) ++ [(A1.mk (⟨#[116]⟩) (⟨#[117]⟩))]) ++ [(A1.mk (⟨#[117]⟩) (⟨#[117]⟩))]), r6.2)
   else
    some (r.1, r1.2)
def DM (s2 : ByteArray) (c3 : A2) : Option (ByteArray × A2) :=
 Hy c3 [600, 601] >>= fun r8 =>
 if (IY (AU s2) r8.1) then
  aV s2 (⟨#[120]⟩) >>= fun x5 =>
  DM x5 r8.2
 else
  some (s2, r8.2)
 partial_fixpoint
def E1 (s1 : ByteArray) (i : Int) (c2 : A2) : Option (ByteArray × A2) :=
 if (Nw i 0) then
  Ab c2 [⟨#[97]⟩, ⟨#[98, 32, 99]⟩, ⟨#[32]⟩, ⟨#[10]⟩, ⟨#[195, 169]⟩, ⟨#[226, 130, 172]⟩, ⟨#[240, 159, 152, 128]⟩, ⟨#[60]⟩, ⟨#[38]⟩, ⟨#[62]⟩, ⟨#[34]⟩, ⟨#[39]⟩, ⟨#[93, 93, 62]⟩, ⟨#[45, 45]⟩, ⟨#[9]⟩, ⟨#[13]⟩, ⟨#[0]⟩, ⟨#[255]⟩, ⟨#[192, 128]⟩, ⟨#[239, 191, 190]⟩] >>= fun r5 =>
  aV s1 r5.1 >>= fun x3 =>
  E1 x3 (Bz i 1) r5.2
 else
  D8 c2 40 >>= fun r6 =>
  if r6.1 then
   DM s1 r6.2
  else
   some (s1, r6.2)
 partial_fixpoint
def IK (c : A2) : Option (ByteArray × A2) :=
 BI c 4 >>= fun r =>
 E1 (⟨#[]⟩) r.1 r.2
def Ck (k : Int) (i : Int) (c1 : A2) (r : A0 × A2) (nKids : List (A0)) : Option (A0 × A2) :=
 Hy c1 [6, 7] >>= fun r16 =>
 if (IY i r16.1) then
  getI nKids k >>= fun x18 =>
  getI nKids k >>= fun x19 =>
  Ck k (Ac i 1) r16.2 r (nKids.set (Int.toNat k) (A0.mk 1 (⟨#[]⟩) (⟨#[100]⟩) (⟨#[]⟩) [] [] [x18] (⟨#[]⟩)))
 else
  some ((A0.mk r.1.Kind r.1.Pre r.1.Local r.1.Uri r.1.Decls r.1.Attrs nKids r.1.Text), r16.2)
 partial_fixpoint
def DB (k : Int) (r : A0 × A2) : Option (A0 × A2) :=
 BI r.2 24 >>= fun r1 =>
 if (BE r1.1 0) then
  Hy r1.2 [(-1), 1, 5] >>= fun r2 =>
  some ((A0.mk r2.1 r.1.Pre r.1.Local r.1.Uri r.1.Decls r.1.Attrs r.1.Kids r.1.Text), r2.2)
 else
  if (BE r1.1 1) then
   Ab r1.2 [⟨#[112]⟩, ⟨#[120, 109, 108, 113]⟩, ⟨#[49]⟩] >>= fun r3 =>
   getI r.1.Kids k >>= fun x2 =>
   some ((A0.mk r.1.Kind r.1.Pre r.1.Local r.1.Uri r.1.Decls r.1.Attrs (r.1.Kids.set (Int.toNat k) (A0.mk x2.Kind r3.1 x2.Local x2.Uri x2.Decls x2.Attrs x2.Kids x2.Text)) r.1.Text), r3.2)
  else
   if (BE r1.1 2) then
    NC r1.2 >>= fun r4 =>
    getI r.1.Kids k >>= fun x3 =>
    some ((A0.mk r.1.Kind r.1.Pre r.1.Local r.1.Uri r.1.Decls r.1.Attrs (r.1.Kids.set (Int.toNat k) (A0.mk x3.Kind x3.Pre r4.1 x3.Uri x3.Decls x3.Attrs x3.Kids x3.Text)) r.1.Text), r4.2)
   else
    if (BE r1.1 3) then
     KG r1.2 >>= fun r5 =>
     getI r.1.Kids k >>= fun x4 =>
     some ((A0.mk r.1.Kind r.1.Pre r.1.Local r.1.Uri r.1.Decls r.1.Attrs (r.1.Kids.set (Int.toNat k) (A0.mk x4.Kind x4.Pre x4.Local r5.1 x4.Decls x4.Attrs x4.Kids x4.Text)) r.1.Text), r5.2)
    else
     if (BE r1.1 4) then
      ND r1.2 >>= fun r6 =>
      getI r.1.Kids k >>= fun x5 =>
      some ((A0.mk r.1.Kind r.1.Pre r.1.Local r.1.Uri r.1.Decls r.1.Attrs (r.1.Kids.set (Int.toNat k) (A0.mk x5.Kind x5.Pre x5.Local x5.Uri r6.1 x5.Attrs x5.Kids x5.Text)) r.1.Text), r6.2)
     else
      if (BE r1.1 5) then
       getI r.1.Kids k >>= fun x6 =>
       Ab r1.2 [⟨#[]⟩, ⟨#[112]⟩] >>= fun r7 =>
       Ab r7.2 [⟨#[120, 109, 108, 110, 115]⟩, ⟨#[122]⟩, ⟨#[97, 58, 98]⟩] >>= fun r8 =>
       Ab r8.2 [⟨#[]⟩, ⟨#[117, 114, 110, 58, 117]⟩] >>= fun r9 =>
       IK r9.2 >>= fun r10 =>
       room (x6.Attrs.length + 1) 64 >>= fun x_ =>
       getI r.1.Kids k >>= fun x7 =>
       some ((A0.mk r.1.Kind r.1.Pre r.1.Local r.1.Uri r.1.Decls r.1.Attrs (r.1.Kids.set (Int.toNat k) (A0.mk x7.Kind x7.Pre x7.Local x7.Uri x7.Decls (x6.Attrs ++ [(A3.mk r7.1 r8.1 r9.1 r10.1)]) x7.Kids x7.Text)) r.1.Text), r10.2)
      else
       if (BE r1.1 6) then
        getI r.1.Kids k >>= fun x8 =>
        IK r1.2 >>= fun r11 =>
        room (x8.Kids.length + 1) 144 >>= fun x_1 =>
        getI r.1.Kids k >>= fun x9 =>
        some ((A0.mk r.1.Kind r.1.Pre r.1.Local r.1.Uri r.1.Decls r.1.Attrs (r.1.Kids.set (Int.toNat k) (A0.mk x9.Kind x9.Pre x9.Local x9.Uri x9.Decls x9.Attrs (x8.Kids ++ [(A0.mk 2 (⟨#[]⟩) (⟨#[]⟩) (⟨#[]⟩) [] [] [] r11.1)]) x9.Text)) r.1.Text), r11.2)
       else
        if (BE r1.1 7) then
         getI r.1.Kids k >>= fun x10 =>
         Ab r1.2 [⟨#[45, 45]⟩, ⟨#[97, 45]⟩, ⟨#[45, 97]⟩, ⟨#[13]⟩] >>= fun r12 =>
         room (x10.Kids.length + 1) 144 >>= fun x_2 =>
         getI r.1.Kids k >>= fun x11 =>
         some ((A0.mk r.1.Kind r.1.Pre r.1.Local r.1.Uri r.1.Decls r.1.Attrs (r.1.Kids.set (Int.toNat k) (A0.mk x11.Kind x11.Pre x11.Local x11.Uri x11.Decls x11.Attrs (x10.Kids ++ [(A0.mk 3 (⟨#[]⟩) (⟨#[]⟩) (⟨#[]⟩) [] [] [] r12.1)]) x11.Text)) r.1.Text), r12.2)
        else
         if (BE r1.1 8) then
          getI r.1.Kids k >>= fun x12 =>
          Ab r1.2 [⟨#[120, 109, 108]⟩, ⟨#[88, 109, 76]⟩, ⟨#[120, 109, 108, 120]⟩, ⟨#[]⟩] >>= fun r13 =>
          Ab r13.2 [⟨#[32, 97]⟩, ⟨#[63, 62]⟩, ⟨#[97]⟩] >>= fun r14 =>
          room (x12.Kids.length + 1) 144 >>= fun x_3 =>
          getI r.1.Kids k >>= fun x13 =>
          some ((A0.mk r.1.Kind r.1.Pre r.1.Local r.1.Uri r.1.Decls r.1.Attrs (r.1.Kids.set (Int.toNat k) (A0.mk x13.Kind x13.Pre x13.Local x13.Uri x13.Decls x13.Attrs (x12.Kids ++ [(A0.mk 4 (⟨#[]⟩) r13.1 (⟨#[]⟩) [] [] [] r14.1)]) x13.Text)) r.1.Text), r14.2)
         else
          if (BE r1.1 9) then
           getI r.1.Kids k >>= fun x14 =>
           room (r.1.Kids.length + [x14].length) 144 >>= fun x_4 =>
           some ((A0.mk r.1.Kind r.1.Pre r.1.Local r.1.Uri r.1.Decls r.1.Attrs (r.1.Kids ++ [x14]) r.1.Text), r1.2)
          else
           if (BE r1.1 10) then
            room (r.1.Kids.length + 1) 144 >>= fun x_5 =>
            some ((A0.mk r.1.Kind r.1.Pre r.1.Local r.1.Uri r.1.Decls r.1.Attrs (r.1.Kids ++ [(A0.mk 2 (⟨#[]⟩) (⟨#[]⟩) (⟨#[]⟩) [] [] [] (⟨#[32]⟩))]) r.1.Text), r1.2)
           else
            if (BE r1.1 11) then
             slL r.1.Kids 0 k >>= fun x15 =>
             some ((A0.mk r.1.Kind r.1.Pre r.1.Local r.1.Uri r.1.Decls r.1.Attrs x15 r.1.Text), r1.2)
            else
             if (BE r1.1 12) then
              Ck k 0 r1.2 r r.1.Kids
             else
              some (r.1, r1.2)
def CW (k : Int) (r : A0 × A2) : Option (A0 × A2) :=
 if (IY k (Bz (AC r.1.Kids) 1)) then
  getI r.1.Kids k >>= fun x1 =>
  if (neI x1.Kind 1) then
   CW (Ac k 1) r
  else
   DB k r
 else
  DB k r
 partial_fixpoint
def FP (c : A2) : Option (A0 × A2) :=
 ID c >>= fun r =>
 CW 0 r
def Fk (code : List Int) : Option (A0) :=
 KF code >>= fun r =>
 FP r >>= fun r1 =>
 some r1.1
def Ou (t : A0) : Option (AI × Bool) :=
 CC t >>= fun r =>
 if r then
  EJ t >>= fun r1 =>
  some ((AI.mk r1 []), true)
 else
  some ((AI.mk (A0.mk 0 (⟨#[]⟩) (⟨#[]⟩) (⟨#[]⟩) [] [] [] (⟨#[]⟩)) []), false)
def HA (a : AI) (b : AI) : Option (Bool) :=
 Df a.Tre b.Tre >>= fun r =>
 if r then
  D7 a.Path b.Path >>= fun r1 =>
  some r1
 else
  some false
def An (code : List Int) (r2 : List (List Int)) (ok : Bool) (i : Int) (r1 : A0) (w : AI) : Option (Bool) :=
 if (IY i (AC r2)) then
  getI r2 i >>= fun x2 =>
  De r1 x2 >>= fun r17 =>
  if ok then
   D7 w.Path x2 >>= fun r18 =>
   if r18 then
    if r17.2 then
     Oq w >>= fun r19 =>
     Df r19 r17.1 >>= fun r20 =>
     if r20 then
      if (Nw i 0) then
       Ot w >>= fun r21 =>
       if r21.2 then
        getI r2 (Bz i 1) >>= fun x3 =>
        D7 r21.1.Path x3 >>= fun r22 =>
        if r22 then
         KI w >>= fun r23 =>
         An code r2 r23.2 (Ac i 1) r1 r23.1
        else
         some false
       else
        some false
      else
       KI w >>= fun r24 =>
       An code r2 r24.2 (Ac i 1) r1 r24.1
     else
      some false
    else
     some false
   else
    some false
  else
   some false
 else
  Fk code >>= fun r25 =>
  IJ r25 >>= fun r26 =>
  Fk code >>= fun r27 =>
  Ou r27 >>= fun r28 =>
  if ok then
   some false
  else
   if (Nw (AC r2) 0) then
    if (eqB r26.2 r28.2) then
     HA r26.1 r28.1 >>= fun r29 =>
     some r29
    else
     some false
   else
    some false
 partial_fixpoint
def iS := @An.partial_correctness
def L7 (code : List Int) : Option (Bool) :=
 US code >>= fun r =>
 if r then
  some true
 else
  H9 code >>= fun r1 =>
  IE r1 >>= fun r2 =>
  IJ r1 >>= fun r3 =>
  An code r2 r3.2 0 r1 r3.1
end TT
