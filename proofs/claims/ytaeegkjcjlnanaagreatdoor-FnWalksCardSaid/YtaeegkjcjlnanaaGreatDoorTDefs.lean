import Derived.Test.YtaeegkjcjlnanaaGreatDoorTTypes
set_option maxHeartbeats 2000000
set_option linter.unusedVariables false
set_option linter.unusedSimpArgs false
set_option linter.defProp false
set_option maxRecDepth 100000
set_option synthInstance.maxHeartbeats 4000000
set_option synthInstance.maxSize 100000
namespace TT
open Go
def Un (code : List Int) : Option (Bool) :=
 some (Np (AC code) 1048576)
def EY (code : List Int) (h : Int) (i : Int) : Option (A2) :=
 if (Hz i (AC code)) then
  if (Hz i 4000) then
   getI code i >>= fun x1 =>
   EY code (QD .i64 (AP (AP (UY h 137) (wr .i64 x1)) 11) 1073741823) (AP i 1)
  else
   some (A2.mk code 0 h)
 else
  some (A2.mk code 0 h)
 partial_fixpoint
def NO (code : List Int) : Option (A2) :=
 EY code (AP 129371 (AC code)) 0
def FM (c : A2) : Option (Int × A2) :=
 kp .i64 (AP (UY c.xh 6364136223846793005) 1442695040888963407) 33 >>= fun x =>
 kp .i64 (AP (UY c.xh 6364136223846793005) 1442695040888963407) 47 >>= fun x1 =>
 if (Hz c.xi (AC c.xb)) then
  getI c.xb c.xi >>= fun x2 =>
  some ((QD .i64 (AP (QD .i64 (uV .i64 x x1) 255) (wr .i64 x2)) 255), (A2.mk c.xb (AP c.xi 1) (AP (UY c.xh 6364136223846793005) 1442695040888963407)))
 else
  some ((QD .i64 (uV .i64 x x1) 255), (A2.mk c.xb c.xi (AP (UY c.xh 6364136223846793005) 1442695040888963407)))
def At (c : A2) (n : Int) : Option (Int × A2) :=
 if (Rn n 0) then
  some (0, c)
 else
  if (Rn n 256) then
   FM c >>= fun r =>
   ko r.1 n >>= fun x =>
   some (x, r.2)
  else
   FM c >>= fun r1 =>
   FM r1.2 >>= fun r2 =>
   FM r2.2 >>= fun r3 =>
   ko (AP (AP (UY r1.1 65536) (UY r2.1 256)) r3.1) n >>= fun x1 =>
   some (x1, r3.2)
def Bv (c : A2) (n : Int) : Option (Bool × A2) :=
 At c n >>= fun r =>
 some ((Av r.1 0), r.2)
def AW (c : A2) (list : List ByteArray) : Option (ByteArray × A2) :=
 At c (AC list) >>= fun r =>
 getI list r.1 >>= fun x =>
 some (x, r.2)
def KF (c : A2) : Option (ByteArray × A2) :=
 AW c [⟨#[117, 114, 110, 58, 117]⟩, ⟨#[117, 114, 110, 58, 118]⟩, ⟨#[117, 114, 110, 58, 119]⟩] >>= fun r =>
 some (r.1, r.2)
def GB (c : A2) : Option (A1 × A2) :=
 AW c [⟨#[]⟩, ⟨#[112]⟩, ⟨#[113]⟩, ⟨#[114]⟩] >>= fun r =>
 KF r.2 >>= fun r1 =>
 if (D7 r.1 (⟨#[]⟩)) then
  Bv r1.2 3 >>= fun r2 =>
  if r2.1 then
   some ((A1.mk r.1 (⟨#[]⟩)), r2.2)
  else
   some ((A1.mk r.1 r1.1), r2.2)
 else
  some ((A1.mk r.1 r1.1), r1.2)
def Bc (l : List (A1)) (i : Int) (c1 : A2) : Option (List A1 × A2) :=
 if (Np i 0) then
  GB c1 >>= fun r2 =>
  if (Av (AC l) 0) then
   room (l.length + 1) 32 >>= fun x_2 =>
   Bc (l ++ [r2.1]) (BA i 1) r2.2
  else
   getI l (BA (AC l) 1) >>= fun x1 =>
   if (ltS x1.Pre r2.1.Pre) then
    room (l.length + 1) 32 >>= fun x_3 =>
    Bc (l ++ [r2.1]) (BA i 1) r2.2
   else
    Bc l (BA i 1) r2.2
 else
  some (l, c1)
 partial_fixpoint
def I1 (c : A2) : Option (List A1 × A2) :=
 At c 4 >>= fun r =>
 Bc [] r.1 r.2
def GC (l : List A1) (more : List A1) : Option (List A1) :=
 room (0 + l.length) 32 >>= fun x_ =>
 room ((0 + l.length) + more.length) 32 >>= fun x_1 =>
 some (([] ++ l) ++ more)
def Be (l : List A1) (pre : ByteArray) (i : Int) : Option (ByteArray × Bool) :=
 if (geI i 0) then
  getI l i >>= fun x1 =>
  if (D7 x1.Pre pre) then
   some (x1.Uri, true)
  else
   Be l pre (BA i 1)
 else
  some (⟨#[]⟩, (D7 pre (⟨#[]⟩)))
 partial_fixpoint
def Bi (l : List A1) (pre : ByteArray) : Option (ByteArray × Bool) :=
 Be l pre (BA (AC l) 1)
def NP (c : A2) : Option (ByteArray × A2) :=
 AW c [⟨#[]⟩, ⟨#[49]⟩, ⟨#[50]⟩, ⟨#[120, 32, 121]⟩, ⟨#[195, 169]⟩, ⟨#[60, 38, 62, 34]⟩, ⟨#[97, 10, 98]⟩, ⟨#[9]⟩] >>= fun r =>
 some (r.1, r.2)
def FN (a : A3) (b : A3) : Option (Bool) :=
 if (ltS a.Uri b.Uri) then
  some true
 else
  if (D7 a.Uri b.Uri) then
   some (ltS a.Local b.Local)
  else
   some false
mutual
def NQ (l : List A0) : Option (List A0) :=
 H4 l [] 0
 partial_fixpoint
def H4 (l : List A0) (out : List (A0)) (i : Int) : Option (List A0) :=
 if (Hz i (AC l)) then
  getI l i >>= fun x1 =>
  DS x1 >>= fun r1 =>
  room (out.length + 1) 144 >>= fun x_1 =>
  H4 l (out ++ [r1]) (AP i 1)
 else
  some out
 partial_fixpoint
def DS (n : A0) : Option (A0) :=
 room (0 + n.Decls.length) 32 >>= fun x_ =>
 room (0 + n.Attrs.length) 64 >>= fun x_1 =>
 NQ n.Kids >>= fun r =>
 some (A0.mk n.Kind n.Pre n.Local n.Uri ([] ++ n.Decls) ([] ++ n.Attrs) r n.Text)
 partial_fixpoint
end
mutual
def Do (l : List A0) (out : List (A0)) (i : Int) (x8 : Bool) (x6 : A0) : Option (List A0) :=
 if x8 then
  getI out (BA (AC out) 1) >>= fun x9 =>
  bP x9.Text x6.Text >>= fun x10 =>
  getI out (BA (AC out) 1) >>= fun x11 =>
  Bf l (out.set (Int.toNat (BA (AC out) 1)) (A0.mk x11.Kind x11.Pre x11.Local x11.Uri x11.Decls x11.Attrs x11.Kids x10)) (AP i 1)
 else
  DS x6 >>= fun r2 =>
  room (out.length + 1) 144 >>= fun x_2 =>
  Bf l (out ++ [r2]) (AP i 1)
 partial_fixpoint
def Bf (l : List A0) (out : List (A0)) (i : Int) : Option (List A0) :=
 if (Hz i (AC l)) then
  getI l i >>= fun x6 =>
  if (Av x6.Kind 2) then
   if (D7 x6.Text (⟨#[]⟩)) then
    Bf l out (AP i 1)
   else
    if (Np (AC out) 0) then
     getI out (BA (AC out) 1) >>= fun x7 =>
     Do l out i (Av x7.Kind 2) x6
    else
     Do l out i false x6
  else
   DS x6 >>= fun r3 =>
   room (out.length + 1) 144 >>= fun x_3 =>
   Bf l (out ++ [r3]) (AP i 1)
 else
  some out
 partial_fixpoint
end
def Hl (l : List A0) : Option (List A0) :=
 Bf l [] 0
mutual
def FG (c : A2) (in1 : List A1) (most : Int) : Option (A0 × A2 × Int) :=
 AW c [⟨#[97]⟩, ⟨#[98]⟩, ⟨#[99]⟩, ⟨#[105, 116, 101, 109]⟩] >>= fun r =>
 Bv r.2 4 >>= fun r1 =>
 if r1.1 then
  I1 r1.2 >>= fun r2 =>
  JP in1 r2.2 most r r2.1
 else
  JP in1 r1.2 most r []
 partial_fixpoint
def JP (in1 : List A1) (c1 : A2) (most : Int) (r : ByteArray × A2) (nDecls : List (A1)) : Option (A0 × A2 × Int) :=
 GC in1 nDecls >>= fun r3 =>
 Bv c1 4 >>= fun r4 =>
 if r4.1 then
  AW r4.2 [⟨#[112]⟩, ⟨#[113]⟩] >>= fun r5 =>
  H5 r3 r5.2 most r5.1 r nDecls
 else
  H5 r3 r4.2 most (⟨#[]⟩) r nDecls
 partial_fixpoint
def H5 (r3 : List A1) (c2 : A2) (most : Int) (nPre : ByteArray) (r : ByteArray × A2) (nDecls : List (A1)) : Option (A0 × A2 × Int) :=
 Bi r3 nPre >>= fun r6 =>
 if r6.2 then
  H6 r3 r6.1 c2 most nPre r nDecls
 else
  Bi r3 (⟨#[]⟩) >>= fun r7 =>
  H6 r3 r7.1 c2 most (⟨#[]⟩) r nDecls
 partial_fixpoint
def H6 (r3 : List A1) (u : ByteArray) (c2 : A2) (most : Int) (nPre1 : ByteArray) (r : ByteArray × A2) (nDecls : List (A1)) : Option (A0 × A2 × Int) :=
 At c2 3 >>= fun r8 =>
 DT r3 r8.1 r8.2 most nPre1 r u nDecls []
 partial_fixpoint
def Fk (r3 : List A1) (i1 : Int) (r31 : ByteArray × A2) (most : Int) (nPre1 : ByteArray) (r : ByteArray × A2) (u : ByteArray) (nDecls : List (A1)) (nAttrs : List (A3)) (a1 : A3) : Option (A0 × A2 × Int) :=
 if (Av (AC nAttrs) 0) then
  room (nAttrs.length + 1) 64 >>= fun x_10 =>
  DT r3 (BA i1 1) r31.2 most nPre1 r u nDecls (nAttrs ++ [a1])
 else
  getI nAttrs (BA (AC nAttrs) 1) >>= fun x3 =>
  FN x3 a1 >>= fun r33 =>
  if r33 then
   room (nAttrs.length + 1) 64 >>= fun x_11 =>
   DT r3 (BA i1 1) r31.2 most nPre1 r u nDecls (nAttrs ++ [a1])
  else
   DT r3 (BA i1 1) r31.2 most nPre1 r u nDecls nAttrs
 partial_fixpoint
def H7 (r3 : List A1) (i2 : Int) (r42 : Int × A2) (x5 : Bool) (most2 : Int) (nPre1 : ByteArray) (r : ByteArray × A2) (u : ByteArray) (nDecls : List (A1)) (nAttrs : List (A3)) (nKids1 : List (A0)) : Option (A0 × A2 × Int) :=
 if x5 then
  AW r42.2 [⟨#[120]⟩, ⟨#[121]⟩, ⟨#[32]⟩, ⟨#[10, 32, 32]⟩, ⟨#[49]⟩, ⟨#[226, 130, 172, 60]⟩] >>= fun r43 =>
  room (nKids1.length + 1) 144 >>= fun x_16 =>
  CI r3 (BA i2 1) r43.2 (BA most2 1) nPre1 r u nDecls nAttrs (nKids1 ++ [(A0.mk 2 (⟨#[]⟩) (⟨#[]⟩) (⟨#[]⟩) [] [] [] r43.1)])
 else
  if (Av r42.1 2) then
   AW r42.2 [⟨#[]⟩, ⟨#[110]⟩, ⟨#[32, 109, 32]⟩] >>= fun r44 =>
   room (nKids1.length + 1) 144 >>= fun x_17 =>
   CI r3 (BA i2 1) r44.2 (BA most2 1) nPre1 r u nDecls nAttrs (nKids1 ++ [(A0.mk 3 (⟨#[]⟩) (⟨#[]⟩) (⟨#[]⟩) [] [] [] r44.1)])
  else
   if (Av r42.1 3) then
    AW r42.2 [⟨#[]⟩, ⟨#[103, 111]⟩] >>= fun r45 =>
    room (nKids1.length + 1) 144 >>= fun x_18 =>
    CI r3 (BA i2 1) r45.2 (BA most2 1) nPre1 r u nDecls nAttrs (nKids1 ++ [(A0.mk 4 (⟨#[]⟩) (⟨#[116]⟩) (⟨#[]⟩) [] [] [] r45.1)])
   else
    FG r42.2 r3 (BA most2 1) >>= fun r46 =>
    room (nKids1.length + 1) 144 >>= fun x_19 =>
    CI r3 (BA i2 1) r46.2.1 r46.2.2 nPre1 r u nDecls nAttrs (nKids1 ++ [r46.1])
 partial_fixpoint
def CI (r3 : List A1) (i2 : Int) (c5 : A2) (most2 : Int) (nPre1 : ByteArray) (r : ByteArray × A2) (u : ByteArray) (nDecls : List (A1)) (nAttrs : List (A3)) (nKids1 : List (A0)) : Option (A0 × A2 × Int) :=
 if (Np i2 0) then
  if (Np most2 0) then
   At c5 6 >>= fun r42 =>
   if (Av r42.1 0) then
    H7 r3 i2 r42 true most2 nPre1 r u nDecls nAttrs nKids1
   else
    H7 r3 i2 r42 (Av r42.1 1) most2 nPre1 r u nDecls nAttrs nKids1
  else
   Hl nKids1 >>= fun r47 =>
   some ((A0.mk 1 nPre1 r.1 u nDecls nAttrs r47 (⟨#[]⟩)), c5, most2)
 else
  Hl nKids1 >>= fun r48 =>
  some ((A0.mk 1 nPre1 r.1 u nDecls nAttrs r48 (⟨#[]⟩)), c5, most2)
 partial_fixpoint
def DT (r3 : List A1) (i1 : Int) (c4 : A2) (most : Int) (nPre1 : ByteArray) (r : ByteArray × A2) (u : ByteArray) (nDecls : List (A1)) (nAttrs : List (A3)) : Option (A0 × A2 × Int) :=
 if (Np i1 0) then
  AW c4 [⟨#[105, 100]⟩, ⟨#[107]⟩, ⟨#[118]⟩] >>= fun r29 =>
  NP r29.2 >>= fun r30 =>
  AW r30.2 [⟨#[]⟩, ⟨#[]⟩, ⟨#[112]⟩] >>= fun r31 =>
  Bi r3 r31.1 >>= fun r32 =>
  if (neS r31.1 (⟨#[]⟩)) then
   if r32.2 then
    Fk r3 i1 r31 most nPre1 r u nDecls nAttrs (A3.mk r31.1 r29.1 r32.1 r30.1)
   else
    Fk r3 i1 r31 most nPre1 r u nDecls nAttrs (A3.mk (⟨#[]⟩) r29.1 (⟨#[]⟩) r30.1)
  else
   Fk r3 i1 r31 most nPre1 r u nDecls nAttrs (A3.mk (⟨#[]⟩) r29.1 (⟨#[]⟩) r30.1)
 else
  At c4 4 >>= fun r34 =>
  CI r3 r34.1 r34.2 most nPre1 r u nDecls nAttrs []
 partial_fixpoint
end
def wZ := @FG.mutual_partial_correctness
mutual
def C5 (n : A0) : Option (Int) :=
 BB (AP 1 (AC n.Attrs)) 0 n
 partial_fixpoint
def BB (k : Int) (i : Int) (n : A0) : Option (Int) :=
 if (Hz i (AC n.Kids)) then
  getI n.Kids i >>= fun x1 =>
  C5 x1 >>= fun r1 =>
  BB (AP k r1) (AP i 1) n
 else
  some k
 partial_fixpoint
end
def CW (a0 : Int) (least : Int) (most : Int) : Option (Bool) :=
 if (geI a0 least) then
  some (Rn a0 most)
 else
  some false
def Aa (s : ByteArray) (at1 : Int) (n : Int) (least : Int) (v1 : Int) (i : Int) : Option (Int × Int × Bool) :=
 if (Rn i n) then
  PU s (AP at1 i) >>= fun x4 =>
  if (Hz (wr .i64 x4) 128) then
   some (0, 0, false)
  else
   if (Np (wr .i64 x4) 191) then
    some (0, 0, false)
   else
    Aa s at1 n least (BA (AP (UY v1 64) (wr .i64 x4)) 128) (AP i 1)
 else
  if (Hz v1 least) then
   some (0, 0, false)
  else
   if (Np v1 1114111) then
    some (0, 0, false)
   else
    CW v1 55296 57343 >>= fun r1 =>
    if r1 then
     some (0, 0, false)
    else
     some (v1, (AP (AP at1 1) n), true)
 partial_fixpoint
def lz := @Aa.partial_correctness
def C6 (s : ByteArray) (at1 : Int) (n : Int) (least : Int) (v : Int) : Option (Int × Int × Bool) :=
 if (Np at1 (BA (BA (AS s) 1) n)) then
  some (0, 0, false)
 else
  Aa s at1 n least v 1
def Cb (s : ByteArray) (at1 : Int) (x : Int) (x2 : Bool) : Option (Int × Int × Bool) :=
 if x2 then
  C6 s at1 2 2048 (QD .i64 (wr .i64 x) 15)
 else
  if (geI (wr .i64 x) 240) then
   if (Hz (wr .i64 x) 248) then
    C6 s at1 3 65536 (QD .i64 (wr .i64 x) 7)
   else
    some (0, 0, false)
  else
   some (0, 0, false)
def Cc (s : ByteArray) (at1 : Int) (x : Int) (x1 : Bool) : Option (Int × Int × Bool) :=
 if x1 then
  C6 s at1 1 128 (QD .i64 (wr .i64 x) 31)
 else
  if (geI (wr .i64 x) 224) then
   Cb s at1 x (Hz (wr .i64 x) 240)
  else
   Cb s at1 x false
def FO (s : ByteArray) (at1 : Int) : Option (Int × Int × Bool) :=
 if (Hz at1 0) then
  some (0, 0, false)
 else
  if (geI at1 (AS s)) then
   some (0, 0, false)
  else
   PU s at1 >>= fun x =>
   if (Hz (wr .i64 x) 128) then
    some ((wr .i64 x), (AP at1 1), true)
   else
    if (geI (wr .i64 x) 192) then
     Cc s at1 x (Hz (wr .i64 x) 224)
    else
     Cc s at1 x false
def BL (n : Int) (l : List Int) (i : Int) : Option (Bool) :=
 if (Hz (AP i 1) (AC l)) then
  getI l i >>= fun x2 =>
  getI l (AP i 1) >>= fun x3 =>
  CW n x2 x3 >>= fun r1 =>
  if r1 then
   some true
  else
   BL n l (AP i 2)
 else
  some false
 partial_fixpoint
def DU (n : Int) (l : List Int) : Option (Bool) :=
 BL n l 0
def ED (n : Int) : Option (Bool) :=
 DU n [65, 90, 95, 95, 97, 122, 192, 214, 216, 246, 248, 767, 880, 893, 895, 8191, 8204, 8205, 8304, 8591, 11264, 12271, 12289, 55295, 63744, 64975, 65008, 65533, 65536, 983039] >>= fun r =>
 some r
def FP (n : Int) : Option (Bool) :=
 ED n >>= fun r =>
 if r then
  some true
 else
  DU n [45, 46, 48, 57, 183, 183, 768, 879, 8255, 8256] >>= fun r1 =>
  some r1
def Ag (s : ByteArray) (at1 : Int) : Option (Bool) :=
 if (Hz at1 (AS s)) then
  FO s at1 >>= fun r5 =>
  if r5.2.2 then
   if (Av at1 0) then
    ED r5.1 >>= fun r6 =>
    if r6 then
     FP r5.1 >>= fun r7 =>
     if r7 then
      Ag s r5.2.1
     else
      some false
    else
     some false
   else
    FP r5.1 >>= fun r8 =>
    if r8 then
     Ag s r5.2.1
    else
     some false
  else
   some false
 else
  some true
 partial_fixpoint
def Bj (s : ByteArray) : Option (Bool) :=
 CW (AS s) 1 16 >>= fun r =>
 if r then
  Ag s 0
 else
  some false
def GD (s : ByteArray) : Option (Bool) :=
 if (geI (AS s) 3) then
  PV s 0 3 >>= fun x =>
  some (D7 x (⟨#[120, 109, 108]⟩))
 else
  some false
def Dp (s : ByteArray) : Option (Bool) :=
 if (D7 s (⟨#[]⟩)) then
  some true
 else
  Bj s >>= fun r =>
  if r then
   GD s >>= fun r1 =>
   some (!r1)
  else
   some false
def GE (n : Int) : Option (Bool) :=
 if (Av n 9) then
  some true
 else
  if (Av n 10) then
   some true
  else
   if (Av n 13) then
    some true
   else
    CW n 32 55295 >>= fun r =>
    if r then
     some true
    else
     CW n 57344 65533 >>= fun r1 =>
     if r1 then
      some true
     else
      CW n 65536 1114111 >>= fun r2 =>
      some r2
def BC (s : ByteArray) (at1 : Int) : Option (Bool) :=
 if (Hz at1 (AS s)) then
  FO s at1 >>= fun r2 =>
  if r2.2.2 then
   GE r2.1 >>= fun r3 =>
   if r3 then
    BC s r2.2.1
   else
    some false
  else
   some false
 else
  some (Rn (AS s) 1500)
 partial_fixpoint
def Ge (s : ByteArray) : Option (Bool) :=
 BC s 0
def BN (s : ByteArray) : Option (Bool) :=
 if (Rn (AS s) 600) then
  Ge s >>= fun r =>
  some r
 else
  some false
def Dq (d : A1) : Option (Bool) :=
 BN d.Uri >>= fun r2 =>
 if r2 then
  some (Rn (AS d.Uri) 40)
 else
  some false
def GF (d : A1) : Option (Bool) :=
 if (neS d.Pre (⟨#[]⟩)) then
  Bj d.Pre >>= fun r =>
  if r then
   GD d.Pre >>= fun r1 =>
   if r1 then
    some false
   else
    if (D7 d.Uri (⟨#[]⟩)) then
     some false
    else
     Dq d
  else
   some false
 else
  Dq d
def BD (l : List A1) (i : Int) : Option (Bool) :=
 if (Hz i (AC l)) then
  getI l i >>= fun x2 =>
  GF x2 >>= fun r1 =>
  if r1 then
   if (Np i 0) then
    getI l (BA i 1) >>= fun x3 =>
    if (geS x3.Pre x2.Pre) then
     some false
    else
     BD l (AP i 1)
   else
    BD l (AP i 1)
  else
   some false
 else
  some (Rn (AC l) 4)
 partial_fixpoint
def DM (l : List A1) : Option (Bool) :=
 BD l 0
def FQ (n : A0) : Option (Bool) :=
 if (D7 n.Pre (⟨#[]⟩)) then
  if (D7 n.Uri (⟨#[]⟩)) then
   if (Av (AC n.Decls) 0) then
    if (Av (AC n.Attrs) 0) then
     some (Av (AC n.Kids) 0)
    else
     some false
   else
    some false
  else
   some false
 else
  some false
def Bg (s : ByteArray) (t : ByteArray) (i : Int) : Option (Bool) :=
 if (Rn (AP i (AS t)) (AS s)) then
  PV s i (AP i (AS t)) >>= fun x1 =>
  if (D7 x1 t) then
   some true
  else
   Bg s t (AP i 1)
 else
  some false
 partial_fixpoint
def Cw (s : ByteArray) (t : ByteArray) : Option (Bool) :=
 Bg s t 0
def Hm (s : ByteArray) : Option (Bool) :=
 if (neI (AS s) 3) then
  some false
 else
  PU s 0 >>= fun x =>
  if (Av x 120) then
   PU s 1 >>= fun x1 =>
   if (Av x1 109) then
    PU s 2 >>= fun x2 =>
    if (Av x2 108) then
     some true
    else
     PU s 2 >>= fun x3 =>
     some (Av x3 76)
   else
    PU s 1 >>= fun x4 =>
    if (Av x4 77) then
     PU s 2 >>= fun x5 =>
     if (Av x5 108) then
      some true
     else
      PU s 2 >>= fun x6 =>
      some (Av x6 76)
    else
     some false
  else
   PU s 0 >>= fun x7 =>
   if (Av x7 88) then
    PU s 1 >>= fun x8 =>
    if (Av x8 109) then
     PU s 2 >>= fun x9 =>
     if (Av x9 108) then
      some true
     else
      PU s 2 >>= fun x10 =>
      some (Av x10 76)
    else
     PU s 1 >>= fun x11 =>
     if (Av x11 77) then
      PU s 2 >>= fun x12 =>
      if (Av x12 108) then
       some true
      else
       PU s 2 >>= fun x13 =>
       some (Av x13 76)
     else
      some false
   else
    some false
def EE (n : Int) : Option (Bool) :=
 if (Av n 9) then
  some true
 else
  if (Av n 10) then
   some true
  else
   if (Av n 13) then
    some true
   else
    some (Av n 32)
def Cy (a : A3) : Option (Bool) :=
 BN a.Val >>= fun r2 =>
 if r2 then
  BN a.Uri >>= fun r3 =>
  if r3 then
   some (Rn (AS a.Uri) 40)
  else
   some false
 else
  some false
def DV (a : A3) : Option (Bool) :=
 Dp a.Pre >>= fun r =>
 if r then
  if (neB (D7 a.Pre (⟨#[]⟩)) (D7 a.Uri (⟨#[]⟩))) then
   some false
  else
   Bj a.Local >>= fun r1 =>
   if r1 then
    if (D7 a.Pre (⟨#[]⟩)) then
     if (D7 a.Local (⟨#[120, 109, 108, 110, 115]⟩)) then
      some false
     else
      Cy a
    else
     Cy a
   else
    some false
 else
  some false
def Ay (i : Int) (n : A0) : Option (Bool) :=
 if (Hz i (AC n.Attrs)) then
  getI n.Attrs i >>= fun x2 =>
  DV x2 >>= fun r8 =>
  if r8 then
   if (Np i 0) then
    getI n.Attrs (BA i 1) >>= fun x3 =>
    FN x3 x2 >>= fun r9 =>
    if r9 then
     Ay (AP i 1) n
    else
     some false
   else
    Ay (AP i 1) n
  else
   some false
 else
  some true
 partial_fixpoint
def DW (n : A0) : Option (Bool) :=
 Ay 0 n
def Cz (n : A0) : Option (Bool) :=
 if (Av n.Kind 1) then
  Dp n.Pre >>= fun r =>
  if r then
   Bj n.Local >>= fun r1 =>
   if r1 then
    if (neS n.Text (⟨#[]⟩)) then
     some false
    else
     if (neS n.Pre (⟨#[]⟩)) then
      if (D7 n.Uri (⟨#[]⟩)) then
       some false
      else
       BN n.Uri >>= fun r2 =>
       if r2 then
        if (Np (AS n.Uri) 40) then
         some false
        else
         DM n.Decls >>= fun r3 =>
         if r3 then
          if (Np (AC n.Attrs) 5) then
           some false
          else
           DW n
         else
          some false
       else
        some false
     else
      BN n.Uri >>= fun r4 =>
      if r4 then
       if (Np (AS n.Uri) 40) then
        some false
       else
        DM n.Decls >>= fun r5 =>
        if r5 then
         if (Np (AC n.Attrs) 5) then
          some false
         else
          DW n
        else
         some false
      else
       some false
   else
    some false
  else
   some false
 else
  if (Av n.Kind 2) then
   FQ n >>= fun r10 =>
   if r10 then
    if (D7 n.Local (⟨#[]⟩)) then
     if (neS n.Text (⟨#[]⟩)) then
      BN n.Text >>= fun r11 =>
      some r11
     else
      some false
    else
     some false
   else
    some false
  else
   if (Av n.Kind 3) then
    FQ n >>= fun r12 =>
    if r12 then
     if (D7 n.Local (⟨#[]⟩)) then
      BN n.Text >>= fun r13 =>
      if r13 then
       Cw n.Text (⟨#[45, 45]⟩) >>= fun r14 =>
       if r14 then
        some false
       else
        Cw n.Text (⟨#[13]⟩) >>= fun r15 =>
        if r15 then
         some false
        else
         if (D7 n.Text (⟨#[]⟩)) then
          some true
         else
          PU n.Text (BA (AS n.Text) 1) >>= fun x4 =>
          some (neI x4 45)
      else
       some false
     else
      some false
    else
     some false
   else
    if (Av n.Kind 4) then
     FQ n >>= fun r16 =>
     if r16 then
      Bj n.Local >>= fun r17 =>
      if r17 then
       Hm n.Local >>= fun r18 =>
       if r18 then
        some false
       else
        BN n.Text >>= fun r19 =>
        if r19 then
         Cw n.Text (⟨#[63, 62]⟩) >>= fun r20 =>
         if r20 then
          some false
         else
          Cw n.Text (⟨#[13]⟩) >>= fun r21 =>
          if r21 then
           some false
          else
           if (D7 n.Text (⟨#[]⟩)) then
            some true
           else
            PU n.Text 0 >>= fun x5 =>
            EE (wr .i64 x5) >>= fun r22 =>
            some (!r22)
        else
         some false
      else
       some false
     else
      some false
    else
     some false
mutual
def Bd (l : List A0) (deep : Int) : Option (Bool) :=
 BE l deep 0
 partial_fixpoint
def Cd (l : List A0) (deep : Int) (i : Int) (x2 : A0) : Option (Bool) :=
 if (Av x2.Kind 1) then
  if (Av deep 7) then
   some false
  else
   Bd x2.Kids (AP deep 1) >>= fun r3 =>
   if r3 then
    BE l deep (AP i 1)
   else
    some false
 else
  BE l deep (AP i 1)
 partial_fixpoint
def BE (l : List A0) (deep : Int) (i : Int) : Option (Bool) :=
 if (Hz i (AC l)) then
  getI l i >>= fun x2 =>
  Cz x2 >>= fun r2 =>
  if r2 then
   if (Av x2.Kind 2) then
    if (Np i 0) then
     getI l (BA i 1) >>= fun x3 =>
     if (Av x3.Kind 2) then
      some false
     else
      Cd l deep i x2
    else
     Cd l deep i x2
   else
    Cd l deep i x2
  else
   some false
 else
  some true
 partial_fixpoint
end
mutual
def Ce (k2 : Int) (i : Int) (n : A0) : Option (Bool) :=
 getI n.Kids i >>= fun x3 =>
 if (Av x3.Kind 2) then
  some false
 else
  Ab k2 (AP i 1) n
 partial_fixpoint
def Ab (k1 : Int) (i : Int) (n : A0) : Option (Bool) :=
 if (Hz i (AC n.Kids)) then
  getI n.Kids i >>= fun x2 =>
  if (Av x2.Kind 1) then
   Ce (AP k1 1) i n
  else
   Ce k1 i n
 else
  if (Av k1 1) then
   if (D7 n.Pre (⟨#[]⟩)) then
    if (D7 n.Local (⟨#[]⟩)) then
     if (D7 n.Uri (⟨#[]⟩)) then
      if (D7 n.Text (⟨#[]⟩)) then
       if (Av (AC n.Decls) 0) then
        if (Av (AC n.Attrs) 0) then
         Bd n.Kids 0 >>= fun r3 =>
         some r3
        else
         some false
       else
        some false
      else
       some false
     else
      some false
    else
     some false
   else
    some false
  else
   some false
 partial_fixpoint
end
def DX (n : A0) : Option (Bool) :=
 C5 n >>= fun r =>
 if (Np r 60) then
  some false
 else
  if (neI n.Kind 0) then
   Bd [n] 0 >>= fun r1 =>
   some r1
  else
   Ab 0 0 n
mutual
def Cf (n : A0) (l : List A1) : Option (Bool) :=
 GC l n.Decls >>= fun r =>
 if (Av n.Kind 1) then
  Bi r n.Pre >>= fun r1 =>
  if r1.2 then
   if (neS r1.1 n.Uri) then
    some false
   else
    Dr r n
  else
   some false
 else
  Dr r n
 partial_fixpoint
def Dr (r : List A1) (n : A0) : Option (Bool) :=
 Au r 0 n
 partial_fixpoint
def Ap (r : List A1) (i2 : Int) (n : A0) : Option (Bool) :=
 if (Hz i2 (AC n.Kids)) then
  getI n.Kids i2 >>= fun x5 =>
  Cf x5 r >>= fun r7 =>
  if r7 then
   Ap r (AP i2 1) n
  else
   some false
 else
  some true
 partial_fixpoint
def Au (r : List A1) (i1 : Int) (n : A0) : Option (Bool) :=
 if (Hz i1 (AC n.Attrs)) then
  getI n.Attrs i1 >>= fun x3 =>
  Bi r x3.Pre >>= fun r5 =>
  if (neS x3.Pre (⟨#[]⟩)) then
   if r5.2 then
    if (neS r5.1 x3.Uri) then
     some false
    else
     Au r (AP i1 1) n
   else
    some false
  else
   Au r (AP i1 1) n
 else
  Ap r 0 n
 partial_fixpoint
end
def D4 (n : A0) : Option (Bool) :=
 if (Av n.Kind 0) then
  DX n >>= fun r =>
  if r then
   Cf n [] >>= fun r1 =>
   some r1
  else
   some false
 else
  some false
def E4 (r3 : Bool × A2) (nKids1 : List (A0)) : Option (A0 × A2) :=
 D4 (A0.mk 0 (⟨#[]⟩) (⟨#[]⟩) (⟨#[]⟩) [] [] nKids1 (⟨#[]⟩)) >>= fun r4 =>
 if r4 then
  some ((A0.mk 0 (⟨#[]⟩) (⟨#[]⟩) (⟨#[]⟩) [] [] nKids1 (⟨#[]⟩)), r3.2)
 else
  some ((A0.mk 0 (⟨#[]⟩) (⟨#[]⟩) (⟨#[]⟩) [] [] [(A0.mk 1 (⟨#[]⟩) (⟨#[97]⟩) (⟨#[]⟩) [] [] [] (⟨#[]⟩))] (⟨#[]⟩)), r3.2)
def FH (r1 : Bool × A2) (r : Int × A2) (nKids : List (A0)) : Option (A0 × A2) :=
 FG r1.2 [] (AP 3 r.1) >>= fun r2 =>
 room (nKids.length + 1) 144 >>= fun x_1 =>
 Bv r2.2.1 4 >>= fun r3 =>
 if r3.1 then
  room ((nKids ++ [r2.1]).length + 1) 144 >>= fun x_2 =>
  E4 r3 ((nKids ++ [r2.1]) ++ [(A0.mk 4 (⟨#[]⟩) (⟨#[116]⟩) (⟨#[]⟩) [] [] [] (⟨#[101, 110, 100]⟩))])
 else
  E4 r3 (nKids ++ [r2.1])
def GH (c : A2) : Option (A0 × A2) :=
 At c 8 >>= fun r =>
 Bv r.2 4 >>= fun r1 =>
 if r1.1 then
  room 1 144 >>= fun x_ =>
  FH r1 r ([] ++ [(A0.mk 3 (⟨#[]⟩) (⟨#[]⟩) (⟨#[]⟩) [] [] [] (⟨#[104]⟩))])
 else
  FH r1 r []
def Fb (c : A2) (list : List Int) : Option (Int × A2) :=
 At c (AC list) >>= fun r =>
 getI list r.1 >>= fun x =>
 some (x, r.2)
def Nx (c : A2) : Option (ByteArray × A2) :=
 AW c [⟨#[97]⟩, ⟨#[98]⟩, ⟨#[99]⟩, ⟨#[105, 116, 101, 109]⟩, ⟨#[112, 58, 97]⟩, ⟨#[113, 58, 98]⟩, ⟨#[112, 58, 120]⟩, ⟨#[105, 100]⟩] >>= fun r =>
 some (r.1, r.2)
def NR (c : A2) : Option (ByteArray × A2) :=
 Bv c 2 >>= fun r =>
 if r.1 then
  Nx r.2 >>= fun r1 =>
  some (r1.1, r1.2)
 else
  AW r.2 [⟨#[]⟩, ⟨#[195, 169, 116, 195, 169]⟩, ⟨#[45, 97]⟩, ⟨#[97, 45, 98, 46, 99]⟩, ⟨#[49, 97]⟩, ⟨#[97, 49]⟩, ⟨#[97, 58, 98, 58, 99]⟩, ⟨#[58, 97]⟩, ⟨#[97, 58]⟩, ⟨#[97, 32, 98]⟩, ⟨#[115, 105, 120, 116, 101, 101, 110, 108, 101, 116, 116, 101, 114, 115, 95, 120]⟩, ⟨#[115, 101, 118, 101, 110, 116, 101, 101, 110, 108, 101, 116, 116, 101, 114, 115, 120]⟩, ⟨#[112, 58, 115, 105, 120, 116, 101, 101, 110, 108, 101, 116, 116, 101, 114, 115, 95, 120]⟩, ⟨#[255]⟩, ⟨#[95]⟩, ⟨#[97, 204, 128]⟩, ⟨#[204, 128]⟩, ⟨#[97, 47, 98]⟩] >>= fun r2 =>
  some (r2.1, r2.2)
def NS (c : A2) : Option (List A1 × A2) :=
 I1 c >>= fun r =>
 At r.2 8 >>= fun r1 =>
 if (Av r1.1 0) then
  AW r1.2 [⟨#[120, 109, 108]⟩, ⟨#[120, 109, 108, 110, 115]⟩, ⟨#[120, 109, 108, 97]⟩, ⟨#[97, 58, 98]⟩, ⟨#[49]⟩, ⟨#[122]⟩, ⟨#[112]⟩] >>= fun r2 =>
  AW r2.2 [⟨#[]⟩, ⟨#[117, 114, 110, 58, 117]⟩, ⟨#[255]⟩] >>= fun r3 =>
  room (r.1.length + 1) 32 >>= fun x_ =>
  some ((r.1 ++ [(A1.mk r2.1 r3.1)]), r3.2)
 else
  if (Av r1.1 1) then
   GB r1.2 >>= fun r4 =>
   GB r4.2 >>= fun r5 =>
   room (r.1.length + 2) 32 >>= fun x_1 =>
   some (((r.1 ++ [r4.1]) ++ [r5.1]), r5.2)
  else
   if (Av r1.1 2) then
    AW r1.2 [⟨#[49, 50, 51, 52, 53, 54, 55, 56, 57, 48, 49, 50, 51, 52, 53, 54, 55, 56, 57, 48, 49, 50, 51, 52, 53, 54, 55, 56, 57, 48, 49, 50, 51, 52, 53, 54, 55, 56, 57, 48]⟩, ⟨#[49, 50, 51, 52, 53, 54, 55, 56, 57, 48, 49, 50, 51, 52, 53, 54, 55, 56, 57, 48, 49, 50, 51, 52, 53, 54, 55, 56, 57, 48, 49, 50, 51, 52, 53, 54, 55, 56, 57, 48, 49]⟩] >>= fun r6 =>
    room (r.1.length + 3) 32 >>= fun x_2 =>
    some ((((r.1 ++ [(A1.mk (⟨#[115]⟩) r6.1)]) ++ [(A1.mk (⟨#[116]⟩) (⟨#[117]⟩))]) ++ [(A1.mk (⟨#[117]⟩) (⟨#[117]⟩))]), r6.2)
   else
    some (r.1, r1.2)
def DE (s2 : ByteArray) (c3 : A2) : Option (ByteArray × A2) :=
 Fb c3 [600, 601] >>= fun r8 =>
 if (Hz (AS s2) r8.1) then
  bP s2 (⟨#[120]⟩) >>= fun x5 =>
  DE x5 r8.2
 else
  some (s2, r8.2)
 partial_fixpoint
def Ds (s1 : ByteArray) (i : Int) (c2 : A2) : Option (ByteArray × A2) :=
 if (Np i 0) then
  AW c2 [⟨#[97]⟩, ⟨#[98, 32, 99]⟩, ⟨#[32]⟩, ⟨#[10]⟩, ⟨#[195, 169]⟩, ⟨#[226, 130, 172]⟩, ⟨#[240, 159, 152, 128]⟩, ⟨#[60]⟩, ⟨#[38]⟩, ⟨#[62]⟩, ⟨#[34]⟩, ⟨#[39]⟩, ⟨#[93, 93, 62]⟩, ⟨#[45, 45]⟩, ⟨#[9]⟩, ⟨#[13]⟩, ⟨#[0]⟩, ⟨#[255]⟩, ⟨#[192, 128]⟩, ⟨#[239, 191, 190]⟩] >>= fun r5 =>
  bP s1 r5.1 >>= fun x3 =>
  Ds x3 (BA i 1) r5.2
 else
  Bv c2 40 >>= fun r6 =>
  if r6.1 then
   DE s1 r6.2
  else
   some (s1, r6.2)
 partial_fixpoint
def I2 (c : A2) : Option (ByteArray × A2) :=
 At c 4 >>= fun r =>
 Ds (⟨#[]⟩) r.1 r.2
def Cg (k : Int) (i : Int) (c1 : A2) (r : A0 × A2) (nKids : List (A0)) : Option (A0 × A2) :=
 Fb c1 [6, 7] >>= fun r16 =>
 if (Hz i r16.1) then
  getI nKids k >>= fun x18 =>
  getI nKids k >>= fun x19 =>
  Cg k (AP i 1) r16.2 r (nKids.set (Int.toNat k) (A0.mk 1 (⟨#[]⟩) (⟨#[100]⟩) (⟨#[]⟩) [] [] [x18] (⟨#[]⟩)))
 else
  some ((A0.mk r.1.Kind r.1.Pre r.1.Local r.1.Uri r.1.Decls r.1.Attrs nKids r.1.Text), r16.2)
 partial_fixpoint
def D5 (k : Int) (r : A0 × A2) : Option (A0 × A2) :=
 At r.2 24 >>= fun r1 =>
 if (Av r1.1 0) then
  Fb r1.2 [(-1), 1, 5] >>= fun r2 =>
  some ((A0.mk r2.1 r.1.Pre r.1.Local r.1.Uri r.1.Decls r.1.Attrs r.1.Kids r.1.Text), r2.2)
 else
  if (Av r1.1 1) then
   AW r1.2 [⟨#[112]⟩, ⟨#[120, 109, 108, 113]⟩, ⟨#[49]⟩] >>= fun r3 =>
   getI r.1.Kids k >>= fun x2 =>
   some ((A0.mk r.1.Kind r.1.Pre r.1.Local r.1.Uri r.1.Decls r.1.Attrs (r.1.Kids.set (Int.toNat k) (A0.mk x2.Kind r3.1 x2.Local x2.Uri x2.Decls x2.Attrs x2.Kids x2.Text)) r.1.Text), r3.2)
  else
   if (Av r1.1 2) then
    NR r1.2 >>= fun r4 =>
    getI r.1.Kids k >>= fun x3 =>
    some ((A0.mk r.1.Kind r.1.Pre r.1.Local r.1.Uri r.1.Decls r.1.Attrs (r.1.Kids.set (Int.toNat k) (A0.mk x3.Kind x3.Pre r4.1 x3.Uri x3.Decls x3.Attrs x3.Kids x3.Text)) r.1.Text), r4.2)
   else
    if (Av r1.1 3) then
     KF r1.2 >>= fun r5 =>
     getI r.1.Kids k >>= fun x4 =>
     some ((A0.mk r.1.Kind r.1.Pre r.1.Local r.1.Uri r.1.Decls r.1.Attrs (r.1.Kids.set (Int.toNat k) (A0.mk x4.Kind x4.Pre x4.Local r5.1 x4.Decls x4.Attrs x4.Kids x4.Text)) r.1.Text), r5.2)
    else
     if (Av r1.1 4) then
      NS r1.2 >>= fun r6 =>
      getI r.1.Kids k >>= fun x5 =>
      some ((A0.mk r.1.Kind r.1.Pre r.1.Local r.1.Uri r.1.Decls r.1.Attrs (r.1.Kids.set (Int.toNat k) (A0.mk x5.Kind x5.Pre x5.Local x5.Uri r6.1 x5.Attrs x5.Kids x5.Text)) r.1.Text), r6.2)
     else
      if (Av r1.1 5) then
       getI r.1.Kids k >>= fun x6 =>
       AW r1.2 [⟨#[]⟩, ⟨#[112]⟩] >>= fun r7 =>
       AW r7.2 [⟨#[120, 109, 108, 110, 115]⟩, ⟨#[122]⟩, ⟨#[97, 58, 98]⟩] >>= fun r8 =>
       AW r8.2 [⟨#[]⟩, ⟨#[117, 114, 110, 58, 117]⟩] >>= fun r9 =>
       I2 r9.2 >>= fun r10 =>
       room (x6.Attrs.length + 1) 64 >>= fun x_ =>
       getI r.1.Kids k >>= fun x7 =>
       some ((A0.mk r.1.Kind r.1.Pre r.1.Local r.1.Uri r.1.Decls r.1.Attrs (r.1.Kids.set (Int.toNat k) (A0.mk x7.Kind x7.Pre x7.Local x7.Uri x7.Decls (x6.Attrs ++ [(A3.mk r7.1 r8.1 r9.1 r10.1)]) x7.Kids x7.Text)) r.1.Text), r10.2)
      else
       if (Av r1.1 6) then
        getI r.1.Kids k >>= fun x8 =>
        I2 r1.2 >>= fun r11 =>
        room (x8.Kids.length + 1) 144 >>= fun x_1 =>
        getI r.1.Kids k >>= fun x9 =>
        some ((A0.mk r.1.Kind r.1.Pre r.1.Local r.1.Uri r.1.Decls r.1.Attrs (r.1.Kids.set (Int.toNat k) (A0.mk x9.Kind x9.Pre x9.Local x9.Uri x9.Decls x9.Attrs (x8.Kids ++ [(A0.mk 2 (⟨#[]⟩) (⟨#[]⟩) (⟨#[]⟩) [] [] [] r11.1)]) x9.Text)) r.1.Text), r11.2)
       else
        if (Av r1.1 7) then
         getI r.1.Kids k >>= fun x10 =>
         AW r1.2 [⟨#[45, 45]⟩, ⟨#[97, 45]⟩, ⟨#[45, 97]⟩, ⟨#[13]⟩] >>= fun r12 =>
         room (x10.Kids.length + 1) 144 >>= fun x_2 =>
         getI r.1.Kids k >>= fun x11 =>
         some ((A0.mk r.1.Kind r.1.Pre r.1.Local r.1.Uri r.1.Decls r.1.Attrs (r.1.Kids.set (Int.toNat k) (A0.mk x11.Kind x11.Pre x11.Local x11.Uri x11.Decls x11.Attrs (x10.Kids ++ [(A0.mk 3 (⟨#[]⟩) (⟨#[]⟩) (⟨#[]⟩) [] [] [] r12.1)]) x11.Text)) r.1.Text), r12.2)
        else
         if (Av r1.1 8) then
          getI r.1.Kids k >>= fun x12 =>
          AW r1.2 [⟨#[120, 109, 108]⟩, ⟨#[88, 109, 76]⟩, ⟨#[120, 109, 108, 120]⟩, ⟨#[]⟩] >>= fun r13 =>
          AW r13.2 [⟨#[32, 97]⟩, ⟨#[63, 62]⟩, ⟨#[97]⟩] >>= fun r14 =>
          room (x12.Kids.length + 1) 144 >>= fun x_3 =>
          getI r.1.Kids k >>= fun x13 =>
          some ((A0.mk r.1.Kind r.1.Pre r.1.Local r.1.Uri r.1.Decls r.1.Attrs (r.1.Kids.set (Int.toNat k) (A0.mk x13.Kind x13.Pre x13.Local x13.Uri x13.Decls x13.Attrs (x12.Kids ++ [(A0.mk 4 (⟨#[]⟩) r13.1 (⟨#[]⟩) [] [] [] r14.1)]) x13.Text)) r.1.Text), r14.2)
         else
          if (Av r1.1 9) then
           getI r.1.Kids k >>= fun x14 =>
           room (r.1.Kids.length + [x14].length) 144 >>= fun x_4 =>
           some ((A0.mk r.1.Kind r.1.Pre r.1.Local r.1.Uri r.1.Decls r.1.Attrs (r.1.Kids ++ [x14]) r.1.Text), r1.2)
          else
           if (Av r1.1 10) then
            room (r.1.Kids.length + 1) 144 >>= fun x_5 =>
            some ((A0.mk r.1.Kind r.1.Pre r.1.Local r.1.Uri r.1.Decls r.1.Attrs (r.1.Kids ++ [(A0.mk 2 (⟨#[]⟩) (⟨#[]⟩) (⟨#[]⟩) [] [] [] (⟨#[32]⟩))]) r.1.Text), r1.2)
           else
            if (Av r1.1 11) then
             slL r.1.Kids 0 k >>= fun x15 =>
             some ((A0.mk r.1.Kind r.1.Pre r.1.Local r.1.Uri r.1.Decls r.1.Attrs x15 r.1.Text), r1.2)
            else
             if (Av r1.1 12) then
              Cg k 0 r1.2 r r.1.Kids
             else
              some (r.1, r1.2)
def CO (k : Int) (r : A0 × A2) : Option (A0 × A2) :=
 if (Hz k (BA (AC r.1.Kids) 1)) then
  getI r.1.Kids k >>= fun x1 =>
  if (neI x1.Kind 1) then
   CO (AP k 1) r
  else
   D5 k r
 else
  D5 k r
 partial_fixpoint
def FR (c : A2) : Option (A0 × A2) :=
 GH c >>= fun r =>
 CO 0 r
def E5 (p : List (Int)) (c2 : A2) : Option (List Int × A2) :=
 Bv c2 8 >>= fun r4 =>
 if r4.1 then
  Fb r4.2 [(-1), 0, 7] >>= fun r5 =>
  room (p.length + 1) 8 >>= fun x_2 =>
  some ((p ++ [r5.1]), r5.2)
 else
  some (p, r4.2)
def E6 (p : List (Int)) (c1 : A2) (x1 : A0) : Option (List Int × A2) :=
 if (Np (AC x1.Kids) 0) then
  Bv c1 4 >>= fun r2 =>
  if r2.1 then
   E5 p r2.2
  else
   At r2.2 (AC x1.Kids) >>= fun r3 =>
   room (p.length + 1) 8 >>= fun x_1 =>
   getI x1.Kids r3.1 >>= fun x2 =>
   E6 (p ++ [r3.1]) r3.2 x2
 else
  E5 p c1
 partial_fixpoint
def Gf (c : A2) (n : A0) : Option (List Int × A2) :=
 E6 [] c n
def LO (c : A2) : Option (A8 × A2) :=
 GH c >>= fun r =>
 Bv r.2 10 >>= fun r1 =>
 if r1.1 then
  FR r1.2 >>= fun r2 =>
  Gf r2.2 r2.1 >>= fun r3 =>
  some ((A8.mk r2.1 r3.1), r3.2)
 else
  Gf r1.2 r.1 >>= fun r4 =>
  some ((A8.mk r.1 r4.1), r4.2)
def H8 (code : List Int) : Option (A8 × Int) :=
 NO code >>= fun r =>
 LO r >>= fun r1 =>
 Fb r1.2 [0, 0, 1, 2, (-1), 9] >>= fun r2 =>
 some (r1.1, r2.1)
def CP (s : List (List (Int))) : Option (List Int) :=
 match s with | [l, m] => if (l.length + m.length) * 8 ≤ 140737488351232 ∧ l.length + m.length ≤ 1000000000000 then some (l ++ m) else none | _ => none
def FS (path : List Int) (i : Int) : Option (List Int) :=
 CP [path, [i]] >>= fun r =>
 some r
def EF (s : List (A1)) : Option (List A1) :=
 room s.length 32 >>= fun _ => some s
def EG (s : List (A3)) : Option (List A3) :=
 room s.length 64 >>= fun _ => some s
mutual
def CQ (n : A0) : Option (A0) :=
 EF n.Decls >>= fun r =>
 EG n.Attrs >>= fun r1 =>
 HX n.Kids >>= fun r2 =>
 some (A0.mk n.Kind n.Pre n.Local n.Uri r r1 r2 n.Text)
 partial_fixpoint
def HX (l : List A0) : Option (List A0) :=
 Dt [] l 0
 partial_fixpoint
def Dt (out : List (A0)) (l : List A0) (x1 : Int) : Option (List A0) :=
 if (Hz x1 (AC l)) then
  getI l x1 >>= fun x2 =>
  CQ x2 >>= fun r1 =>
  room (out.length + 1) 144 >>= fun x_1 =>
  Dt (out ++ [r1]) l (AP x1 1)
 else
  some out
 partial_fixpoint
end
def Bk (s : List (Int)) : Option (List Int) :=
 room s.length 8 >>= fun _ => some s
def Bz (w : A8) : Option (A8) :=
 CQ w.Tre >>= fun r =>
 Bk w.Path >>= fun r1 =>
 some (A8.mk r r1)
def HY (n : Int) (lo : Int) (hi : Int) : Option (Bool) :=
 if (geI n lo) then
  some (Rn n hi)
 else
  some false
def Du (path : List Int) (x2 : Int) (n1 : A0) : Option (A0 × Bool) :=
 if (Hz x2 (AC path)) then
  getI path x2 >>= fun x3 =>
  HY x3 0 (BA (AC n1.Kids) 1) >>= fun r2 =>
  if r2 then
   getI n1.Kids x3 >>= fun x4 =>
   Du path (AP x2 1) x4
  else
   some ((A0.mk 0 (⟨#[]⟩) (⟨#[]⟩) (⟨#[]⟩) [] [] [] (⟨#[]⟩)), false)
 else
  CQ n1 >>= fun r3 =>
  some (r3, true)
 partial_fixpoint
def I3 (n : A0) (path : List Int) : Option (A0 × Bool) :=
 Du path 0 n
mutual
def EH (n : A0) : Option (Int) :=
 E7 (AP 1 (AC n.Attrs)) n 0
 partial_fixpoint
def E7 (out : Int) (n : A0) (x1 : Int) : Option (Int) :=
 if (Hz x1 (AC n.Kids)) then
  getI n.Kids x1 >>= fun x2 =>
  EH x2 >>= fun r1 =>
  E7 (AP out r1) n (AP x1 1)
 else
  some out
 partial_fixpoint
end
def Cm (s : ByteArray) : Option (Int × Int) :=
 some (YL s)
def I4 (s : ByteArray) (at1 : Int) : Option (Int × Int × Bool) :=
 HY at1 0 (BA (AS s) 1) >>= fun r =>
 if r then
  PV s at1 (AS s) >>= fun x =>
  Cm x >>= fun r1 =>
  if (Av r1.1 65533) then
   if (Rn r1.2 1) then
    some (0, 0, false)
   else
    some ((wr .i64 r1.1), (AP at1 r1.2), true)
  else
   some ((wr .i64 r1.1), (AP at1 r1.2), true)
 else
  some (0, 0, false)
def Mz (r : A7) (a1 : Int) : Option (Bool × Int) :=
 HY a1 r.xa0 r.xa1 >>= fun r1 =>
 some (r1, a1)
def AM (s : List A7) (x1 : Int) (f : Int) : Option (Int × Int) :=
 if (Hz x1 (AC s)) then
  getI s x1 >>= fun x2 =>
  Mz x2 f >>= fun r1 =>
  if r1.1 then
   some (x1, r1.2)
  else
   AM s (AP x1 1) r1.2
 else
  some ((-1), f)
 partial_fixpoint
def Bm (s : List A7) (fc0 : Int) : Option (Int × Int) :=
 AM s 0 fc0
def BI (s : List A7) (fc0 : Int) : Option (Bool × Int) :=
 Bm s fc0 >>= fun r =>
 some ((geI r.1 0), r.2)
def Hn (n : Int) (ranges : List A7) : Option (Bool) :=
 BI ranges n >>= fun r =>
 some r.1
def LP (n : Int) : Option (Bool) :=
 Hn n [(A7.mk 9 10), (A7.mk 13 13), (A7.mk 32 55295), (A7.mk 57344 65533), (A7.mk 65536 1114111)] >>= fun r =>
 some r
def Ch (s : ByteArray) (at1 : Int) : Option (Bool) :=
 if (Hz at1 (AS s)) then
  I4 s at1 >>= fun r2 =>
  if r2.2.2 then
   LP r2.1 >>= fun r3 =>
   if r3 then
    Ch s r2.2.1
   else
    some false
  else
   some false
 else
  some true
 partial_fixpoint
def JQ (s : ByteArray) : Option (Bool) :=
 Ch s 0
def DY (s : ByteArray) : Option (Bool) :=
 if (Rn (AS s) 600) then
  JQ s >>= fun r =>
  some r
 else
  some false
def strings_Contains (s : ByteArray) (t : ByteArray) : Option (Bool) :=
 if s.size < 4294967281 then some (Ey s t) else none
def Bn (s : ByteArray) (suffix : ByteArray) : Option (Bool) :=
 if (geI (AS s) (AS suffix)) then
  PV s (BA (AS s) (AS suffix)) (AS s) >>= fun x =>
  some (D7 x suffix)
 else
  some false
def EI (s : ByteArray) (suffix : ByteArray) : Option (Bool) :=
 Bn s suffix >>= fun r =>
 some r
def Ny (s : ByteArray) : Option (Bool) :=
 DY s >>= fun r =>
 if r then
  strings_Contains s (⟨#[45, 45]⟩) >>= fun r1 =>
  if r1 then
   some false
  else
   EI s (⟨#[45]⟩) >>= fun r2 =>
   if r2 then
    some false
   else
    strings_Contains s (⟨#[13]⟩) >>= fun r3 =>
    some (!r3)
 else
  some false
def Gg (n : Int) : Option (Bool) :=
 Hn n [(A7.mk 65 90), (A7.mk 95 95), (A7.mk 97 122), (A7.mk 192 214), (A7.mk 216 246), (A7.mk 248 767), (A7.mk 880 893), (A7.mk 895 8191), (A7.mk 8204 8205), (A7.mk 8304 8591), (A7.mk 11264 12271), (A7.mk 12289 55295), (A7.mk 63744 64975), (A7.mk 65008 65533), (A7.mk 65536 983039)] >>= fun r =>
 some r
def I5 (n : Int) : Option (Bool) :=
 Gg n >>= fun r =>
 if r then
  some true
 else
  Hn n [(A7.mk 45 46), (A7.mk 48 57), (A7.mk 183 183), (A7.mk 768 879), (A7.mk 8255 8256)] >>= fun r1 =>
  some r1
def C7 (s : ByteArray) (at1 : Int) : Option (Bool) :=
 if (Hz at1 (AS s)) then
  I4 s at1 >>= fun r5 =>
  if r5.2.2 then
   if (Av at1 0) then
    Gg r5.1 >>= fun r6 =>
    if r6 then
     I5 r5.1 >>= fun r7 =>
     if r7 then
      C7 s r5.2.1
     else
      some false
    else
     some false
   else
    I5 r5.1 >>= fun r8 =>
    if r8 then
     C7 s r5.2.1
    else
     some false
  else
   some false
 else
  HY (AS s) 1 16 >>= fun r9 =>
  some r9
 partial_fixpoint
def EJ (s : ByteArray) : Option (Bool) :=
 C7 s 0
def strings_EqualFold (s : ByteArray) (t : ByteArray) : Option (Bool) :=
 if s.size < 4294967281 ∧ za t = true then some (SM s t) else none
def Gh (n : Int) : Option (Bool) :=
 if (Av n 9) then
  some true
 else
  if (Av n 10) then
   some true
  else
   if (Av n 13) then
    some true
   else
    some (Av n 32)
def Nz (local1 : ByteArray) (s : ByteArray) : Option (Bool) :=
 EJ local1 >>= fun r =>
 if r then
  strings_EqualFold local1 (⟨#[120, 109, 108]⟩) >>= fun r1 =>
  if r1 then
   some false
  else
   DY s >>= fun r2 =>
   if r2 then
    strings_Contains s (⟨#[63, 62]⟩) >>= fun r3 =>
    if r3 then
     some false
    else
     strings_Contains s (⟨#[13]⟩) >>= fun r4 =>
     if r4 then
      some false
     else
      if (D7 s (⟨#[]⟩)) then
       some true
      else
       PU s 0 >>= fun x =>
       Gh (wr .i64 x) >>= fun r5 =>
       some (!r5)
   else
    some false
 else
  some false
def GI (n : A0) : Option (Bool) :=
 if (Av n.Kind 2) then
  if (neS n.Text (⟨#[]⟩)) then
   DY n.Text >>= fun r =>
   some r
  else
   some false
 else
  if (Av n.Kind 3) then
   Ny n.Text >>= fun r1 =>
   some r1
  else
   if (Av n.Kind 4) then
    Nz n.Local n.Text >>= fun r2 =>
    some r2
   else
    some false
def FU (n : A0) : Option (Bool) :=
 if (neS n.Pre (⟨#[]⟩)) then
  some false
 else
  if (neS n.Uri (⟨#[]⟩)) then
   some false
  else
   if (Np (AC n.Decls) 0) then
    some false
   else
    if (Np (AC n.Attrs) 0) then
     some false
    else
     if (Np (AC n.Kids) 0) then
      some false
     else
      if (neS n.Local (⟨#[]⟩)) then
       if (neI n.Kind 4) then
        some false
       else
        GI n
      else
       GI n
def Bo (s : ByteArray) (prefix1 : ByteArray) : Option (Bool) :=
 if (geI (AS s) (AS prefix1)) then
  PV s 0 (AS prefix1) >>= fun x =>
  some (D7 x prefix1)
 else
  some false
def EK (s : ByteArray) (prefix1 : ByteArray) : Option (Bool) :=
 Bo s prefix1 >>= fun r =>
 some r
def GJ (s : ByteArray) : Option (Bool) :=
 if (D7 s (⟨#[]⟩)) then
  some true
 else
  EJ s >>= fun r =>
  if r then
   EK s (⟨#[120, 109, 108]⟩) >>= fun r1 =>
   some (!r1)
  else
   some false
def Ho (uri : ByteArray) (pre : ByteArray) : Option (Bool) :=
 DY uri >>= fun r =>
 if r then
  if (Rn (AS uri) 40) then
   if (neS uri (⟨#[]⟩)) then
    some true
   else
    some (D7 pre (⟨#[]⟩))
  else
   some false
 else
  some false
def LQ (d : A1) : Option (Bool) :=
 GJ d.Pre >>= fun r =>
 if r then
  Ho d.Uri d.Pre >>= fun r1 =>
  some r1
 else
  some false
def Ci (l : List A1) (x2 : Int) : Option (Bool) :=
 if (Hz x2 (AC l)) then
  getI l x2 >>= fun x3 =>
  LQ x3 >>= fun r1 =>
  if r1 then
   if (Np x2 0) then
    getI l (BA x2 1) >>= fun x4 =>
    if (geS x4.Pre x3.Pre) then
     some false
    else
     Ci l (AP x2 1)
   else
    Ci l (AP x2 1)
  else
   some false
 else
  some (Rn (AC l) 4)
 partial_fixpoint
def N0 (l : List A1) : Option (Bool) :=
 Ci l 0
def GK (a : A3) : Option (Bool) :=
 GJ a.Pre >>= fun r =>
 if r then
  if (neB (D7 a.Pre (⟨#[]⟩)) (D7 a.Uri (⟨#[]⟩))) then
   some false
  else
   Ho a.Uri a.Pre >>= fun r1 =>
   if r1 then
    EJ a.Local >>= fun r2 =>
    if r2 then
     DY a.Val >>= fun r3 =>
     if r3 then
      if (neS a.Pre (⟨#[]⟩)) then
       some true
      else
       some (neS a.Local (⟨#[120, 109, 108, 110, 115]⟩))
     else
      some false
    else
     some false
   else
    some false
 else
  some false
def strings_Compare (s : ByteArray) (t : ByteArray) : Option (Int) :=
 some (LL s t)
def EL (a : A3) (b : A3) : Option (Int) :=
 strings_Compare a.Uri b.Uri >>= fun r =>
 if (neI r 0) then
  some r
 else
  strings_Compare a.Local b.Local >>= fun r1 =>
  some r1
def Cj (l : List A3) (x2 : Int) : Option (Bool) :=
 if (Hz x2 (AC l)) then
  getI l x2 >>= fun x3 =>
  GK x3 >>= fun r2 =>
  if r2 then
   if (Np x2 0) then
    getI l (BA x2 1) >>= fun x4 =>
    EL x4 x3 >>= fun r3 =>
    if (geI r3 0) then
     some false
    else
     Cj l (AP x2 1)
   else
    Cj l (AP x2 1)
  else
   some false
 else
  some (Rn (AC l) 5)
 partial_fixpoint
def JR (l : List A3) : Option (Bool) :=
 Cj l 0
def B8 (l : List A0) (x2 : Int) : Option (Bool) :=
 if (Hz x2 (AC l)) then
  getI l x2 >>= fun x3 =>
  if (Np x2 0) then
   if (Av x3.Kind 2) then
    getI l (BA x2 1) >>= fun x4 =>
    if (Av x4.Kind 2) then
     some false
    else
     B8 l (AP x2 1)
   else
    B8 l (AP x2 1)
  else
   B8 l (AP x2 1)
 else
  some true
 partial_fixpoint
def Fh (l : List A0) : Option (Bool) :=
 B8 l 0
mutual
def DZ (n : A0) (deep : Int) : Option (Bool) :=
 Fh n.Kids >>= fun r =>
 if r then
  BJ n.Kids deep >>= fun r1 =>
  some (!r1.1)
 else
  some false
 partial_fixpoint
def L6 (k : A0) (a1 : Int) : Option (Bool × Int) :=
 B7 k a1 >>= fun r =>
 some ((!r), a1)
 partial_fixpoint
def B7 (n : A0) (deep : Int) : Option (Bool) :=
 if (neI n.Kind 1) then
  FU n >>= fun r =>
  some r
 else
  if (geI deep 7) then
   some false
  else
   if (neS n.Text (⟨#[]⟩)) then
    some false
   else
    GJ n.Pre >>= fun r1 =>
    if r1 then
     Ho n.Uri n.Pre >>= fun r2 =>
     if r2 then
      EJ n.Local >>= fun r3 =>
      if r3 then
       N0 n.Decls >>= fun r4 =>
       if r4 then
        JR n.Attrs >>= fun r5 =>
        if r5 then
         DZ n (AP deep 1) >>= fun r6 =>
         some r6
        else
         some false
       else
        some false
      else
       some false
     else
      some false
    else
     some false
 partial_fixpoint
def BJ (s : List A0) (fc0 : Int) : Option (Bool × Int) :=
 Bq s fc0 >>= fun r =>
 some ((geI r.1 0), r.2)
 partial_fixpoint
def Bq (s : List A0) (fc0 : Int) : Option (Int × Int) :=
 AR s 0 fc0
 partial_fixpoint
def AR (s : List A0) (x1 : Int) (f : Int) : Option (Int × Int) :=
 if (Hz x1 (AC s)) then
  getI s x1 >>= fun x2 =>
  L6 x2 f >>= fun r1 =>
  if r1.1 then
   some (x1, r1.2)
  else
   AR s (AP x1 1) r1.2
 else
  some ((-1), f)
 partial_fixpoint
end
def D6 (kind : Int) (n : Int) (l : List A0) (x1 : Int) : Option (Int) :=
 if (Hz x1 (AC l)) then
  getI l x1 >>= fun x2 =>
  if (Av x2.Kind kind) then
   D6 kind (AP n 1) l (AP x1 1)
  else
   D6 kind n l (AP x1 1)
 else
  some n
 partial_fixpoint
def I6 (l : List A0) (kind : Int) : Option (Int) :=
 D6 kind 0 l 0
def Bh (bare : Bool) (n : A0) : Option (Bool) :=
 if bare then
  I6 n.Kids 1 >>= fun r2 =>
  if (Av r2 1) then
   I6 n.Kids 2 >>= fun r3 =>
   if (Av r3 0) then
    DZ n 0 >>= fun r4 =>
    some r4
   else
    some false
  else
   some false
 else
  some false
def GL (n : A0) : Option (Bool) :=
 EH n >>= fun r =>
 if (Np r 60) then
  some false
 else
  if (neI n.Kind 0) then
   B7 n 0 >>= fun r1 =>
   some r1
  else
   if (D7 n.Pre (⟨#[]⟩)) then
    if (D7 n.Local (⟨#[]⟩)) then
     if (D7 n.Uri (⟨#[]⟩)) then
      if (D7 n.Text (⟨#[]⟩)) then
       if (Av (AC n.Decls) 0) then
        Bh (Av (AC n.Attrs) 0) n
       else
        Bh false n
      else
       Bh false n
     else
      Bh false n
    else
     Bh false n
   else
    Bh false n
def O0 (n : A0) (l : List (A1)) : Option (Bool) :=
 LN ((A0.row false) n) (l.map fun x => (x.Pre, x.Uri))
def LR (n : A0) : Option (Bool) :=
 if (Av n.Kind 0) then
  GL n >>= fun r =>
  if r then
   O0 n [] >>= fun r1 =>
   some r1
  else
   some false
 else
  some false
def Da (w : A8) : Option (Bool) :=
 I3 w.Tre w.Path >>= fun r =>
 if r.2 then
  LR w.Tre >>= fun r1 =>
  some r1
 else
  some false
def N1 (w : A8) (path : List Int) : Option (A8 × Bool) :=
 Bz w >>= fun r =>
 I3 w.Tre path >>= fun r1 =>
 if r1.2 then
  Da w >>= fun r2 =>
  if r2 then
   Bk path >>= fun r3 =>
   some ((A8.mk r.Tre r3), true)
  else
   some (r, false)
 else
  some (r, false)
def I7 (w : A8) (i : Int) : Option (A8 × Bool) :=
 FS w.Path i >>= fun r =>
 N1 w r >>= fun r1 =>
 some (r1.1, r1.2)
def Gi (path : List Int) (i : Int) : Option (List Int) :=
 room (0 + path.length) 8 >>= fun x_ =>
 room ((0 + path.length) + 1) 8 >>= fun x_1 =>
 some (([] ++ path) ++ [i])
def EM (w : A8) : Option (A8) :=
 DS w.Tre >>= fun r =>
 room (0 + w.Path.length) 8 >>= fun x_ =>
 some (A8.mk r ([] ++ w.Path))
def Dv (path : List Int) (i : Int) (x2 : A0) : Option (A0 × Bool) :=
 if (Hz i (AC path)) then
  getI path i >>= fun x3 =>
  CW x3 0 (BA (AC x2.Kids) 1) >>= fun r2 =>
  if r2 then
   getI x2.Kids x3 >>= fun x4 =>
   Dv path (AP i 1) x4
  else
   some ((A0.mk 0 (⟨#[]⟩) (⟨#[]⟩) (⟨#[]⟩) [] [] [] (⟨#[]⟩)), false)
 else
  DS x2 >>= fun r3 =>
  some (r3, true)
 partial_fixpoint
def I8 (n : A0) (path : List Int) : Option (A0 × Bool) :=
 Dv path 0 n
def FV (w : A8) : Option (Bool) :=
 I8 w.Tre w.Path >>= fun r =>
 if r.2 then
  D4 w.Tre >>= fun r1 =>
  some r1
 else
  some false
def Hp (w : A8) (path : List Int) : Option (A8 × Bool) :=
 EM w >>= fun r =>
 I8 w.Tre path >>= fun r1 =>
 if r1.2 then
  FV w >>= fun r2 =>
  if r2 then
   room (0 + path.length) 8 >>= fun x_ =>
   some ((A8.mk r.Tre ([] ++ path)), true)
  else
   some (r, false)
 else
  some (r, false)
def P9 (w : A8) (i : Int) : Option (A8 × Bool) :=
 Gi w.Path i >>= fun r =>
 Hp w r >>= fun r1 =>
 some (r1.1, r1.2)
def EZ (w : A8) (by1 : Int) : Option (A8 × Bool) :=
 if (Av (AC w.Path) 0) then
  Bz w >>= fun r =>
  some (r, false)
 else
  Da w >>= fun r1 =>
  if r1 then
   slL w.Path 0 (BA (AC w.Path) 1) >>= fun x =>
   getI w.Path (BA (AC w.Path) 1) >>= fun x1 =>
   FS x (AP x1 by1) >>= fun r3 =>
   N1 w r3 >>= fun r4 =>
   some (r4.1, r4.2)
  else
   Bz w >>= fun r2 =>
   some (r2, false)
def Fc (w : A8) : Option (A8 × Bool) :=
 EZ w 1 >>= fun r =>
 some (r.1, r.2)
def JS (w : A8) (by1 : Int) : Option (A8 × Bool) :=
 if (Hz (BA (AC w.Path) 1) 0) then
  EM w >>= fun r =>
  some (r, false)
 else
  FV w >>= fun r1 =>
  if r1 then
   slL w.Path 0 (BA (AC w.Path) 1) >>= fun x =>
   getI w.Path (BA (AC w.Path) 1) >>= fun x1 =>
   Gi x (AP x1 by1) >>= fun r3 =>
   Hp w r3 >>= fun r4 =>
   some (r4.1, r4.2)
  else
   EM w >>= fun r2 =>
   some (r2, false)
def NT (w : A8) : Option (A8 × Bool) :=
 JS w 1 >>= fun r =>
 some (r.1, r.2)
def HZ (w : A8) : Option (A8 × Bool) :=
 if (Av (AC w.Path) 0) then
  Bz w >>= fun r =>
  some (r, false)
 else
  slL w.Path 0 (BA (AC w.Path) 1) >>= fun x =>
  N1 w x >>= fun r1 =>
  some (r1.1, r1.2)
def Uo (w : A8) : Option (A8 × Bool) :=
 if (Av (AC w.Path) 0) then
  EM w >>= fun r =>
  some (r, false)
 else
  slL w.Path 0 (BA (AC w.Path) 1) >>= fun x =>
  Hp w x >>= fun r1 =>
  some (r1.1, r1.2)
def Aj (s1 : List A1) (s2 : List A1) (x2 : Int) : Option (Bool) :=
 if (Hz x2 (AC s1)) then
  getI s1 x2 >>= fun x3 =>
  getI s2 x2 >>= fun x4 =>
  if (D7 x3.Pre x4.Pre && D7 x3.Uri x4.Uri) then
   Aj s1 s2 (AP x2 1)
  else
   some false
 else
  some true
 partial_fixpoint
def EN (s1 : List A1) (s2 : List A1) : Option (Bool) :=
 if (neI (AC s1) (AC s2)) then
  some false
 else
  Aj s1 s2 0
def Ak (s1 : List A3) (s2 : List A3) (x2 : Int) : Option (Bool) :=
 if (Hz x2 (AC s1)) then
  getI s1 x2 >>= fun x3 =>
  getI s2 x2 >>= fun x4 =>
  if (D7 x3.Pre x4.Pre && (D7 x3.Local x4.Local && (D7 x3.Uri x4.Uri && D7 x3.Val x4.Val))) then
   Ak s1 s2 (AP x2 1)
  else
   some false
 else
  some true
 partial_fixpoint
def EO (s1 : List A3) (s2 : List A3) : Option (Bool) :=
 if (neI (AC s1) (AC s2)) then
  some false
 else
  Ak s1 s2 0
def GM (a : A0) (b : A0) : Option (Bool) :=
 if (Av a.Kind b.Kind) then
  if (D7 a.Pre b.Pre) then
   if (D7 a.Local b.Local) then
    if (D7 a.Uri b.Uri) then
     if (D7 a.Text b.Text) then
      EN a.Decls b.Decls >>= fun r =>
      if r then
       EO a.Attrs b.Attrs >>= fun r1 =>
       some r1
      else
       some false
     else
      some false
    else
     some false
   else
    some false
  else
   some false
 else
  some false
mutual
def Ea (a : A0) (b : A0) : Option (Bool) :=
 GM a b >>= fun r =>
 if r then
  Az a.Kids b.Kids >>= fun r1 =>
  some r1
 else
  some false
 partial_fixpoint
def Az (s1 : List A0) (s2 : List A0) : Option (Bool) :=
 if (neI (AC s1) (AC s2)) then
  some false
 else
  AK s2 s1 0
 partial_fixpoint
def AK (s2 : List A0) (s1 : List A0) (x2 : Int) : Option (Bool) :=
 if (Hz x2 (AC s1)) then
  getI s1 x2 >>= fun x3 =>
  getI s2 x2 >>= fun x4 =>
  Ea x3 x4 >>= fun r1 =>
  if r1 then
   AK s2 s1 (AP x2 1)
  else
   some false
 else
  some true
 partial_fixpoint
end
def CR (a : List Int) (b : List Int) (i : Int) : Option (Bool) :=
 if (Hz i (AC a)) then
  getI a i >>= fun x2 =>
  getI b i >>= fun x3 =>
  if (neI x2 x3) then
   some false
  else
   CR a b (AP i 1)
 else
  some true
 partial_fixpoint
def H9 (a : List Int) (b : List Int) : Option (Bool) :=
 if (neI (AC a) (AC b)) then
  some false
 else
  CR a b 0
def AY (a : A8) (b : A8) : Option (Bool) :=
 Ea a.Tre b.Tre >>= fun r =>
 if r then
  H9 a.Path b.Path >>= fun r1 =>
  some r1
 else
  some false
def Bu (w : A8) : Option (Int) :=
 Da w >>= fun r =>
 if r then
  some (er 0 (BA (AC w.Path) 1))
 else
  some 0
def BF (n : Int) (i : Int) (w : A8) (x4 : A0) : Option (Int) :=
 if (Hz i (AC w.Path)) then
  FV w >>= fun r1 =>
  if r1 then
   if (Av x4.Kind 1) then
    getI w.Path i >>= fun x5 =>
    getI x4.Kids x5 >>= fun x6 =>
    BF (AP n 1) (AP i 1) w x6
   else
    getI w.Path i >>= fun x7 =>
    getI x4.Kids x7 >>= fun x8 =>
    BF n (AP i 1) w x8
  else
   some n
 else
  some n
 partial_fixpoint
def NU (w : A8) : Option (Int) :=
 BF 0 0 w w.Tre
def PB (w : A8) : Option (A8 × Bool) :=
 EZ w (-1) >>= fun r =>
 some (r.1, r.2)
def De (is : Bool) (r1 : A8 × Int) (r4 : A8 × Bool) : Option (Bool) :=
 if is then
  PB r4.1 >>= fun r26 =>
  if r26.2 then
   AY r26.1 r1.1 >>= fun r27 =>
   if r27 then
    Bu r4.1 >>= fun r28 =>
    Bu r1.1 >>= fun r29 =>
    some (Av r28 r29)
   else
    some false
  else
   some false
 else
  some true
def Aq (ok : Bool) (is : Bool) (r1 : A8 × Int) (r2 : A8 × Bool) (r4 : A8 × Bool) : Option (Bool) :=
 if ok then
  HZ r2.1 >>= fun r22 =>
  if r22.2 then
   AY r22.1 r1.1 >>= fun r23 =>
   if r23 then
    Bu r2.1 >>= fun r24 =>
    Bu r1.1 >>= fun r25 =>
    if (Hz r24 r25) then
     some false
    else
     De is r1 r4
   else
    some false
  else
   some false
 else
  De is r1 r4
def N2 (code : List Int) : Option (Bool) :=
 Un code >>= fun r =>
 if r then
  some true
 else
  H8 code >>= fun r1 =>
  I7 r1.1 r1.2 >>= fun r2 =>
  P9 r1.1 r1.2 >>= fun r3 =>
  Fc r1.1 >>= fun r4 =>
  NT r1.1 >>= fun r5 =>
  HZ r1.1 >>= fun r6 =>
  Uo r1.1 >>= fun r7 =>
  if (neB r2.2 r3.2) then
   some false
  else
   AY r2.1 r3.1 >>= fun r8 =>
   if r8 then
    if (neB r4.2 r5.2) then
     some false
    else
     AY r4.1 r5.1 >>= fun r9 =>
     if r9 then
      if (neB r6.2 r7.2) then
       some false
      else
       AY r6.1 r7.1 >>= fun r10 =>
       if r10 then
        Da r1.1 >>= fun r11 =>
        FV r1.1 >>= fun r12 =>
        if (neB r11 r12) then
         some false
        else
         Bu r1.1 >>= fun r13 =>
         NU r1.1 >>= fun r14 =>
         if (neI r13 r14) then
          some false
         else
          if r2.2 then
           if r4.2 then
            if r6.2 then
             Aq true true r1 r2 r4
            else
             AY r6.1 r1.1 >>= fun r15 =>
             if r15 then
              Aq true true r1 r2 r4
             else
              some false
           else
            AY r4.1 r1.1 >>= fun r16 =>
            if r16 then
             if r6.2 then
              Aq true false r1 r2 r4
             else
              AY r6.1 r1.1 >>= fun r17 =>
              if r17 then
               Aq true false r1 r2 r4
              else
               some false
            else
             some false
          else
           AY r2.1 r1.1 >>= fun r18 =>
           if r18 then
            if r4.2 then
             if r6.2 then
              Aq false true r1 r2 r4
             else
              AY r6.1 r1.1 >>= fun r19 =>
              if r19 then
               Aq false true r1 r2 r4
              else
               some false
            else
             AY r4.1 r1.1 >>= fun r20 =>
             if r20 then
              if r6.2 then
               Aq false false r1 r2 r4
              else
               AY r6.1 r1.1 >>= fun r21 =>
               if r21 then
                Aq false false r1 r2 r4
               else
                some false
             else
              some false
           else
            some false
       else
        some false
     else
      some false
   else
    some false
end TT
