import Derived.Test.YtaeegkjcjlnanaaGreatDoorTTypes
set_option maxHeartbeats 2000000
set_option linter.unusedVariables false
set_option linter.unusedSimpArgs false
set_option linter.defProp false
set_option maxRecDepth 100000
set_option synthInstance.maxHeartbeats 4000000
set_option synthInstance.maxSize 100000
namespace TT
open Go
def VC (code : List Int) : Option (Bool) :=
 some (NN (A8 code) 1048576)
def Em (code : List Int) (h : Int) (i : Int) : Option (A2) :=
 if (Jw i (A8 code)) then
  if (Jw i 4000) then
   getI code i >>= fun x1 =>
   Em code (Qf .i64 (AY (AY (Uz h 137) (wr .i64 x1)) 11) 1073741823) (AY i 1)
  else
   some (A2.mk code 0 h)
 else
  some (A2.mk code 0 h)
 partial_fixpoint
def Nd (code : List Int) : Option (A2) :=
 Em code (AY 129371 (A8 code)) 0
def FX (c : A2) : Option (Int × A2) :=
 lX .i64 (AY (Uz c.xh 6364136223846793005) 1442695040888963407) 33 >>= fun x =>
 lX .i64 (AY (Uz c.xh 6364136223846793005) 1442695040888963407) 47 >>= fun x1 =>
 if (Jw c.xi (A8 c.xb)) then
  getI c.xb c.xi >>= fun x2 =>
  some ((Qf .i64 (AY (Qf .i64 (uo .i64 x x1) 255) (wr .i64 x2)) 255), (A2.mk c.xb (AY c.xi 1) (AY (Uz c.xh 6364136223846793005) 1442695040888963407)))
 else
  some ((Qf .i64 (uo .i64 x x1) 255), (A2.mk c.xb c.xi (AY (Uz c.xh 6364136223846793005) 1442695040888963407)))
def Ap (c : A2) (n : Int) : Option (Int × A2) :=
 if (SR n 0) then
  some (0, c)
 else
  if (SR n 256) then
   FX c >>= fun r =>
   lW r.1 n >>= fun x =>
   some (x, r.2)
  else
   FX c >>= fun r1 =>
   FX r1.2 >>= fun r2 =>
   FX r2.2 >>= fun r3 =>
   lW (AY (AY (Uz r1.1 65536) (Uz r2.1 256)) r3.1) n >>= fun x1 =>
   some (x1, r3.2)
def Bd (c : A2) (n : Int) : Option (Bool × A2) :=
 Ap c n >>= fun r =>
 some ((Al r.1 0), r.2)
def AS (c : A2) (list : List ByteArray) : Option (ByteArray × A2) :=
 Ap c (A8 list) >>= fun r =>
 getI list r.1 >>= fun x =>
 some (x, r.2)
def KW (c : A2) : Option (ByteArray × A2) :=
 AS c [⟨#[117, 114, 110, 58, 117]⟩, ⟨#[117, 114, 110, 58, 118]⟩, ⟨#[117, 114, 110, 58, 119]⟩] >>= fun r =>
 some (r.1, r.2)
def GP (c : A2) : Option (A1 × A2) :=
 AS c [⟨#[]⟩, ⟨#[112]⟩, ⟨#[113]⟩, ⟨#[114]⟩] >>= fun r =>
 KW r.2 >>= fun r1 =>
 if (Cu r.1 (⟨#[]⟩)) then
  Bd r1.2 3 >>= fun r2 =>
  if r2.1 then
   some ((A1.mk r.1 (⟨#[]⟩)), r2.2)
  else
   some ((A1.mk r.1 r1.1), r2.2)
 else
  some ((A1.mk r.1 r1.1), r1.2)
def Be (l : List (A1)) (i : Int) (c1 : A2) : Option (List A1 × A2) :=
 if (NN i 0) then
  GP c1 >>= fun r2 =>
  if (Al (A8 l) 0) then
   room (l.length + 1) 32 >>= fun x_2 =>
   Be (l ++ [r2.1]) (BE i 1) r2.2
  else
   getI l (BE (A8 l) 1) >>= fun x1 =>
   if (ltS x1.Pre r2.1.Pre) then
    room (l.length + 1) 32 >>= fun x_3 =>
    Be (l ++ [r2.1]) (BE i 1) r2.2
   else
    Be l (BE i 1) r2.2
 else
  some (l, c1)
 partial_fixpoint
def IB (c : A2) : Option (List A1 × A2) :=
 Ap c 4 >>= fun r =>
 Be [] r.1 r.2
def GQ (l : List A1) (more : List A1) : Option (List A1) :=
 room (0 + l.length) 32 >>= fun x_ =>
 room ((0 + l.length) + more.length) 32 >>= fun x_1 =>
 some (([] ++ l) ++ more)
def Bh (l : List A1) (pre : ByteArray) (i : Int) : Option (ByteArray × Bool) :=
 if (geI i 0) then
  getI l i >>= fun x1 =>
  if (Cu x1.Pre pre) then
   some (x1.Uri, true)
  else
   Bh l pre (BE i 1)
 else
  some (⟨#[]⟩, (Cu pre (⟨#[]⟩)))
 partial_fixpoint
def Bn (l : List A1) (pre : ByteArray) : Option (ByteArray × Bool) :=
 Bh l pre (BE (A8 l) 1)
def Nf (c : A2) : Option (ByteArray × A2) :=
 AS c [⟨#[]⟩, ⟨#[49]⟩, ⟨#[50]⟩, ⟨#[120, 32, 121]⟩, ⟨#[195, 169]⟩, ⟨#[60, 38, 62, 34]⟩, ⟨#[97, 10, 98]⟩, ⟨#[9]⟩] >>= fun r =>
 some (r.1, r.2)
def FY (a : A4) (b : A4) : Option (Bool) :=
 if (ltS a.Uri b.Uri) then
  some true
 else
  if (Cu a.Uri b.Uri) then
   some (ltS a.Local b.Local)
  else
   some false
mutual
def Ng (l : List A0) : Option (List A0) :=
 HF l [] 0
 partial_fixpoint
def HF (l : List A0) (out : List (A0)) (i : Int) : Option (List A0) :=
 if (Jw i (A8 l)) then
  getI l i >>= fun x1 =>
  CF x1 >>= fun r1 =>
  room (out.length + 1) 144 >>= fun x_1 =>
  HF l (out ++ [r1]) (AY i 1)
 else
  some out
 partial_fixpoint
def CF (n : A0) : Option (A0) :=
 room (0 + n.Decls.length) 32 >>= fun x_ =>
 room (0 + n.Attrs.length) 64 >>= fun x_1 =>
 Ng n.Kids >>= fun r =>
 some (A0.mk n.Kind n.Pre n.Local n.Uri ([] ++ n.Decls) ([] ++ n.Attrs) r n.Text)
 partial_fixpoint
end
mutual
def Dy (l : List A0) (out : List (A0)) (i : Int) (x8 : Bool) (x6 : A0) : Option (List A0) :=
 if x8 then
  getI out (BE (A8 out) 1) >>= fun x9 =>
  Y1 x9.Text x6.Text >>= fun x10 =>
  getI out (BE (A8 out) 1) >>= fun x11 =>
  Bi l (out.set (Int.toNat (BE (A8 out) 1)) (A0.mk x11.Kind x11.Pre x11.Local x11.Uri x11.Decls x11.Attrs x11.Kids x10)) (AY i 1)
 else
  CF x6 >>= fun r2 =>
  room (out.length + 1) 144 >>= fun x_2 =>
  Bi l (out ++ [r2]) (AY i 1)
 partial_fixpoint
def Bi (l : List A0) (out : List (A0)) (i : Int) : Option (List A0) :=
 if (Jw i (A8 l)) then
  getI l i >>= fun x6 =>
  if (Al x6.Kind 2) then
   if (Cu x6.Text (⟨#[]⟩)) then
    Bi l out (AY i 1)
   else
    if (NN (A8 out) 0) then
     getI out (BE (A8 out) 1) >>= fun x7 =>
     Dy l out i (Al x7.Kind 2) x6
    else
     Dy l out i false x6
  else
   CF x6 >>= fun r3 =>
   room (out.length + 1) 144 >>= fun x_3 =>
   Bi l (out ++ [r3]) (AY i 1)
 else
  some out
 partial_fixpoint
end
def Fj (l : List A0) : Option (List A0) :=
 Bi l [] 0
mutual
def EI (c : A2) (in1 : List A1) (most : Int) : Option (A0 × A2 × Int) :=
 AS c [⟨#[97]⟩, ⟨#[98]⟩, ⟨#[99]⟩, ⟨#[105, 116, 101, 109]⟩] >>= fun r =>
 Bd r.2 4 >>= fun r1 =>
 if r1.1 then
  IB r1.2 >>= fun r2 =>
  Jf in1 r2.2 most r r2.1
 else
  Jf in1 r1.2 most r []
 partial_fixpoint
def Jf (in1 : List A1) (c1 : A2) (most : Int) (r : ByteArray × A2) (nDecls : List (A1)) : Option (A0 × A2 × Int) :=
 GQ in1 nDecls >>= fun r3 =>
 Bd c1 4 >>= fun r4 =>
 if r4.1 then
  AS r4.2 [⟨#[112]⟩, ⟨#[113]⟩] >>= fun r5 =>
  HG r3 r5.2 most r5.1 r nDecls
 else
  HG r3 r4.2 most (⟨#[]⟩) r nDecls
 partial_fixpoint
def HG (r3 : List A1) (c2 : A2) (most : Int) (nPre : ByteArray) (r : ByteArray × A2) (nDecls : List (A1)) : Option (A0 × A2 × Int) :=
 Bn r3 nPre >>= fun r6 =>
 if r6.2 then
  HH r3 r6.1 c2 most nPre r nDecls
 else
  Bn r3 (⟨#[]⟩) >>= fun r7 =>
  HH r3 r7.1 c2 most (⟨#[]⟩) r nDecls
 partial_fixpoint
def HH (r3 : List A1) (u : ByteArray) (c2 : A2) (most : Int) (nPre1 : ByteArray) (r : ByteArray × A2) (nDecls : List (A1)) : Option (A0 × A2 × Int) :=
 Ap c2 3 >>= fun r8 =>
 Dc r3 r8.1 r8.2 most nPre1 r u nDecls []
 partial_fixpoint
def Fu (r3 : List A1) (i1 : Int) (r31 : ByteArray × A2) (most : Int) (nPre1 : ByteArray) (r : ByteArray × A2) (u : ByteArray) (nDecls : List (A1)) (nAttrs : List (A4)) (a1 : A4) : Option (A0 × A2 × Int) :=
 if (Al (A8 nAttrs) 0) then
  room (nAttrs.length + 1) 64 >>= fun x_10 =>
  Dc r3 (BE i1 1) r31.2 most nPre1 r u nDecls (nAttrs ++ [a1])
 else
  getI nAttrs (BE (A8 nAttrs) 1) >>= fun x3 =>
  FY x3 a1 >>= fun r33 =>
  if r33 then
   room (nAttrs.length + 1) 64 >>= fun x_11 =>
   Dc r3 (BE i1 1) r31.2 most nPre1 r u nDecls (nAttrs ++ [a1])
  else
   Dc r3 (BE i1 1) r31.2 most nPre1 r u nDecls nAttrs
 partial_fixpoint
def HJ (r3 : List A1) (i2 : Int) (r42 : Int × A2) (x5 : Bool) (most2 : Int) (nPre1 : ByteArray) (r : ByteArray × A2) (u : ByteArray) (nDecls : List (A1)) (nAttrs : List (A4)) (nKids1 : List (A0)) : Option (A0 × A2 × Int) :=
 if x5 then
  AS r42.2 [⟨#[120]⟩, ⟨#[121]⟩, ⟨#[32]⟩, ⟨#[10, 32, 32]⟩, ⟨#[49]⟩, ⟨#[226, 130, 172, 60]⟩] >>= fun r43 =>
  room (nKids1.length + 1) 144 >>= fun x_16 =>
  CP r3 (BE i2 1) r43.2 (BE most2 1) nPre1 r u nDecls nAttrs (nKids1 ++ [(A0.mk 2 (⟨#[]⟩) (⟨#[]⟩) (⟨#[]⟩) [] [] [] r43.1)])
 else
  if (Al r42.1 2) then
   AS r42.2 [⟨#[]⟩, ⟨#[110]⟩, ⟨#[32, 109, 32]⟩] >>= fun r44 =>
   room (nKids1.length + 1) 144 >>= fun x_17 =>
   CP r3 (BE i2 1) r44.2 (BE most2 1) nPre1 r u nDecls nAttrs (nKids1 ++ [(A0.mk 3 (⟨#[]⟩) (⟨#[]⟩) (⟨#[]⟩) [] [] [] r44.1)])
  else
   if (Al r42.1 3) then
    AS r42.2 [⟨#[]⟩, ⟨#[103, 111]⟩] >>= fun r45 =>
    room (nKids1.length + 1) 144 >>= fun x_18 =>
    CP r3 (BE i2 1) r45.2 (BE most2 1) nPre1 r u nDecls nAttrs (nKids1 ++ [(A0.mk 4 (⟨#[]⟩) (⟨#[116]⟩) (⟨#[]⟩) [] [] [] r45.1)])
   else
    EI r42.2 r3 (BE most2 1) >>= fun r46 =>
    room (nKids1.length + 1) 144 >>= fun x_19 =>
    CP r3 (BE i2 1) r46.2.1 r46.2.2 nPre1 r u nDecls nAttrs (nKids1 ++ [r46.1])
 partial_fixpoint
def CP (r3 : List A1) (i2 : Int) (c5 : A2) (most2 : Int) (nPre1 : ByteArray) (r : ByteArray × A2) (u : ByteArray) (nDecls : List (A1)) (nAttrs : List (A4)) (nKids1 : List (A0)) : Option (A0 × A2 × Int) :=
 if (NN i2 0) then
  if (NN most2 0) then
   Ap c5 6 >>= fun r42 =>
   if (Al r42.1 0) then
    HJ r3 i2 r42 true most2 nPre1 r u nDecls nAttrs nKids1
   else
    HJ r3 i2 r42 (Al r42.1 1) most2 nPre1 r u nDecls nAttrs nKids1
  else
   Fj nKids1 >>= fun r47 =>
   some ((A0.mk 1 nPre1 r.1 u nDecls nAttrs r47 (⟨#[]⟩)), c5, most2)
 else
  Fj nKids1 >>= fun r48 =>
  some ((A0.mk 1 nPre1 r.1 u nDecls nAttrs r48 (⟨#[]⟩)), c5, most2)
 partial_fixpoint
def Dc (r3 : List A1) (i1 : Int) (c4 : A2) (most : Int) (nPre1 : ByteArray) (r : ByteArray × A2) (u : ByteArray) (nDecls : List (A1)) (nAttrs : List (A4)) : Option (A0 × A2 × Int) :=
 if (NN i1 0) then
  AS c4 [⟨#[105, 100]⟩, ⟨#[107]⟩, ⟨#[118]⟩] >>= fun r29 =>
  Nf r29.2 >>= fun r30 =>
  AS r30.2 [⟨#[]⟩, ⟨#[]⟩, ⟨#[112]⟩] >>= fun r31 =>
  Bn r3 r31.1 >>= fun r32 =>
  if (neS r31.1 (⟨#[]⟩)) then
   if r32.2 then
    Fu r3 i1 r31 most nPre1 r u nDecls nAttrs (A4.mk r31.1 r29.1 r32.1 r30.1)
   else
    Fu r3 i1 r31 most nPre1 r u nDecls nAttrs (A4.mk (⟨#[]⟩) r29.1 (⟨#[]⟩) r30.1)
  else
   Fu r3 i1 r31 most nPre1 r u nDecls nAttrs (A4.mk (⟨#[]⟩) r29.1 (⟨#[]⟩) r30.1)
 else
  Ap c4 4 >>= fun r34 =>
  CP r3 r34.1 r34.2 most nPre1 r u nDecls nAttrs []
 partial_fixpoint
end
def wy := @EI.mutual_partial_correctness
mutual
def C7 (n : A0) : Option (Int) :=
 BF (AY 1 (A8 n.Attrs)) 0 n
 partial_fixpoint
def BF (k : Int) (i : Int) (n : A0) : Option (Int) :=
 if (Jw i (A8 n.Kids)) then
  getI n.Kids i >>= fun x1 =>
  C7 x1 >>= fun r1 =>
  BF (AY k r1) (AY i 1) n
 else
  some k
 partial_fixpoint
end
def Cb (a0 : Int) (least : Int) (most : Int) : Option (Bool) :=
 if (geI a0 least) then
  some (SR a0 most)
 else
  some false
def Ac (s : ByteArray) (at1 : Int) (n : Int) (least : Int) (v1 : Int) (i : Int) : Option (Int × Int × Bool) :=
 if (SR i n) then
  Q1 s (AY at1 i) >>= fun x4 =>
  if (Jw (wr .i64 x4) 128) then
   some (0, 0, false)
  else
   if (NN (wr .i64 x4) 191) then
    some (0, 0, false)
   else
    Ac s at1 n least (BE (AY (Uz v1 64) (wr .i64 x4)) 128) (AY i 1)
 else
  if (Jw v1 least) then
   some (0, 0, false)
  else
   if (NN v1 1114111) then
    some (0, 0, false)
   else
    Cb v1 55296 57343 >>= fun r1 =>
    if r1 then
     some (0, 0, false)
    else
     some (v1, (AY (AY at1 1) n), true)
 partial_fixpoint
def mh := @Ac.partial_correctness
def C8 (s : ByteArray) (at1 : Int) (n : Int) (least : Int) (v : Int) : Option (Int × Int × Bool) :=
 if (NN at1 (BE (BE (AU s) 1) n)) then
  some (0, 0, false)
 else
  Ac s at1 n least v 1
def Ch (s : ByteArray) (at1 : Int) (x : Int) (x2 : Bool) : Option (Int × Int × Bool) :=
 if x2 then
  C8 s at1 2 2048 (Qf .i64 (wr .i64 x) 15)
 else
  if (geI (wr .i64 x) 240) then
   if (Jw (wr .i64 x) 248) then
    C8 s at1 3 65536 (Qf .i64 (wr .i64 x) 7)
   else
    some (0, 0, false)
  else
   some (0, 0, false)
def Ci (s : ByteArray) (at1 : Int) (x : Int) (x1 : Bool) : Option (Int × Int × Bool) :=
 if x1 then
  C8 s at1 1 128 (Qf .i64 (wr .i64 x) 31)
 else
  if (geI (wr .i64 x) 224) then
   Ch s at1 x (Jw (wr .i64 x) 240)
  else
   Ch s at1 x false
def FZ (s : ByteArray) (at1 : Int) : Option (Int × Int × Bool) :=
 if (Jw at1 0) then
  some (0, 0, false)
 else
  if (geI at1 (AU s)) then
   some (0, 0, false)
  else
   Q1 s at1 >>= fun x =>
   if (Jw (wr .i64 x) 128) then
    some ((wr .i64 x), (AY at1 1), true)
   else
    if (geI (wr .i64 x) 192) then
     Ci s at1 x (Jw (wr .i64 x) 224)
    else
     Ci s at1 x false
def BM (n : Int) (l : List Int) (i : Int) : Option (Bool) :=
 if (Jw (AY i 1) (A8 l)) then
  getI l i >>= fun x2 =>
  getI l (AY i 1) >>= fun x3 =>
  Cb n x2 x3 >>= fun r1 =>
  if r1 then
   some true
  else
   BM n l (AY i 2)
 else
  some false
 partial_fixpoint
def Dd (n : Int) (l : List Int) : Option (Bool) :=
 BM n l 0
def ER (n : Int) : Option (Bool) :=
 Dd n [65, 90, 95, 95, 97, 122, 192, 214, 216, 246, 248, 767, 880, 893, 895, 8191, 8204, 8205, 8304, 8591, 11264, 12271, 12289, 55295, 63744, 64975, 65008, 65533, 65536, 983039] >>= fun r =>
 some r
def Fa (n : Int) : Option (Bool) :=
 ER n >>= fun r =>
 if r then
  some true
 else
  Dd n [45, 46, 48, 57, 183, 183, 768, 879, 8255, 8256] >>= fun r1 =>
  some r1
def Aj (s : ByteArray) (at1 : Int) : Option (Bool) :=
 if (Jw at1 (AU s)) then
  FZ s at1 >>= fun r5 =>
  if r5.2.2 then
   if (Al at1 0) then
    ER r5.1 >>= fun r6 =>
    if r6 then
     Fa r5.1 >>= fun r7 =>
     if r7 then
      Aj s r5.2.1
     else
      some false
    else
     some false
   else
    Fa r5.1 >>= fun r8 =>
    if r8 then
     Aj s r5.2.1
    else
     some false
  else
   some false
 else
  some true
 partial_fixpoint
def Bo (s : ByteArray) : Option (Bool) :=
 Cb (AU s) 1 16 >>= fun r =>
 if r then
  Aj s 0
 else
  some false
def GR (s : ByteArray) : Option (Bool) :=
 if (geI (AU s) 3) then
  Q2 s 0 3 >>= fun x =>
  some (Cu x (⟨#[120, 109, 108]⟩))
 else
  some false
def Dz (s : ByteArray) : Option (Bool) :=
 if (Cu s (⟨#[]⟩)) then
  some true
 else
  Bo s >>= fun r =>
  if r then
   GR s >>= fun r1 =>
   some (!r1)
  else
   some false
def GS (n : Int) : Option (Bool) :=
 if (Al n 9) then
  some true
 else
  if (Al n 10) then
   some true
  else
   if (Al n 13) then
    some true
   else
    Cb n 32 55295 >>= fun r =>
    if r then
     some true
    else
     Cb n 57344 65533 >>= fun r1 =>
     if r1 then
      some true
     else
      Cb n 65536 1114111 >>= fun r2 =>
      some r2
def BG (s : ByteArray) (at1 : Int) : Option (Bool) :=
 if (Jw at1 (AU s)) then
  FZ s at1 >>= fun r2 =>
  if r2.2.2 then
   GS r2.1 >>= fun r3 =>
   if r3 then
    BG s r2.2.1
   else
    some false
  else
   some false
 else
  some (SR (AU s) 1500)
 partial_fixpoint
def Gs (s : ByteArray) : Option (Bool) :=
 BG s 0
def BN (s : ByteArray) : Option (Bool) :=
 if (SR (AU s) 600) then
  Gs s >>= fun r =>
  some r
 else
  some false
def E0 (d : A1) : Option (Bool) :=
 BN d.Uri >>= fun r2 =>
 if r2 then
  some (SR (AU d.Uri) 40)
 else
  some false
def GT (d : A1) : Option (Bool) :=
 if (neS d.Pre (⟨#[]⟩)) then
  Bo d.Pre >>= fun r =>
  if r then
   GR d.Pre >>= fun r1 =>
   if r1 then
    some false
   else
    if (Cu d.Uri (⟨#[]⟩)) then
     some false
    else
     E0 d
  else
   some false
 else
  E0 d
def BH (l : List A1) (i : Int) : Option (Bool) :=
 if (Jw i (A8 l)) then
  getI l i >>= fun x2 =>
  GT x2 >>= fun r1 =>
  if r1 then
   if (NN i 0) then
    getI l (BE i 1) >>= fun x3 =>
    if (geS x3.Pre x2.Pre) then
     some false
    else
     BH l (AY i 1)
   else
    BH l (AY i 1)
  else
   some false
 else
  some (SR (A8 l) 4)
 partial_fixpoint
def DW (l : List A1) : Option (Bool) :=
 BH l 0
def De (n : A0) : Option (Bool) :=
 if (Cu n.Pre (⟨#[]⟩)) then
  if (Cu n.Uri (⟨#[]⟩)) then
   if (Al (A8 n.Decls) 0) then
    if (Al (A8 n.Attrs) 0) then
     some (Al (A8 n.Kids) 0)
    else
     some false
   else
    some false
  else
   some false
 else
  some false
def Bj (s : ByteArray) (t : ByteArray) (i : Int) : Option (Bool) :=
 if (SR (AY i (AU t)) (AU s)) then
  Q2 s i (AY i (AU t)) >>= fun x1 =>
  if (Cu x1 t) then
   some true
  else
   Bj s t (AY i 1)
 else
  some false
 partial_fixpoint
def D3 (s : ByteArray) (t : ByteArray) : Option (Bool) :=
 Bj s t 0
def Hv (s : ByteArray) : Option (Bool) :=
 if (SZ (AU s) 3) then
  some false
 else
  Q1 s 0 >>= fun x =>
  if (Al x 120) then
   Q1 s 1 >>= fun x1 =>
   if (Al x1 109) then
    Q1 s 2 >>= fun x2 =>
    if (Al x2 108) then
     some true
    else
     Q1 s 2 >>= fun x3 =>
     some (Al x3 76)
   else
    Q1 s 1 >>= fun x4 =>
    if (Al x4 77) then
     Q1 s 2 >>= fun x5 =>
     if (Al x5 108) then
      some true
     else
      Q1 s 2 >>= fun x6 =>
      some (Al x6 76)
    else
     some false
  else
   Q1 s 0 >>= fun x7 =>
   if (Al x7 88) then
    Q1 s 1 >>= fun x8 =>
    if (Al x8 109) then
     Q1 s 2 >>= fun x9 =>
     if (Al x9 108) then
      some true
     else
      Q1 s 2 >>= fun x10 =>
      some (Al x10 76)
    else
     Q1 s 1 >>= fun x11 =>
     if (Al x11 77) then
      Q1 s 2 >>= fun x12 =>
      if (Al x12 108) then
       some true
      else
       Q1 s 2 >>= fun x13 =>
       some (Al x13 76)
     else
      some false
   else
    some false
def ET (n : Int) : Option (Bool) :=
 if (Al n 9) then
  some true
 else
  if (Al n 10) then
   some true
  else
   if (Al n 13) then
    some true
   else
    some (Al n 32)
def D4 (a : A4) : Option (Bool) :=
 BN a.Val >>= fun r2 =>
 if r2 then
  BN a.Uri >>= fun r3 =>
  if r3 then
   some (SR (AU a.Uri) 40)
  else
   some false
 else
  some false
def Df (a : A4) : Option (Bool) :=
 Dz a.Pre >>= fun r =>
 if r then
  if (neB (Cu a.Pre (⟨#[]⟩)) (Cu a.Uri (⟨#[]⟩))) then
   some false
  else
   Bo a.Local >>= fun r1 =>
   if r1 then
    if (Cu a.Pre (⟨#[]⟩)) then
     if (Cu a.Local (⟨#[120, 109, 108, 110, 115]⟩)) then
      some false
     else
      D4 a
    else
     D4 a
   else
    some false
 else
  some false
def B6 (i : Int) (n : A0) : Option (Bool) :=
 if (Jw i (A8 n.Attrs)) then
  getI n.Attrs i >>= fun x2 =>
  Df x2 >>= fun r8 =>
  if r8 then
   if (NN i 0) then
    getI n.Attrs (BE i 1) >>= fun x3 =>
    FY x3 x2 >>= fun r9 =>
    if r9 then
     B6 (AY i 1) n
    else
     some false
   else
    B6 (AY i 1) n
  else
   some false
 else
  some true
 partial_fixpoint
def Dg (n : A0) : Option (Bool) :=
 B6 0 n
def By (n : A0) : Option (Bool) :=
 if (Al n.Kind 1) then
  Dz n.Pre >>= fun r =>
  if r then
   Bo n.Local >>= fun r1 =>
   if r1 then
    if (neS n.Text (⟨#[]⟩)) then
     some false
    else
     if (neS n.Pre (⟨#[]⟩)) then
      if (Cu n.Uri (⟨#[]⟩)) then
       some false
      else
       BN n.Uri >>= fun r2 =>
       if r2 then
        if (NN (AU n.Uri) 40) then
         some false
        else
         DW n.Decls >>= fun r3 =>
         if r3 then
          if (NN (A8 n.Attrs) 5) then
           some false
          else
           Dg n
         else
          some false
       else
        some false
     else
      BN n.Uri >>= fun r4 =>
      if r4 then
       if (NN (AU n.Uri) 40) then
        some false
       else
        DW n.Decls >>= fun r5 =>
        if r5 then
         if (NN (A8 n.Attrs) 5) then
          some false
         else
          Dg n
        else
         some false
      else
       some false
   else
    some false
  else
   some false
 else
  if (Al n.Kind 2) then
   De n >>= fun r10 =>
   if r10 then
    if (Cu n.Local (⟨#[]⟩)) then
     if (neS n.Text (⟨#[]⟩)) then
      BN n.Text >>= fun r11 =>
      some r11
     else
      some false
    else
     some false
   else
    some false
  else
   if (Al n.Kind 3) then
    De n >>= fun r12 =>
    if r12 then
     if (Cu n.Local (⟨#[]⟩)) then
      BN n.Text >>= fun r13 =>
      if r13 then
       D3 n.Text (⟨#[45, 45]⟩) >>= fun r14 =>
       if r14 then
        some false
       else
        D3 n.Text (⟨#[13]⟩) >>= fun r15 =>
        if r15 then
         some false
        else
         if (Cu n.Text (⟨#[]⟩)) then
          some true
         else
          Q1 n.Text (BE (AU n.Text) 1) >>= fun x4 =>
          some (SZ x4 45)
      else
       some false
     else
      some false
    else
     some false
   else
    if (Al n.Kind 4) then
     De n >>= fun r16 =>
     if r16 then
      Bo n.Local >>= fun r17 =>
      if r17 then
       Hv n.Local >>= fun r18 =>
       if r18 then
        some false
       else
        BN n.Text >>= fun r19 =>
        if r19 then
         D3 n.Text (⟨#[63, 62]⟩) >>= fun r20 =>
         if r20 then
          some false
         else
          D3 n.Text (⟨#[13]⟩) >>= fun r21 =>
          if r21 then
           some false
          else
           if (Cu n.Text (⟨#[]⟩)) then
            some true
           else
            Q1 n.Text 0 >>= fun x5 =>
            ET (wr .i64 x5) >>= fun r22 =>
            some (!r22)
        else
         some false
      else
       some false
     else
      some false
    else
     some false
mutual
def Ab (l : List A0) (deep : Int) : Option (Bool) :=
 Ah l deep 0
 partial_fixpoint
def Aw (l : List A0) (deep : Int) (i : Int) (x2 : A0) : Option (Bool) :=
 if (Al x2.Kind 1) then
  if (Al deep 7) then
   some false
  else
   Ab x2.Kids (AY deep 1) >>= fun r3 =>
   if r3 then
    Ah l deep (AY i 1)
   else
    some false
 else
  Ah l deep (AY i 1)
 partial_fixpoint
def Ah (l : List A0) (deep : Int) (i : Int) : Option (Bool) :=
 if (Jw i (A8 l)) then
  getI l i >>= fun x2 =>
  By x2 >>= fun r2 =>
  if r2 then
   if (Al x2.Kind 2) then
    if (NN i 0) then
     getI l (BE i 1) >>= fun x3 =>
     if (Al x3.Kind 2) then
      some false
     else
      Aw l deep i x2
    else
     Aw l deep i x2
   else
    Aw l deep i x2
  else
   some false
 else
  some true
 partial_fixpoint
end
mutual
def Bk (k2 : Int) (i : Int) (n : A0) : Option (Bool) :=
 getI n.Kids i >>= fun x3 =>
 if (Al x3.Kind 2) then
  some false
 else
  AP k2 (AY i 1) n
 partial_fixpoint
def AP (k1 : Int) (i : Int) (n : A0) : Option (Bool) :=
 if (Jw i (A8 n.Kids)) then
  getI n.Kids i >>= fun x2 =>
  if (Al x2.Kind 1) then
   Bk (AY k1 1) i n
  else
   Bk k1 i n
 else
  if (Al k1 1) then
   if (Cu n.Pre (⟨#[]⟩)) then
    if (Cu n.Local (⟨#[]⟩)) then
     if (Cu n.Uri (⟨#[]⟩)) then
      if (Cu n.Text (⟨#[]⟩)) then
       if (Al (A8 n.Decls) 0) then
        if (Al (A8 n.Attrs) 0) then
         Ab n.Kids 0 >>= fun r3 =>
         some r3
        else
         some false
       else
        some false
      else
       some false
     else
      some false
    else
     some false
   else
    some false
  else
   some false
 partial_fixpoint
end
def CG (n : A0) : Option (Bool) :=
 C7 n >>= fun r =>
 if (NN r 60) then
  some false
 else
  if (SZ n.Kind 0) then
   Ab [n] 0 >>= fun r1 =>
   some r1
  else
   AP 0 0 n
mutual
def Cj (n : A0) (l : List A1) : Option (Bool) :=
 GQ l n.Decls >>= fun r =>
 if (Al n.Kind 1) then
  Bn r n.Pre >>= fun r1 =>
  if r1.2 then
   if (neS r1.1 n.Uri) then
    some false
   else
    E1 r n
  else
   some false
 else
  E1 r n
 partial_fixpoint
def E1 (r : List A1) (n : A0) : Option (Bool) :=
 B4 r 0 n
 partial_fixpoint
def Ax (r : List A1) (i2 : Int) (n : A0) : Option (Bool) :=
 if (Jw i2 (A8 n.Kids)) then
  getI n.Kids i2 >>= fun x5 =>
  Cj x5 r >>= fun r7 =>
  if r7 then
   Ax r (AY i2 1) n
  else
   some false
 else
  some true
 partial_fixpoint
def B4 (r : List A1) (i1 : Int) (n : A0) : Option (Bool) :=
 if (Jw i1 (A8 n.Attrs)) then
  getI n.Attrs i1 >>= fun x3 =>
  Bn r x3.Pre >>= fun r5 =>
  if (neS x3.Pre (⟨#[]⟩)) then
   if r5.2 then
    if (neS r5.1 x3.Uri) then
     some false
    else
     B4 r (AY i1 1) n
   else
    some false
  else
   B4 r (AY i1 1) n
 else
  Ax r 0 n
 partial_fixpoint
end
def Bz (n : A0) : Option (Bool) :=
 if (Al n.Kind 0) then
  CG n >>= fun r =>
  if r then
   Cj n [] >>= fun r1 =>
   some r1
  else
   some false
 else
  some false
def EJ (r3 : Bool × A2) (nKids1 : List (A0)) : Option (A0 × A2) :=
 Bz (A0.mk 0 (⟨#[]⟩) (⟨#[]⟩) (⟨#[]⟩) [] [] nKids1 (⟨#[]⟩)) >>= fun r4 =>
 if r4 then
  some ((A0.mk 0 (⟨#[]⟩) (⟨#[]⟩) (⟨#[]⟩) [] [] nKids1 (⟨#[]⟩)), r3.2)
 else
  some ((A0.mk 0 (⟨#[]⟩) (⟨#[]⟩) (⟨#[]⟩) [] [] [(A0.mk 1 (⟨#[]⟩) (⟨#[97]⟩) (⟨#[]⟩) [] [] [] (⟨#[]⟩))] (⟨#[]⟩)), r3.2)
def FQ (r1 : Bool × A2) (r : Int × A2) (nKids : List (A0)) : Option (A0 × A2) :=
 EI r1.2 [] (AY 3 r.1) >>= fun r2 =>
 room (nKids.length + 1) 144 >>= fun x_1 =>
 Bd r2.2.1 4 >>= fun r3 =>
 if r3.1 then
  room ((nKids ++ [r2.1]).length + 1) 144 >>= fun x_2 =>
  EJ r3 ((nKids ++ [r2.1]) ++ [(A0.mk 4 (⟨#[]⟩) (⟨#[116]⟩) (⟨#[]⟩) [] [] [] (⟨#[101, 110, 100]⟩))])
 else
  EJ r3 (nKids ++ [r2.1])
def GU (c : A2) : Option (A0 × A2) :=
 Ap c 8 >>= fun r =>
 Bd r.2 4 >>= fun r1 =>
 if r1.1 then
  room 1 144 >>= fun x_ =>
  FQ r1 r ([] ++ [(A0.mk 3 (⟨#[]⟩) (⟨#[]⟩) (⟨#[]⟩) [] [] [] (⟨#[104]⟩))])
 else
  FQ r1 r []
def GV (c : A2) (list : List Int) : Option (Int × A2) :=
 Ap c (A8 list) >>= fun r =>
 getI list r.1 >>= fun x =>
 some (x, r.2)
def OK (c : A2) : Option (ByteArray × A2) :=
 AS c [⟨#[97]⟩, ⟨#[98]⟩, ⟨#[99]⟩, ⟨#[105, 116, 101, 109]⟩, ⟨#[112, 58, 97]⟩, ⟨#[113, 58, 98]⟩, ⟨#[112, 58, 120]⟩, ⟨#[105, 100]⟩] >>= fun r =>
 some (r.1, r.2)
def Nh (c : A2) : Option (ByteArray × A2) :=
 Bd c 2 >>= fun r =>
 if r.1 then
  OK r.2 >>= fun r1 =>
  some (r1.1, r1.2)
 else
  AS r.2 [⟨#[]⟩, ⟨#[195, 169, 116, 195, 169]⟩, ⟨#[45, 97]⟩, ⟨#[97, 45, 98, 46, 99]⟩, ⟨#[49, 97]⟩, ⟨#[97, 49]⟩, ⟨#[97, 58, 98, 58, 99]⟩, ⟨#[58, 97]⟩, ⟨#[97, 58]⟩, ⟨#[97, 32, 98]⟩, ⟨#[115, 105, 120, 116, 101, 101, 110, 108, 101, 116, 116, 101, 114, 115, 95, 120]⟩, ⟨#[115, 101, 118, 101, 110, 116, 101, 101, 110, 108, 101, 116, 116, 101, 114, 115, 120]⟩, ⟨#[112, 58, 115, 105, 120, 116, 101, 101, 110, 108, 101, 116, 116, 101, 114, 115, 95, 120]⟩, ⟨#[255]⟩, ⟨#[95]⟩, ⟨#[97, 204, 128]⟩, ⟨#[204, 128]⟩, ⟨#[97, 47, 98]⟩] >>= fun r2 =>
  some (r2.1, r2.2)
def Ni (c : A2) : Option (List A1 × A2) :=
 IB c >>= fun r =>
 Ap r.2 8 >>= fun r1 =>
 if (Al r1.1 0) then
  AS r1.2 [⟨#[120, 109, 108]⟩, ⟨#[120, 109, 108, 110, 115]⟩, ⟨#[120, 109, 108, 97]⟩, ⟨#[97, 58, 98]⟩, ⟨#[49]⟩, ⟨#[122]⟩, ⟨#[112]⟩] >>= fun r2 =>
  AS r2.2 [⟨#[]⟩, ⟨#[117, 114, 110, 58, 117]⟩, ⟨#[255]⟩] >>= fun r3 =>
  room (r.1.length + 1) 32 >>= fun x_ =>
  some ((r.1 ++ [(A1.mk r2.1 r3.1)]), r3.2)
 else
  if (Al r1.1 1) then
   GP r1.2 >>= fun r4 =>
   GP r4.2 >>= fun r5 =>
   room (r.1.length + 2) 32 >>= fun x_1 =>
   some (((r.1 ++ [r4.1]) ++ [r5.1]), r5.2)
  else
   if (Al r1.1 2) then
    AS r1.2 [⟨#[49, 50, 51, 52, 53, 54, 55, 56, 57, 48, 49, 50, 51, 52, 53, 54, 55, 56, 57, 48, 49, 50, 51, 52, 53, 54, 55, 56, 57, 48, 49, 50, 51, 52, 53, 54, 55, 56, 57, 48]⟩, ⟨#[49, 50, 51, 52, 53, 54, 55, 56, 57, 48, 49, 50, 51, 52, 53, 54, 55, 56, 57, 48, 49, 50, 51, 52, 53, 54, 55, 56, 57, 48, 49, 50, 51, 52, 53, 54, 55, 56, 57, 48, 49]⟩] >>= fun r6 =>
    room (r.1.length + 3) 32 >>= fun x_2 =>
    some ((((r.1 ++ [(A1.mk (⟨#[115]⟩) r6.1)]) ++ [(A1.mk (⟨#[116]⟩) (⟨#[117]⟩))]) ++ [(A1.mk (⟨#[117]⟩) (⟨#[117]⟩))]), r6.2)
   else
    some (r.1, r1.2)
def DO (s2 : ByteArray) (c3 : A2) : Option (ByteArray × A2) :=
 GV c3 [600, 601] >>= fun r8 =>
 if (Jw (AU s2) r8.1) then
  Y1 s2 (⟨#[120]⟩) >>= fun x5 =>
  DO x5 r8.2
 else
  some (s2, r8.2)
 partial_fixpoint
def E2 (s1 : ByteArray) (i : Int) (c2 : A2) : Option (ByteArray × A2) :=
 if (NN i 0) then
  AS c2 [⟨#[97]⟩, ⟨#[98, 32, 99]⟩, ⟨#[32]⟩, ⟨#[10]⟩, ⟨#[195, 169]⟩, ⟨#[226, 130, 172]⟩, ⟨#[240, 159, 152, 128]⟩, ⟨#[60]⟩, ⟨#[38]⟩, ⟨#[62]⟩, ⟨#[34]⟩, ⟨#[39]⟩, ⟨#[93, 93, 62]⟩, ⟨#[45, 45]⟩, ⟨#[9]⟩, ⟨#[13]⟩, ⟨#[0]⟩, ⟨#[255]⟩, ⟨#[192, 128]⟩, ⟨#[239, 191, 190]⟩] >>= fun r5 =>
  Y1 s1 r5.1 >>= fun x3 =>
  E2 x3 (BE i 1) r5.2
 else
  Bd c2 40 >>= fun r6 =>
  if r6.1 then
   DO s1 r6.2
  else
   some (s1, r6.2)
 partial_fixpoint
def ID (c : A2) : Option (ByteArray × A2) :=
 Ap c 4 >>= fun r =>
 E2 (⟨#[]⟩) r.1 r.2
def Ck (k : Int) (i : Int) (c1 : A2) (r : A0 × A2) (nKids : List (A0)) : Option (A0 × A2) :=
 GV c1 [6, 7] >>= fun r16 =>
 if (Jw i r16.1) then
  getI nKids k >>= fun x18 =>
  getI nKids k >>= fun x19 =>
  Ck k (AY i 1) r16.2 r (nKids.set (Int.toNat k) (A0.mk 1 (⟨#[]⟩) (⟨#[100]⟩) (⟨#[]⟩) [] [] [x18] (⟨#[]⟩)))
 else
  some ((A0.mk r.1.Kind r.1.Pre r.1.Local r.1.Uri r.1.Decls r.1.Attrs nKids r.1.Text), r16.2)
 partial_fixpoint
def DC (k : Int) (r : A0 × A2) : Option (A0 × A2) :=
 Ap r.2 24 >>= fun r1 =>
 if (Al r1.1 0) then
  GV r1.2 [(-1), 1, 5] >>= fun r2 =>
  some ((A0.mk r2.1 r.1.Pre r.1.Local r.1.Uri r.1.Decls r.1.Attrs r.1.Kids r.1.Text), r2.2)
 else
  if (Al r1.1 1) then
   AS r1.2 [⟨#[112]⟩, ⟨#[120, 109, 108, 113]⟩, ⟨#[49]⟩] >>= fun r3 =>
   getI r.1.Kids k >>= fun x2 =>
   some ((A0.mk r.1.Kind r.1.Pre r.1.Local r.1.Uri r.1.Decls r.1.Attrs (r.1.Kids.set (Int.toNat k) (A0.mk x2.Kind r3.1 x2.Local x2.Uri x2.Decls x2.Attrs x2.Kids x2.Text)) r.1.Text), r3.2)
  else
   if (Al r1.1 2) then
    Nh r1.2 >>= fun r4 =>
    getI r.1.Kids k >>= fun x3 =>
    some ((A0.mk r.1.Kind r.1.Pre r.1.Local r.1.Uri r.1.Decls r.1.Attrs (r.1.Kids.set (Int.toNat k) (A0.mk x3.Kind x3.Pre r4.1 x3.Uri x3.Decls x3.Attrs x3.Kids x3.Text)) r.1.Text), r4.2)
   else
    if (Al r1.1 3) then
     KW r1.2 >>= fun r5 =>
     getI r.1.Kids k >>= fun x4 =>
     some ((A0.mk r.1.Kind r.1.Pre r.1.Local r.1.Uri r.1.Decls r.1.Attrs (r.1.Kids.set (Int.toNat k) (A0.mk x4.Kind x4.Pre x4.Local r5.1 x4.Decls x4.Attrs x4.Kids x4.Text)) r.1.Text), r5.2)
    else
     if (Al r1.1 4) then
      Ni r1.2 >>= fun r6 =>
      getI r.1.Kids k >>= fun x5 =>
      some ((A0.mk r.1.Kind r.1.Pre r.1.Local r.1.Uri r.1.Decls r.1.Attrs (r.1.Kids.set (Int.toNat k) (A0.mk x5.Kind x5.Pre x5.Local x5.Uri r6.1 x5.Attrs x5.Kids x5.Text)) r.1.Text), r6.2)
     else
      if (Al r1.1 5) then
       getI r.1.Kids k >>= fun x6 =>
       AS r1.2 [⟨#[]⟩, ⟨#[112]⟩] >>= fun r7 =>
       AS r7.2 [⟨#[120, 109, 108, 110, 115]⟩, ⟨#[122]⟩, ⟨#[97, 58, 98]⟩] >>= fun r8 =>
       AS r8.2 [⟨#[]⟩, ⟨#[117, 114, 110, 58, 117]⟩] >>= fun r9 =>
       ID r9.2 >>= fun r10 =>
       room (x6.Attrs.length + 1) 64 >>= fun x_ =>
       getI r.1.Kids k >>= fun x7 =>
       some ((A0.mk r.1.Kind r.1.Pre r.1.Local r.1.Uri r.1.Decls r.1.Attrs (r.1.Kids.set (Int.toNat k) (A0.mk x7.Kind x7.Pre x7.Local x7.Uri x7.Decls (x6.Attrs ++ [(A4.mk r7.1 r8.1 r9.1 r10.1)]) x7.Kids x7.Text)) r.1.Text), r10.2)
      else
       if (Al r1.1 6) then
        getI r.1.Kids k >>= fun x8 =>
        ID r1.2 >>= fun r11 =>
        room (x8.Kids.length + 1) 144 >>= fun x_1 =>
        getI r.1.Kids k >>= fun x9 =>
        some ((A0.mk r.1.Kind r.1.Pre r.1.Local r.1.Uri r.1.Decls r.1.Attrs (r.1.Kids.set (Int.toNat k) (A0.mk x9.Kind x9.Pre x9.Local x9.Uri x9.Decls x9.Attrs (x8.Kids ++ [(A0.mk 2 (⟨#[]⟩) (⟨#[]⟩) (⟨#[]⟩) [] [] [] r11.1)]) x9.Text)) r.1.Text), r11.2)
       else
        if (Al r1.1 7) then
         getI r.1.Kids k >>= fun x10 =>
         AS r1.2 [⟨#[45, 45]⟩, ⟨#[97, 45]⟩, ⟨#[45, 97]⟩, ⟨#[13]⟩] >>= fun r12 =>
         room (x10.Kids.length + 1) 144 >>= fun x_2 =>
         getI r.1.Kids k >>= fun x11 =>
         some ((A0.mk r.1.Kind r.1.Pre r.1.Local r.1.Uri r.1.Decls r.1.Attrs (r.1.Kids.set (Int.toNat k) (A0.mk x11.Kind x11.Pre x11.Local x11.Uri x11.Decls x11.Attrs (x10.Kids ++ [(A0.mk 3 (⟨#[]⟩) (⟨#[]⟩) (⟨#[]⟩) [] [] [] r12.1)]) x11.Text)) r.1.Text), r12.2)
        else
         if (Al r1.1 8) then
          getI r.1.Kids k >>= fun x12 =>
          AS r1.2 [⟨#[120, 109, 108]⟩, ⟨#[88, 109, 76]⟩, ⟨#[120, 109, 108, 120]⟩, ⟨#[]⟩] >>= fun r13 =>
          AS r13.2 [⟨#[32, 97]⟩, ⟨#[63, 62]⟩, ⟨#[97]⟩] >>= fun r14 =>
          room (x12.Kids.length + 1) 144 >>= fun x_3 =>
          getI r.1.Kids k >>= fun x13 =>
          some ((A0.mk r.1.Kind r.1.Pre r.1.Local r.1.Uri r.1.Decls r.1.Attrs (r.1.Kids.set (Int.toNat k) (A0.mk x13.Kind x13.Pre x13.Local x13.Uri x13.Decls x13.Attrs (x12.Kids ++ [(A0.mk 4 (⟨#[]⟩) r13.1 (⟨#[]⟩) [] [] [] r14.1)]) x13.Text)) r.1.Text), r14.2)
         else
          if (Al r1.1 9) then
           getI r.1.Kids k >>= fun x14 =>
           room (r.1.Kids.length + [x14].length) 144 >>= fun x_4 =>
           some ((A0.mk r.1.Kind r.1.Pre r.1.Local r.1.Uri r.1.Decls r.1.Attrs (r.1.Kids ++ [x14]) r.1.Text), r1.2)
          else
           if (Al r1.1 10) then
            room (r.1.Kids.length + 1) 144 >>= fun x_5 =>
            some ((A0.mk r.1.Kind r.1.Pre r.1.Local r.1.Uri r.1.Decls r.1.Attrs (r.1.Kids ++ [(A0.mk 2 (⟨#[]⟩) (⟨#[]⟩) (⟨#[]⟩) [] [] [] (⟨#[32]⟩))]) r.1.Text), r1.2)
           else
            if (Al r1.1 11) then
             slL r.1.Kids 0 k >>= fun x15 =>
             some ((A0.mk r.1.Kind r.1.Pre r.1.Local r.1.Uri r.1.Decls r.1.Attrs x15 r.1.Text), r1.2)
            else
             if (Al r1.1 12) then
              Ck k 0 r1.2 r r.1.Kids
             else
              some (r.1, r1.2)
def CV (k : Int) (r : A0 × A2) : Option (A0 × A2) :=
 if (Jw k (BE (A8 r.1.Kids) 1)) then
  getI r.1.Kids k >>= fun x1 =>
  if (SZ x1.Kind 1) then
   CV (AY k 1) r
  else
   DC k r
 else
  DC k r
 partial_fixpoint
def Fb (c : A2) : Option (A0 × A2) :=
 GU c >>= fun r =>
 CV 0 r
def EK (p : List (Int)) (c2 : A2) : Option (List Int × A2) :=
 Bd c2 8 >>= fun r4 =>
 if r4.1 then
  GV r4.2 [(-1), 0, 7] >>= fun r5 =>
  room (p.length + 1) 8 >>= fun x_2 =>
  some ((p ++ [r5.1]), r5.2)
 else
  some (p, r4.2)
def EL (p : List (Int)) (c1 : A2) (x1 : A0) : Option (List Int × A2) :=
 if (NN (A8 x1.Kids) 0) then
  Bd c1 4 >>= fun r2 =>
  if r2.1 then
   EK p r2.2
  else
   Ap r2.2 (A8 x1.Kids) >>= fun r3 =>
   room (p.length + 1) 8 >>= fun x_1 =>
   getI x1.Kids r3.1 >>= fun x2 =>
   EL (p ++ [r3.1]) r3.2 x2
 else
  EK p c1
 partial_fixpoint
def Gu (c : A2) (n : A0) : Option (List Int × A2) :=
 EL [] c n
def Ll (c : A2) : Option (AJ × A2) :=
 GU c >>= fun r =>
 Bd r.2 10 >>= fun r1 =>
 if r1.1 then
  Fb r1.2 >>= fun r2 =>
  Gu r2.2 r2.1 >>= fun r3 =>
  some ((AJ.mk r2.1 r3.1), r3.2)
 else
  Gu r1.2 r.1 >>= fun r4 =>
  some ((AJ.mk r.1 r4.1), r4.2)
def E3 (path : List Int) (i : Int) (x2 : A0) : Option (A0 × Bool) :=
 if (Jw i (A8 path)) then
  getI path i >>= fun x3 =>
  Cb x3 0 (BE (A8 x2.Kids) 1) >>= fun r2 =>
  if r2 then
   getI x2.Kids x3 >>= fun x4 =>
   E3 path (AY i 1) x4
  else
   some ((A0.mk 0 (⟨#[]⟩) (⟨#[]⟩) (⟨#[]⟩) [] [] [] (⟨#[]⟩)), false)
 else
  CF x2 >>= fun r3 =>
  some (r3, true)
 partial_fixpoint
def EU (n : A0) (path : List Int) : Option (A0 × Bool) :=
 E3 path 0 n
def Cl (l : List (A0)) (i : Int) (c1 : A2) : Option (List A0 × A2) :=
 if (NN i 0) then
  Bd c1 2 >>= fun r4 =>
  if r4.1 then
   AS r4.2 [⟨#[120]⟩, ⟨#[32]⟩, ⟨#[]⟩] >>= fun r5 =>
   room (l.length + 1) 144 >>= fun x_2 =>
   Cl (l ++ [(A0.mk 2 (⟨#[]⟩) (⟨#[]⟩) (⟨#[]⟩) [] [] [] r5.1)]) (BE i 1) r5.2
  else
   EI r4.2 [] 2 >>= fun r6 =>
   room (l.length + 1) 144 >>= fun x_3 =>
   Cl (l ++ [r6.1]) (BE i 1) r6.2.1
 else
  some (l, c1)
 partial_fixpoint
def Jg (c : A2) : Option (List A0 × A2) :=
 Ap c 3 >>= fun r =>
 Cl [] r.1 r.2
def HK (code : List Int) : Option (AJ × A0) :=
 Nd code >>= fun r =>
 Ll r >>= fun r1 =>
 EU r1.1.Tre r1.1.Path >>= fun r2 =>
 Ap r1.2 4 >>= fun r3 =>
 if (Al r3.1 0) then
  AS r3.2 [⟨#[122]⟩, ⟨#[49]⟩, ⟨#[116]⟩] >>= fun r4 =>
  some (r1.1, (A0.mk r2.1.Kind r2.1.Pre r4.1 r2.1.Uri r2.1.Decls r2.1.Attrs r2.1.Kids r2.1.Text))
 else
  if (Al r3.1 1) then
   AS r3.2 [⟨#[122]⟩, ⟨#[45, 45]⟩, ⟨#[0]⟩] >>= fun r5 =>
   Y1 r2.1.Text r5.1 >>= fun x =>
   some (r1.1, (A0.mk r2.1.Kind r2.1.Pre r2.1.Local r2.1.Uri r2.1.Decls r2.1.Attrs r2.1.Kids x))
  else
   if (Al r3.1 2) then
    Jg r3.2 >>= fun r6 =>
    if (NN (A8 r6.1) 0) then
     getI r6.1 0 >>= fun x1 =>
     some (r1.1, x1)
    else
     some (r1.1, r2.1)
   else
    some (r1.1, r2.1)
def EV (s : List (A1)) : Option (List A1) :=
 room s.length 32 >>= fun _ => some s
def EW (s : List (A4)) : Option (List A4) :=
 room s.length 64 >>= fun _ => some s
mutual
def B7 (n : A0) : Option (A0) :=
 EV n.Decls >>= fun r =>
 EW n.Attrs >>= fun r1 =>
 Hk n.Kids >>= fun r2 =>
 some (A0.mk n.Kind n.Pre n.Local n.Uri r r1 r2 n.Text)
 partial_fixpoint
def Hk (l : List A0) : Option (List A0) :=
 E4 [] l 0
 partial_fixpoint
def E4 (out : List (A0)) (l : List A0) (x1 : Int) : Option (List A0) :=
 if (Jw x1 (A8 l)) then
  getI l x1 >>= fun x2 =>
  B7 x2 >>= fun r1 =>
  room (out.length + 1) 144 >>= fun x_1 =>
  E4 (out ++ [r1]) l (AY x1 1)
 else
  some out
 partial_fixpoint
end
def Dp (s : List (Int)) : Option (List Int) :=
 room s.length 8 >>= fun _ => some s
def E5 (w : AJ) : Option (AJ) :=
 B7 w.Tre >>= fun r =>
 Dp w.Path >>= fun r1 =>
 some (AJ.mk r r1)
def Hl (n : Int) (lo : Int) (hi : Int) : Option (Bool) :=
 if (geI n lo) then
  some (SR n hi)
 else
  some false
def E6 (path : List Int) (x2 : Int) (n1 : A0) : Option (A0 × Bool) :=
 if (Jw x2 (A8 path)) then
  getI path x2 >>= fun x3 =>
  Hl x3 0 (BE (A8 n1.Kids) 1) >>= fun r2 =>
  if r2 then
   getI n1.Kids x3 >>= fun x4 =>
   E6 path (AY x2 1) x4
  else
   some ((A0.mk 0 (⟨#[]⟩) (⟨#[]⟩) (⟨#[]⟩) [] [] [] (⟨#[]⟩)), false)
 else
  B7 n1 >>= fun r3 =>
  some (r3, true)
 partial_fixpoint
def GW (n : A0) (path : List Int) : Option (A0 × Bool) :=
 E6 path 0 n
mutual
def DB (n : A0) : Option (Int) :=
 C9 (AY 1 (A8 n.Attrs)) n 0
 partial_fixpoint
def C9 (out : Int) (n : A0) (x1 : Int) : Option (Int) :=
 if (Jw x1 (A8 n.Kids)) then
  getI n.Kids x1 >>= fun x2 =>
  DB x2 >>= fun r1 =>
  C9 (AY out r1) n (AY x1 1)
 else
  some out
 partial_fixpoint
end
def Cr (s : ByteArray) : Option (Int × Int) :=
 some (Yx s)
def IE (s : ByteArray) (at1 : Int) : Option (Int × Int × Bool) :=
 Hl at1 0 (BE (AU s) 1) >>= fun r =>
 if r then
  Q2 s at1 (AU s) >>= fun x =>
  Cr x >>= fun r1 =>
  if (Al r1.1 65533) then
   if (SR r1.2 1) then
    some (0, 0, false)
   else
    some ((wr .i64 r1.1), (AY at1 r1.2), true)
  else
   some ((wr .i64 r1.1), (AY at1 r1.2), true)
 else
  some (0, 0, false)
def NB (r : A7) (a1 : Int) : Option (Bool × Int) :=
 Hl a1 r.xa0 r.xa1 >>= fun r1 =>
 some (r1, a1)
def AM (s : List A7) (x1 : Int) (f : Int) : Option (Int × Int) :=
 if (Jw x1 (A8 s)) then
  getI s x1 >>= fun x2 =>
  NB x2 f >>= fun r1 =>
  if r1.1 then
   some (x1, r1.2)
  else
   AM s (AY x1 1) r1.2
 else
  some ((-1), f)
 partial_fixpoint
def Bq (s : List A7) (fc0 : Int) : Option (Int × Int) :=
 AM s 0 fc0
def BJ (s : List A7) (fc0 : Int) : Option (Bool × Int) :=
 Bq s fc0 >>= fun r =>
 some ((geI r.1 0), r.2)
def Hw (n : Int) (ranges : List A7) : Option (Bool) :=
 BJ ranges n >>= fun r =>
 some r.1
def Lm (n : Int) : Option (Bool) :=
 Hw n [(A7.mk 9 10), (A7.mk 13 13), (A7.mk 32 55295), (A7.mk 57344 65533), (A7.mk 65536 1114111)] >>= fun r =>
 some r
def Cm (s : ByteArray) (at1 : Int) : Option (Bool) :=
 if (Jw at1 (AU s)) then
  IE s at1 >>= fun r2 =>
  if r2.2.2 then
   Lm r2.1 >>= fun r3 =>
   if r3 then
    Cm s r2.2.1
   else
    some false
  else
   some false
 else
  some true
 partial_fixpoint
def Jh (s : ByteArray) : Option (Bool) :=
 Cm s 0
def Dh (s : ByteArray) : Option (Bool) :=
 if (SR (AU s) 600) then
  Jh s >>= fun r =>
  some r
 else
  some false
def strings_Contains (s : ByteArray) (t : ByteArray) : Option (Bool) :=
 if s.size < 4294967281 then some (FF s t) else none
def Bt (s : ByteArray) (suffix : ByteArray) : Option (Bool) :=
 if (geI (AU s) (AU suffix)) then
  Q2 s (BE (AU s) (AU suffix)) (AU s) >>= fun x =>
  some (Cu x suffix)
 else
  some false
def EX (s : ByteArray) (suffix : ByteArray) : Option (Bool) :=
 Bt s suffix >>= fun r =>
 some r
def OL (s : ByteArray) : Option (Bool) :=
 Dh s >>= fun r =>
 if r then
  strings_Contains s (⟨#[45, 45]⟩) >>= fun r1 =>
  if r1 then
   some false
  else
   EX s (⟨#[45]⟩) >>= fun r2 =>
   if r2 then
    some false
   else
    strings_Contains s (⟨#[13]⟩) >>= fun r3 =>
    some (!r3)
 else
  some false
def Gv (n : Int) : Option (Bool) :=
 Hw n [(A7.mk 65 90), (A7.mk 95 95), (A7.mk 97 122), (A7.mk 192 214), (A7.mk 216 246), (A7.mk 248 767), (A7.mk 880 893), (A7.mk 895 8191), (A7.mk 8204 8205), (A7.mk 8304 8591), (A7.mk 11264 12271), (A7.mk 12289 55295), (A7.mk 63744 64975), (A7.mk 65008 65533), (A7.mk 65536 983039)] >>= fun r =>
 some r
def IF (n : Int) : Option (Bool) :=
 Gv n >>= fun r =>
 if r then
  some true
 else
  Hw n [(A7.mk 45 46), (A7.mk 48 57), (A7.mk 183 183), (A7.mk 768 879), (A7.mk 8255 8256)] >>= fun r1 =>
  some r1
def CA (s : ByteArray) (at1 : Int) : Option (Bool) :=
 if (Jw at1 (AU s)) then
  IE s at1 >>= fun r5 =>
  if r5.2.2 then
   if (Al at1 0) then
    Gv r5.1 >>= fun r6 =>
    if r6 then
     IF r5.1 >>= fun r7 =>
     if r7 then
      CA s r5.2.1
     else
      some false
    else
     some false
   else
    IF r5.1 >>= fun r8 =>
    if r8 then
     CA s r5.2.1
    else
     some false
  else
   some false
 else
  Hl (AU s) 1 16 >>= fun r9 =>
  some r9
 partial_fixpoint
def EY (s : ByteArray) : Option (Bool) :=
 CA s 0
def strings_EqualFold (s : ByteArray) (t : ByteArray) : Option (Bool) :=
 if s.size < 4294967281 ∧ zv t = true then some (Sx s t) else none
def Gw (n : Int) : Option (Bool) :=
 if (Al n 9) then
  some true
 else
  if (Al n 10) then
   some true
  else
   if (Al n 13) then
    some true
   else
    some (Al n 32)
def OM (local1 : ByteArray) (s : ByteArray) : Option (Bool) :=
 EY local1 >>= fun r =>
 if r then
  strings_EqualFold local1 (⟨#[120, 109, 108]⟩) >>= fun r1 =>
  if r1 then
   some false
  else
   Dh s >>= fun r2 =>
   if r2 then
    strings_Contains s (⟨#[63, 62]⟩) >>= fun r3 =>
    if r3 then
     some false
    else
     strings_Contains s (⟨#[13]⟩) >>= fun r4 =>
     if r4 then
      some false
     else
      if (Cu s (⟨#[]⟩)) then
       some true
      else
       Q1 s 0 >>= fun x =>
       Gw (wr .i64 x) >>= fun r5 =>
       some (!r5)
   else
    some false
 else
  some false
def E7 (n : A0) : Option (Bool) :=
 if (Al n.Kind 2) then
  if (neS n.Text (⟨#[]⟩)) then
   Dh n.Text >>= fun r =>
   some r
  else
   some false
 else
  if (Al n.Kind 3) then
   OL n.Text >>= fun r1 =>
   some r1
  else
   if (Al n.Kind 4) then
    OM n.Local n.Text >>= fun r2 =>
    some r2
   else
    some false
def Di (n : A0) : Option (Bool) :=
 if (neS n.Pre (⟨#[]⟩)) then
  some false
 else
  if (neS n.Uri (⟨#[]⟩)) then
   some false
  else
   if (NN (A8 n.Decls) 0) then
    some false
   else
    if (NN (A8 n.Attrs) 0) then
     some false
    else
     if (NN (A8 n.Kids) 0) then
      some false
     else
      if (neS n.Local (⟨#[]⟩)) then
       if (SZ n.Kind 4) then
        some false
       else
        E7 n
      else
       E7 n
def Bu (s : ByteArray) (prefix1 : ByteArray) : Option (Bool) :=
 if (geI (AU s) (AU prefix1)) then
  Q2 s 0 (AU prefix1) >>= fun x =>
  some (Cu x prefix1)
 else
  some false
def EZ (s : ByteArray) (prefix1 : ByteArray) : Option (Bool) :=
 Bu s prefix1 >>= fun r =>
 some r
def GX (s : ByteArray) : Option (Bool) :=
 if (Cu s (⟨#[]⟩)) then
  some true
 else
  EY s >>= fun r =>
  if r then
   EZ s (⟨#[120, 109, 108]⟩) >>= fun r1 =>
   some (!r1)
  else
   some false
def Hy (uri : ByteArray) (pre : ByteArray) : Option (Bool) :=
 Dh uri >>= fun r =>
 if r then
  if (SR (AU uri) 40) then
   if (neS uri (⟨#[]⟩)) then
    some true
   else
    some (Cu pre (⟨#[]⟩))
  else
   some false
 else
  some false
def Ln (d : A1) : Option (Bool) :=
 GX d.Pre >>= fun r =>
 if r then
  Hy d.Uri d.Pre >>= fun r1 =>
  some r1
 else
  some false
def Cn (l : List A1) (x2 : Int) : Option (Bool) :=
 if (Jw x2 (A8 l)) then
  getI l x2 >>= fun x3 =>
  Ln x3 >>= fun r1 =>
  if r1 then
   if (NN x2 0) then
    getI l (BE x2 1) >>= fun x4 =>
    if (geS x4.Pre x3.Pre) then
     some false
    else
     Cn l (AY x2 1)
   else
    Cn l (AY x2 1)
  else
   some false
 else
  some (SR (A8 l) 4)
 partial_fixpoint
def NC (l : List A1) : Option (Bool) :=
 Cn l 0
def GY (a : A4) : Option (Bool) :=
 GX a.Pre >>= fun r =>
 if r then
  if (neB (Cu a.Pre (⟨#[]⟩)) (Cu a.Uri (⟨#[]⟩))) then
   some false
  else
   Hy a.Uri a.Pre >>= fun r1 =>
   if r1 then
    EY a.Local >>= fun r2 =>
    if r2 then
     Dh a.Val >>= fun r3 =>
     if r3 then
      if (neS a.Pre (⟨#[]⟩)) then
       some true
      else
       some (neS a.Local (⟨#[120, 109, 108, 110, 115]⟩))
     else
      some false
    else
     some false
   else
    some false
 else
  some false
def strings_Compare (s : ByteArray) (t : ByteArray) : Option (Int) :=
 some (Lh s t)
def Ea (a : A4) (b : A4) : Option (Int) :=
 strings_Compare a.Uri b.Uri >>= fun r =>
 if (SZ r 0) then
  some r
 else
  strings_Compare a.Local b.Local >>= fun r1 =>
  some r1
def Co (l : List A4) (x2 : Int) : Option (Bool) :=
 if (Jw x2 (A8 l)) then
  getI l x2 >>= fun x3 =>
  GY x3 >>= fun r2 =>
  if r2 then
   if (NN x2 0) then
    getI l (BE x2 1) >>= fun x4 =>
    Ea x4 x3 >>= fun r3 =>
    if (geI r3 0) then
     some false
    else
     Co l (AY x2 1)
   else
    Co l (AY x2 1)
  else
   some false
 else
  some (SR (A8 l) 5)
 partial_fixpoint
def Ji (l : List A4) : Option (Bool) :=
 Co l 0
def BC (l : List A0) (x2 : Int) : Option (Bool) :=
 if (Jw x2 (A8 l)) then
  getI l x2 >>= fun x3 =>
  if (NN x2 0) then
   if (Al x3.Kind 2) then
    getI l (BE x2 1) >>= fun x4 =>
    if (Al x4.Kind 2) then
     some false
    else
     BC l (AY x2 1)
   else
    BC l (AY x2 1)
  else
   BC l (AY x2 1)
 else
  some true
 partial_fixpoint
def Fs (l : List A0) : Option (Bool) :=
 BC l 0
mutual
def Dj (n : A0) (deep : Int) : Option (Bool) :=
 Fs n.Kids >>= fun r =>
 if r then
  BK n.Kids deep >>= fun r1 =>
  some (!r1.1)
 else
  some false
 partial_fixpoint
def LR (k : A0) (a1 : Int) : Option (Bool × Int) :=
 AW k a1 >>= fun r =>
 some ((!r), a1)
 partial_fixpoint
def AW (n : A0) (deep : Int) : Option (Bool) :=
 if (SZ n.Kind 1) then
  Di n >>= fun r =>
  some r
 else
  if (geI deep 7) then
   some false
  else
   if (neS n.Text (⟨#[]⟩)) then
    some false
   else
    GX n.Pre >>= fun r1 =>
    if r1 then
     Hy n.Uri n.Pre >>= fun r2 =>
     if r2 then
      EY n.Local >>= fun r3 =>
      if r3 then
       NC n.Decls >>= fun r4 =>
       if r4 then
        Ji n.Attrs >>= fun r5 =>
        if r5 then
         Dj n (AY deep 1) >>= fun r6 =>
         some r6
        else
         some false
       else
        some false
      else
       some false
     else
      some false
    else
     some false
 partial_fixpoint
def BK (s : List A0) (fc0 : Int) : Option (Bool × Int) :=
 Bv s fc0 >>= fun r =>
 some ((geI r.1 0), r.2)
 partial_fixpoint
def Bv (s : List A0) (fc0 : Int) : Option (Int × Int) :=
 AT s 0 fc0
 partial_fixpoint
def AT (s : List A0) (x1 : Int) (f : Int) : Option (Int × Int) :=
 if (Jw x1 (A8 s)) then
  getI s x1 >>= fun x2 =>
  LR x2 f >>= fun r1 =>
  if r1.1 then
   some (x1, r1.2)
  else
   AT s (AY x1 1) r1.2
 else
  some ((-1), f)
 partial_fixpoint
end
def DD (kind : Int) (n : Int) (l : List A0) (x1 : Int) : Option (Int) :=
 if (Jw x1 (A8 l)) then
  getI l x1 >>= fun x2 =>
  if (Al x2.Kind kind) then
   DD kind (AY n 1) l (AY x1 1)
  else
   DD kind n l (AY x1 1)
 else
  some n
 partial_fixpoint
def IG (l : List A0) (kind : Int) : Option (Int) :=
 DD kind 0 l 0
def Bm (bare : Bool) (n : A0) : Option (Bool) :=
 if bare then
  IG n.Kids 1 >>= fun r2 =>
  if (Al r2 1) then
   IG n.Kids 2 >>= fun r3 =>
   if (Al r3 0) then
    Dj n 0 >>= fun r4 =>
    some r4
   else
    some false
  else
   some false
 else
  some false
def Dk (n : A0) : Option (Bool) :=
 DB n >>= fun r =>
 if (NN r 60) then
  some false
 else
  if (SZ n.Kind 0) then
   AW n 0 >>= fun r1 =>
   some r1
  else
   if (Cu n.Pre (⟨#[]⟩)) then
    if (Cu n.Local (⟨#[]⟩)) then
     if (Cu n.Uri (⟨#[]⟩)) then
      if (Cu n.Text (⟨#[]⟩)) then
       if (Al (A8 n.Decls) 0) then
        Bm (Al (A8 n.Attrs) 0) n
       else
        Bm false n
      else
       Bm false n
     else
      Bm false n
    else
     Bm false n
   else
    Bm false n
def ON (n : A0) (l : List (A1)) : Option (Bool) :=
 Lj ((A0.row false) n) (l.map fun x => (x.Pre, x.Uri))
def IH (n : A0) : Option (Bool) :=
 if (Al n.Kind 0) then
  Dk n >>= fun r =>
  if r then
   ON n [] >>= fun r1 =>
   some r1
  else
   some false
 else
  some false
def Cp (w : AJ) : Option (Bool) :=
 GW w.Tre w.Path >>= fun r =>
 if r.2 then
  IH w.Tre >>= fun r1 =>
  some r1
 else
  some false
def D5 (w : AJ) : Option (A0) :=
 Cp w >>= fun r =>
 if r then
  GW w.Tre w.Path >>= fun r1 =>
  some r1.1
 else
  some (A0.mk 0 (⟨#[]⟩) (⟨#[]⟩) (⟨#[]⟩) [] [] [] (⟨#[]⟩))
def Fk (s : List (List (A0))) : Option (List A0) :=
 match s with | [l, m, q] => if (l.length + m.length + q.length) * 144 ≤ 140737488351232 ∧ l.length + m.length + q.length ≤ 1000000000000 then some (l ++ m ++ q) else none | _ => none
mutual
def FR (out : List (A0)) (l : List A0) (x7 : Int) (x9 : Bool) (x8 : A0) : Option (List A0) :=
 if x9 then
  C4 out l (AY x7 1)
 else
  if (Al x8.Kind 2) then
   if (NN (A8 out) 0) then
    getI out (BE (A8 out) 1) >>= fun x10 =>
    E8 out l x7 (Al x10.Kind 2) x8
   else
    E8 out l x7 false x8
  else
   E8 out l x7 false x8
 partial_fixpoint
def E8 (out : List (A0)) (l : List A0) (x7 : Int) (x11 : Bool) (x8 : A0) : Option (List A0) :=
 if x11 then
  getI out (BE (A8 out) 1) >>= fun x12 =>
  Y1 x12.Text x8.Text >>= fun x13 =>
  getI out (BE (A8 out) 1) >>= fun x14 =>
  C4 (out.set (Int.toNat (BE (A8 out) 1)) (A0.mk x14.Kind x14.Pre x14.Local x14.Uri x14.Decls x14.Attrs x14.Kids x13)) l (AY x7 1)
 else
  B7 x8 >>= fun r1 =>
  room (out.length + 1) 144 >>= fun x_1 =>
  C4 (out ++ [r1]) l (AY x7 1)
 partial_fixpoint
def C4 (out : List (A0)) (l : List A0) (x7 : Int) : Option (List A0) :=
 if (Jw x7 (A8 l)) then
  getI l x7 >>= fun x8 =>
  if (Al x8.Kind 2) then
   FR out l x7 (Cu x8.Text (⟨#[]⟩)) x8
  else
   FR out l x7 false x8
 else
  some out
 partial_fixpoint
end
def Nj (l : List A0) : Option (List A0) :=
 C4 [] l 0
def ND (l : List A0) (from1 : Int) (to1 : Int) (more : List A0) : Option (List A0) :=
 slL l 0 from1 >>= fun x =>
 slL l to1 (A8 l) >>= fun x1 =>
 Fk [x, more, x1] >>= fun r =>
 Nj r >>= fun r1 =>
 some r1
def Gx (a0 : A0) (a1 : Int) (a2 : List A0) : Option (A0) :=
 ND a0.Kids a1 (AY a1 1) a2 >>= fun r =>
 some (A0.mk a0.Kind a0.Pre a0.Local a0.Uri a0.Decls a0.Attrs r a0.Text)
def BO (n : A0) (path : List Int) (turnc0 : Int) (turnc1 : List A0) : Option (A0) :=
 B7 n >>= fun r =>
 if (Al (A8 path) 0) then
  Gx r turnc0 turnc1 >>= fun r1 =>
  some r1
 else
  getI path 0 >>= fun x =>
  getI r.Kids x >>= fun x1 =>
  slL path 1 (A8 path) >>= fun x2 =>
  BO x1 x2 turnc0 turnc1 >>= fun r2 =>
  getI r.Kids x >>= fun x3 =>
  some (A0.mk r.Kind r.Pre r.Local r.Uri r.Decls r.Attrs (r.Kids.set (Int.toNat x) r2) r.Text)
 partial_fixpoint
def Hz (n : A0) (path : List Int) (l : List A0) : Option (A0 × Bool) :=
 GW n path >>= fun r =>
 if r.2 then
  if (Al (A8 path) 0) then
   B7 n >>= fun r1 =>
   some (r1, false)
  else
   getI path (BE (A8 path) 1) >>= fun x =>
   slL path 0 (BE (A8 path) 1) >>= fun x1 =>
   BO n x1 x l >>= fun r2 =>
   some (r2, true)
 else
  B7 n >>= fun r3 =>
  some (r3, false)
def FS (w : AJ) (n : A0) : Option (AJ × Bool) :=
 E5 w >>= fun r =>
 Cp w >>= fun r1 =>
 if r1 then
  if (Al (A8 w.Path) 0) then
   some (r, false)
  else
   D5 w >>= fun r2 =>
   if (SZ n.Kind r2.Kind) then
    some (r, false)
   else
    Dk n >>= fun r3 =>
    if r3 then
     Hz w.Tre w.Path [n] >>= fun r4 =>
     IH r4.1 >>= fun r5 =>
     if r5 then
      some ((AJ.mk r4.1 r.Path), true)
     else
      some (r, false)
    else
     some (r, false)
 else
  some (r, false)
def Jj (w : AJ) : Option (AJ) :=
 CF w.Tre >>= fun r =>
 room (0 + w.Path.length) 8 >>= fun x_ =>
 some (AJ.mk r ([] ++ w.Path))
def II (w : AJ) : Option (Bool) :=
 EU w.Tre w.Path >>= fun r =>
 if r.2 then
  Bz w.Tre >>= fun r1 =>
  some r1
 else
  some false
def PW (w : AJ) : Option (A0) :=
 EU w.Tre w.Path >>= fun r =>
 II w >>= fun r1 =>
 if r1 then
  some r.1
 else
  some (A0.mk 0 (⟨#[]⟩) (⟨#[]⟩) (⟨#[]⟩) [] [] [] (⟨#[]⟩))
def Fl (n : A0) (path : List Int) (from1 : Int) (to1 : Int) (l : List A0) : Option (A0) :=
 if (Al (A8 path) 0) then
  slL n.Kids 0 from1 >>= fun x =>
  room (0 + x.length) 144 >>= fun x_ =>
  room ((0 + x.length) + l.length) 144 >>= fun x_1 =>
  slL n.Kids to1 (A8 n.Kids) >>= fun x1 =>
  room (((0 + x.length) + l.length) + x1.length) 144 >>= fun x_2 =>
  Fj ((([] ++ x) ++ l) ++ x1) >>= fun r =>
  some (A0.mk n.Kind n.Pre n.Local n.Uri n.Decls n.Attrs r n.Text)
 else
  room (0 + n.Kids.length) 144 >>= fun x_3 =>
  getI path 0 >>= fun x2 =>
  getI n.Kids x2 >>= fun x3 =>
  slL path 1 (A8 path) >>= fun x4 =>
  Fl x3 x4 from1 to1 l >>= fun r1 =>
  getI ([] ++ n.Kids) x2 >>= fun x5 =>
  some (A0.mk n.Kind n.Pre n.Local n.Uri n.Decls n.Attrs (([] ++ n.Kids).set (Int.toNat x2) r1) n.Text)
 partial_fixpoint
def I1 (n : A0) (path : List Int) (l : List A0) : Option (A0 × Bool) :=
 if (Al (A8 path) 0) then
  CF n >>= fun r =>
  some (r, false)
 else
  EU n path >>= fun r1 =>
  if r1.2 then
   getI path (BE (A8 path) 1) >>= fun x =>
   slL path 0 (BE (A8 path) 1) >>= fun x1 =>
   Fl n x1 x (AY x 1) l >>= fun r3 =>
   CF r3 >>= fun r4 =>
   some (r4, true)
  else
   CF n >>= fun r2 =>
   some (r2, false)
def PX (w : AJ) (n : A0) : Option (AJ × Bool) :=
 Jj w >>= fun r =>
 II w >>= fun r1 =>
 if r1 then
  if (Al (A8 w.Path) 0) then
   some (r, false)
  else
   PW w >>= fun r2 =>
   if (SZ r2.Kind n.Kind) then
    some (r, false)
   else
    CG n >>= fun r3 =>
    if r3 then
     I1 w.Tre w.Path [n] >>= fun r4 =>
     Bz r4.1 >>= fun r5 =>
     if r5 then
      some ((AJ.mk r4.1 r.Path), true)
     else
      some (r, false)
    else
     some (r, false)
 else
  some (r, false)
def Aq (s1 : List A1) (s2 : List A1) (x2 : Int) : Option (Bool) :=
 if (Jw x2 (A8 s1)) then
  getI s1 x2 >>= fun x3 =>
  getI s2 x2 >>= fun x4 =>
  if (Cu x3.Pre x4.Pre && Cu x3.Uri x4.Uri) then
   Aq s1 s2 (AY x2 1)
  else
   some false
 else
  some true
 partial_fixpoint
def Eb (s1 : List A1) (s2 : List A1) : Option (Bool) :=
 if (SZ (A8 s1) (A8 s2)) then
  some false
 else
  Aq s1 s2 0
def Ar (s1 : List A4) (s2 : List A4) (x2 : Int) : Option (Bool) :=
 if (Jw x2 (A8 s1)) then
  getI s1 x2 >>= fun x3 =>
  getI s2 x2 >>= fun x4 =>
  if (Cu x3.Pre x4.Pre && (Cu x3.Local x4.Local && (Cu x3.Uri x4.Uri && Cu x3.Val x4.Val))) then
   Ar s1 s2 (AY x2 1)
  else
   some false
 else
  some true
 partial_fixpoint
def Ec (s1 : List A4) (s2 : List A4) : Option (Bool) :=
 if (SZ (A8 s1) (A8 s2)) then
  some false
 else
  Ar s1 s2 0
def GZ (a : A0) (b : A0) : Option (Bool) :=
 if (Al a.Kind b.Kind) then
  if (Cu a.Pre b.Pre) then
   if (Cu a.Local b.Local) then
    if (Cu a.Uri b.Uri) then
     if (Cu a.Text b.Text) then
      Eb a.Decls b.Decls >>= fun r =>
      if r then
       Ec a.Attrs b.Attrs >>= fun r1 =>
       some r1
      else
       some false
     else
      some false
    else
     some false
   else
    some false
  else
   some false
 else
  some false
mutual
def Dl (a : A0) (b : A0) : Option (Bool) :=
 GZ a b >>= fun r =>
 if r then
  B8 a.Kids b.Kids >>= fun r1 =>
  some r1
 else
  some false
 partial_fixpoint
def B8 (s1 : List A0) (s2 : List A0) : Option (Bool) :=
 if (SZ (A8 s1) (A8 s2)) then
  some false
 else
  AL s2 s1 0
 partial_fixpoint
def AL (s2 : List A0) (s1 : List A0) (x2 : Int) : Option (Bool) :=
 if (Jw x2 (A8 s1)) then
  getI s1 x2 >>= fun x3 =>
  getI s2 x2 >>= fun x4 =>
  Dl x3 x4 >>= fun r1 =>
  if r1 then
   AL s2 s1 (AY x2 1)
  else
   some false
 else
  some true
 partial_fixpoint
end
def CW (a : List Int) (b : List Int) (i : Int) : Option (Bool) :=
 if (Jw i (A8 a)) then
  getI a i >>= fun x2 =>
  getI b i >>= fun x3 =>
  if (SZ x2 x3) then
   some false
  else
   CW a b (AY i 1)
 else
  some true
 partial_fixpoint
def HL (a : List Int) (b : List Int) : Option (Bool) :=
 if (SZ (A8 a) (A8 b)) then
  some false
 else
  CW a b 0
def En (a : AJ) (b : AJ) : Option (Bool) :=
 Dl a.Tre b.Tre >>= fun r =>
 if r then
  HL a.Path b.Path >>= fun r1 =>
  some r1
 else
  some false
def NE (code : List Int) : Option (Bool) :=
 VC code >>= fun r =>
 if r then
  some true
 else
  HK code >>= fun r1 =>
  FS r1.1 r1.2 >>= fun r2 =>
  PX r1.1 r1.2 >>= fun r3 =>
  if (neB r2.2 r3.2) then
   some false
  else
   En r2.1 r3.1 >>= fun r4 =>
   if r4 then
    if r2.2 then
     D5 r1.1 >>= fun r6 =>
     FS r2.1 r6 >>= fun r7 =>
     Cp r2.1 >>= fun r8 =>
     if r8 then
      D5 r2.1 >>= fun r9 =>
      Dl r9 r1.2 >>= fun r10 =>
      if r10 then
       if r7.2 then
        En r7.1 r1.1 >>= fun r11 =>
        some r11
       else
        some false
      else
       some false
     else
      some false
    else
     En r2.1 r1.1 >>= fun r5 =>
     some r5
   else
    some false
end TT
