import Derived.Test.YtpmnlfgdicmiiaaGreatDoorTTypes
set_option maxHeartbeats 2000000
set_option linter.unusedVariables false
set_option linter.unusedSimpArgs false
set_option linter.defProp false
set_option maxRecDepth 100000
set_option synthInstance.maxHeartbeats 4000000
set_option synthInstance.maxSize 100000
namespace TT
open Go
def YI (code:List Int):Option (Bool):=
 some (SH (AD code) 1048576)
def GN (code:List Int) (h:Int) (i:Int):Option (A5):=
 if(HC i (AD code))then
  if(HC i 4000)then
   getI code i>>=fun x1=>
   GN code (U2 .i64 (AV (AV (Y1 h 137) (wr .i64 x1)) 11) 1073741823) (AV i 1)
  else
   some (A5.mk code 0 h)
 else
  some (A5.mk code 0 h)
 partial_fixpoint
def Qh (code:List Int):Option (A5):=
 GN code (AV 129371 (AD code)) 0
def HD (c:A5):Option (Int×A5):=
 fw .i64 (AV (Y1 c.xh 6364136223846793005) 1442695040888963407) 33>>=fun x=>
 fw .i64 (AV (Y1 c.xh 6364136223846793005) 1442695040888963407) 47>>=fun x1=>
 if(HC c.xi (AD c.xb))then
  getI c.xb c.xi>>=fun x2=>
  some ((U2 .i64 (AV (U2 .i64 (A0z .i64 x x1) 255) (wr .i64 x2)) 255),(A5.mk c.xb (AV c.xi 1) (AV (Y1 c.xh 6364136223846793005) 1442695040888963407)))
 else
  some ((U2 .i64 (A0z .i64 x x1) 255),(A5.mk c.xb c.xi (AV (Y1 c.xh 6364136223846793005) 1442695040888963407)))
def DT (c:A5) (n:Int):Option (Int×A5):=
 if(U1 n 0)then
  some (0,c)
 else
  if(U1 n 256)then
   HD c>>=fun r=>
   qS r.1 n>>=fun x=>
   some (x,r.2)
  else
   HD c>>=fun r1=>
   HD r1.2>>=fun r2=>
   HD r2.2>>=fun r3=>
   qS (AV (AV (Y1 r1.1 65536) (Y1 r2.1 256)) r3.1) n>>=fun x1=>
   some (x1,r3.2)
def Fx (c:A5) (n:Int):Option (Bool×A5):=
 DT c n>>=fun r=>
 some ((Af r.1 0),r.2)
def DU (c:A5) (list:List ByteArray):Option (ByteArray×A5):=
 DT c (AD list)>>=fun r=>
 getI list r.1>>=fun x=>
 some (x,r.2)
def Qi (c:A5):Option (ByteArray×A5):=
 DU c [⟨#[117,114,110,58,117]⟩,⟨#[117,114,110,58,118]⟩,⟨#[117,114,110,58,119]⟩]>>=fun r=>
 some (r.1,r.2)
def OU (c:A5):Option (A1×A5):=
 DU c [⟨#[]⟩,⟨#[112]⟩,⟨#[113]⟩,⟨#[114]⟩]>>=fun r=>
 Qi r.2>>=fun r1=>
 if(D5 r.1 (⟨#[]⟩))then
  Fx r1.2 3>>=fun r2=>
  if r2.1 then
   some ((A1.mk r.1 (⟨#[]⟩)),r2.2)
  else
   some ((A1.mk r.1 r1.1),r2.2)
 else
  some ((A1.mk r.1 r1.1),r1.2)
def CO (l:List (A1)) (i:Int) (c1:A5):Option (List A1×A5):=
 if(SH i 0)then
  OU c1>>=fun r2=>
  if(Af (AD l) 0)then
   room (l.length+1) 32>>=fun x_2=>
   CO (l++[r2.1]) (CH i 1) r2.2
  else
   getI l (CH (AD l) 1)>>=fun x1=>
   if(ltS x1.Pre r2.1.Pre)then
    room (l.length+1) 32>>=fun x_3=>
    CO (l++[r2.1]) (CH i 1) r2.2
   else
    CO l (CH i 1) r2.2
 else
  some (l,c1)
 partial_fixpoint
def OV (c:A5):Option (List A1×A5):=
 DT c 4>>=fun r=>
 CO [] r.1 r.2
def EY (l:List A1) (more:List A1):Option (List A1):=
 room (0+l.length) 32>>=fun x_=>
 room ((0+l.length)+more.length) 32>>=fun x_1=>
 some (([]++l)++more)
def BS (l:List A1) (pre:ByteArray) (i:Int):Option (ByteArray×Bool):=
 if(UV i 0)then
  getI l i>>=fun x1=>
  if(D5 x1.Pre pre)then
   some (x1.Uri,true)
  else
   BS l pre (CH i 1)
 else
  some (⟨#[]⟩,(D5 pre (⟨#[]⟩)))
 partial_fixpoint
def BP (l:List A1) (pre:ByteArray):Option (ByteArray×Bool):=
 BS l pre (CH (AD l) 1)
def Qj (c:A5):Option (ByteArray×A5):=
 DU c [⟨#[]⟩,⟨#[49]⟩,⟨#[50]⟩,⟨#[120,32,121]⟩,⟨#[195,169]⟩,⟨#[60,38,62,34]⟩,⟨#[97,10,98]⟩,⟨#[9]⟩]>>=fun r=>
 some (r.1,r.2)
def HE (a:A3) (b:A3):Option (Bool):=
 if(ltS a.Uri b.Uri)then
  some true
 else
  if(D5 a.Uri b.Uri)then
   some (ltS a.Local b.Local)
  else
   some false
mutual
def Qk (l:List A0):Option (List A0):=
 Jd l [] 0
 partial_fixpoint
def Jd (l:List A0) (out:List (A0)) (i:Int):Option (List A0):=
 if(HC i (AD l))then
  getI l i>>=fun x1=>
  HF x1>>=fun r1=>
  room (out.length+1) 144>>=fun x_1=>
  Jd l (out++[r1]) (AV i 1)
 else
  some out
 partial_fixpoint
def HF (n:A0):Option (A0):=
 room (0+n.Decls.length) 32>>=fun x_=>
 room (0+n.Attrs.length) 64>>=fun x_1=>
 Qk n.Kids>>=fun r=>
 some (A0.mk n.Kind n.Pre n.Local n.Uri ([]++n.Decls) ([]++n.Attrs) r n.Text)
 partial_fixpoint
end
mutual
def FM (l:List A0) (out:List (A0)) (i:Int) (x8:Bool) (x6:A0):Option (List A0):=
 if x8 then
  getI out (CH (AD out) 1)>>=fun x9=>
  nT x9.Text x6.Text>>=fun x10=>
  getI out (CH (AD out) 1)>>=fun x11=>
  CQ l (out.set (Int.toNat (CH (AD out) 1)) (A0.mk x11.Kind x11.Pre x11.Local x11.Uri x11.Decls x11.Attrs x11.Kids x10)) (AV i 1)
 else
  HF x6>>=fun r2=>
  room (out.length+1) 144>>=fun x_2=>
  CQ l (out++[r2]) (AV i 1)
 partial_fixpoint
def CQ (l:List A0) (out:List (A0)) (i:Int):Option (List A0):=
 if(HC i (AD l))then
  getI l i>>=fun x6=>
  if(Af x6.Kind 2)then
   if(D5 x6.Text (⟨#[]⟩))then
    CQ l out (AV i 1)
   else
    if(SH (AD out) 0)then
     getI out (CH (AD out) 1)>>=fun x7=>
     FM l out i (Af x7.Kind 2) x6
    else
     FM l out i false x6
  else
   HF x6>>=fun r3=>
   room (out.length+1) 144>>=fun x_3=>
   CQ l (out++[r3]) (AV i 1)
 else
  some out
 partial_fixpoint
end
def KZ (l:List A0):Option (List A0):=
 CQ l [] 0
mutual
def H0 (c:A5) (in1:List A1) (most:Int):Option (A0×A5×Int):=
 DU c [⟨#[97]⟩,⟨#[98]⟩,⟨#[99]⟩,⟨#[105,116,101,109]⟩]>>=fun r=>
 Fx r.2 4>>=fun r1=>
 if r1.1 then
  OV r1.2>>=fun r2=>
  MV in1 r2.2 most r r2.1
 else
  MV in1 r1.2 most r []
 partial_fixpoint
def MV (in1:List A1) (c1:A5) (most:Int) (r:ByteArray×A5) (nDecls:List (A1)):Option (A0×A5×Int):=
 EY in1 nDecls>>=fun r3=>
 Fx c1 4>>=fun r4=>
 if r4.1 then
  DU r4.2 [⟨#[112]⟩,⟨#[113]⟩]>>=fun r5=>
  Je r3 r5.2 most r5.1 r nDecls
 else
  Je r3 r4.2 most (⟨#[]⟩) r nDecls
 partial_fixpoint
def Je (r3:List A1) (c2:A5) (most:Int) (nPre:ByteArray) (r:ByteArray×A5) (nDecls:List (A1)):Option (A0×A5×Int):=
 BP r3 nPre>>=fun r6=>
 if r6.2 then
  Jf r3 r6.1 c2 most nPre r nDecls
 else
  BP r3 (⟨#[]⟩)>>=fun r7=>
  Jf r3 r7.1 c2 most (⟨#[]⟩) r nDecls
 partial_fixpoint
def Jf (r3:List A1) (u:ByteArray) (c2:A5) (most:Int) (nPre1:ByteArray) (r:ByteArray×A5) (nDecls:List (A1)):Option (A0×A5×Int):=
 DT c2 3>>=fun r8=>
 Es r3 r8.1 r8.2 most nPre1 r u nDecls []
 partial_fixpoint
def Hy (r3:List A1) (i1:Int) (r31:ByteArray×A5) (most:Int) (nPre1:ByteArray) (r:ByteArray×A5) (u:ByteArray) (nDecls:List (A1)) (nAttrs:List (A3)) (a1:A3):Option (A0×A5×Int):=
 if(Af (AD nAttrs) 0)then
  room (nAttrs.length+1) 64>>=fun x_10=>
  Es r3 (CH i1 1) r31.2 most nPre1 r u nDecls (nAttrs++[a1])
 else
  getI nAttrs (CH (AD nAttrs) 1)>>=fun x3=>
  HE x3 a1>>=fun r33=>
  if r33 then
   room (nAttrs.length+1) 64>>=fun x_11=>
   Es r3 (CH i1 1) r31.2 most nPre1 r u nDecls (nAttrs++[a1])
  else
   Es r3 (CH i1 1) r31.2 most nPre1 r u nDecls nAttrs
 partial_fixpoint
def Jg (r3:List A1) (i2:Int) (r42:Int×A5) (x5:Bool) (most2:Int) (nPre1:ByteArray) (r:ByteArray×A5) (u:ByteArray) (nDecls:List (A1)) (nAttrs:List (A3)) (nKids1:List (A0)):Option (A0×A5×Int):=
 if x5 then
  DU r42.2 [⟨#[120]⟩,⟨#[121]⟩,⟨#[32]⟩,⟨#[10,32,32]⟩,⟨#[49]⟩,⟨#[226,130,172,60]⟩]>>=fun r43=>
  room (nKids1.length+1) 144>>=fun x_16=>
  DI r3 (CH i2 1) r43.2 (CH most2 1) nPre1 r u nDecls nAttrs (nKids1++[(A0.mk 2 (⟨#[]⟩) (⟨#[]⟩) (⟨#[]⟩) [] [] [] r43.1)])
 else
  if(Af r42.1 2)then
   DU r42.2 [⟨#[]⟩,⟨#[110]⟩,⟨#[32,109,32]⟩]>>=fun r44=>
   room (nKids1.length+1) 144>>=fun x_17=>
   DI r3 (CH i2 1) r44.2 (CH most2 1) nPre1 r u nDecls nAttrs (nKids1++[(A0.mk 3 (⟨#[]⟩) (⟨#[]⟩) (⟨#[]⟩) [] [] [] r44.1)])
  else
   if(Af r42.1 3)then
    DU r42.2 [⟨#[]⟩,⟨#[103,111]⟩]>>=fun r45=>
    room (nKids1.length+1) 144>>=fun x_18=>
    DI r3 (CH i2 1) r45.2 (CH most2 1) nPre1 r u nDecls nAttrs (nKids1++[(A0.mk 4 (⟨#[]⟩) (⟨#[116]⟩) (⟨#[]⟩) [] [] [] r45.1)])
   else
    H0 r42.2 r3 (CH most2 1)>>=fun r46=>
    room (nKids1.length+1) 144>>=fun x_19=>
    DI r3 (CH i2 1) r46.2.1 r46.2.2 nPre1 r u nDecls nAttrs (nKids1++[r46.1])
 partial_fixpoint
def DI (r3:List A1) (i2:Int) (c5:A5) (most2:Int) (nPre1:ByteArray) (r:ByteArray×A5) (u:ByteArray) (nDecls:List (A1)) (nAttrs:List (A3)) (nKids1:List (A0)):Option (A0×A5×Int):=
 if(SH i2 0)then
  if(SH most2 0)then
   DT c5 6>>=fun r42=>
   if(Af r42.1 0)then
    Jg r3 i2 r42 true most2 nPre1 r u nDecls nAttrs nKids1
   else
    Jg r3 i2 r42 (Af r42.1 1) most2 nPre1 r u nDecls nAttrs nKids1
  else
   KZ nKids1>>=fun r47=>
   some ((A0.mk 1 nPre1 r.1 u nDecls nAttrs r47 (⟨#[]⟩)),c5,most2)
 else
  KZ nKids1>>=fun r48=>
  some ((A0.mk 1 nPre1 r.1 u nDecls nAttrs r48 (⟨#[]⟩)),c5,most2)
 partial_fixpoint
def Es (r3:List A1) (i1:Int) (c4:A5) (most:Int) (nPre1:ByteArray) (r:ByteArray×A5) (u:ByteArray) (nDecls:List (A1)) (nAttrs:List (A3)):Option (A0×A5×Int):=
 if(SH i1 0)then
  DU c4 [⟨#[105,100]⟩,⟨#[107]⟩,⟨#[118]⟩]>>=fun r29=>
  Qj r29.2>>=fun r30=>
  DU r30.2 [⟨#[]⟩,⟨#[]⟩,⟨#[112]⟩]>>=fun r31=>
  BP r3 r31.1>>=fun r32=>
  if(neS r31.1 (⟨#[]⟩))then
   if r32.2 then
    Hy r3 i1 r31 most nPre1 r u nDecls nAttrs (A3.mk r31.1 r29.1 r32.1 r30.1)
   else
    Hy r3 i1 r31 most nPre1 r u nDecls nAttrs (A3.mk (⟨#[]⟩) r29.1 (⟨#[]⟩) r30.1)
  else
   Hy r3 i1 r31 most nPre1 r u nDecls nAttrs (A3.mk (⟨#[]⟩) r29.1 (⟨#[]⟩) r30.1)
 else
  DT c4 4>>=fun r34=>
  DI r3 r34.1 r34.2 most nPre1 r u nDecls nAttrs []
 partial_fixpoint
end
def A2k := @H0.mutual_partial_correctness
mutual
def Bj (n:A0):Option (Int):=
 Ak (AV 1 (AD n.Attrs)) 0 n
 partial_fixpoint
def Ak (k:Int) (i:Int) (n:A0):Option (Int):=
 if(HC i (AD n.Kids))then
  getI n.Kids i>>=fun x1=>
  Bj x1>>=fun r1=>
  Ak (AV k r1) (AV i 1) n
 else
  some k
 partial_fixpoint
end
def F8 (a0:Int) (least:Int) (most:Int):Option (Bool):=
 if(UV a0 least)then
  some (U1 a0 most)
 else
  some false
def Aq (s:ByteArray) (at1:Int) (n:Int) (least:Int) (v1:Int) (i:Int):Option (Int×Int×Bool):=
 if(U1 i n)then
  SZ s (AV at1 i)>>=fun x4=>
  if(HC (wr .i64 x4) 128)then
   some (0,0,false)
  else
   if(SH (wr .i64 x4) 191)then
    some (0,0,false)
   else
    Aq s at1 n least (CH (AV (Y1 v1 64) (wr .i64 x4)) 128) (AV i 1)
 else
  if(HC v1 least)then
   some (0,0,false)
  else
   if(SH v1 1114111)then
    some (0,0,false)
   else
    F8 v1 55296 57343>>=fun r1=>
    if r1 then
     some (0,0,false)
    else
     some (v1,(AV (AV at1 1) n),true)
 partial_fixpoint
def rX := @Aq.partial_correctness
def Cy (s:ByteArray) (at1:Int) (n:Int) (least:Int) (v:Int):Option (Int×Int×Bool):=
 if(SH at1 (CH (CH (Ag s) 1) n))then
  some (0,0,false)
 else
  Aq s at1 n least v 1
def Df (s:ByteArray) (at1:Int) (x:Int) (x2:Bool):Option (Int×Int×Bool):=
 if x2 then
  Cy s at1 2 2048 (U2 .i64 (wr .i64 x) 15)
 else
  if(UV (wr .i64 x) 240)then
   if(HC (wr .i64 x) 248)then
    Cy s at1 3 65536 (U2 .i64 (wr .i64 x) 7)
   else
    some (0,0,false)
  else
   some (0,0,false)
def Dg (s:ByteArray) (at1:Int) (x:Int) (x1:Bool):Option (Int×Int×Bool):=
 if x1 then
  Cy s at1 1 128 (U2 .i64 (wr .i64 x) 31)
 else
  if(UV (wr .i64 x) 224)then
   Df s at1 x (HC (wr .i64 x) 240)
  else
   Df s at1 x false
def Et (s:ByteArray) (at1:Int):Option (Int×Int×Bool):=
 if(HC at1 0)then
  some (0,0,false)
 else
  if(UV at1 (Ag s))then
   some (0,0,false)
  else
   SZ s at1>>=fun x=>
   if(HC (wr .i64 x) 128)then
    some ((wr .i64 x),(AV at1 1),true)
   else
    if(UV (wr .i64 x) 192)then
     Dg s at1 x (HC (wr .i64 x) 224)
    else
     Dg s at1 x false
def Ae (n:Int) (l:List Int) (i:Int):Option (Bool):=
 if(HC (AV i 1) (AD l))then
  getI l i>>=fun x2=>
  getI l (AV i 1)>>=fun x3=>
  F8 n x2 x3>>=fun r1=>
  if r1 then
   some true
  else
   Ae n l (AV i 2)
 else
  some false
 partial_fixpoint
def E8 (n:Int) (l:List Int):Option (Bool):=
 Ae n l 0
def DV (n:Int):Option (Bool):=
 E8 n [65,90,95,95,97,122,192,214,216,246,248,767,880,893,895,8191,8204,8205,8304,8591,11264,12271,12289,55295,63744,64975,65008,65533,65536,983039]>>=fun r=>
 some r
def EH (n:Int):Option (Bool):=
 DV n>>=fun r=>
 if r then
  some true
 else
  E8 n [45,46,48,57,183,183,768,879,8255,8256]>>=fun r1=>
  some r1
def Ab (s:ByteArray) (at1:Int):Option (Bool):=
 if(HC at1 (Ag s))then
  Et s at1>>=fun r5=>
  if r5.2.2 then
   if(Af at1 0)then
    DV r5.1>>=fun r6=>
    if r6 then
     EH r5.1>>=fun r7=>
     if r7 then
      Ab s r5.2.1
     else
      some false
    else
     some false
   else
    EH r5.1>>=fun r8=>
    if r8 then
     Ab s r5.2.1
    else
     some false
  else
   some false
 else
  some true
 partial_fixpoint
def BQ (s:ByteArray):Option (Bool):=
 F8 (Ag s) 1 16>>=fun r=>
 if r then
  Ab s 0
 else
  some false
def Ij (s:ByteArray):Option (Bool):=
 if(UV (Ag s) 3)then
  TC s 0 3>>=fun x=>
  some (D5 x (⟨#[120,109,108]⟩))
 else
  some false
def DW (s:ByteArray):Option (Bool):=
 if(D5 s (⟨#[]⟩))then
  some true
 else
  BQ s>>=fun r=>
  if r then
   Ij s>>=fun r1=>
   some (!r1)
  else
   some false
def Ik (n:Int):Option (Bool):=
 if(Af n 9)then
  some true
 else
  if(Af n 10)then
   some true
  else
   if(Af n 13)then
    some true
   else
    F8 n 32 55295>>=fun r=>
    if r then
     some true
    else
     F8 n 57344 65533>>=fun r1=>
     if r1 then
      some true
     else
      F8 n 65536 1114111>>=fun r2=>
      some r2
def BT (s:ByteArray) (at1:Int):Option (Bool):=
 if(HC at1 (Ag s))then
  Et s at1>>=fun r2=>
  if r2.2.2 then
   Ik r2.1>>=fun r3=>
   if r3 then
    BT s r2.2.1
   else
    some false
  else
   some false
 else
  some (U1 (Ag s) 1500)
 partial_fixpoint
def Fy (s:ByteArray):Option (Bool):=
 BT s 0
def BG (s:ByteArray):Option (Bool):=
 if(U1 (Ag s) 600)then
  Fy s>>=fun r=>
  some r
 else
  some false
def FN (d:A1):Option (Bool):=
 BG d.Uri>>=fun r2=>
 if r2 then
  some (U1 (Ag d.Uri) 40)
 else
  some false
def Il (d:A1):Option (Bool):=
 if(neS d.Pre (⟨#[]⟩))then
  BQ d.Pre>>=fun r=>
  if r then
   Ij d.Pre>>=fun r1=>
   if r1 then
    some false
   else
    if(D5 d.Uri (⟨#[]⟩))then
     some false
    else
     FN d
  else
   some false
 else
  FN d
def BU (l:List A1) (i:Int):Option (Bool):=
 if(HC i (AD l))then
  getI l i>>=fun x2=>
  Il x2>>=fun r1=>
  if r1 then
   if(SH i 0)then
    getI l (CH i 1)>>=fun x3=>
    if(geS x3.Pre x2.Pre)then
     some false
    else
     BU l (AV i 1)
   else
    BU l (AV i 1)
  else
   some false
 else
  some (U1 (AD l) 4)
 partial_fixpoint
def Cz (l:List A1):Option (Bool):=
 BU l 0
def HG (n:A0):Option (Bool):=
 if(D5 n.Pre (⟨#[]⟩))then
  if(D5 n.Uri (⟨#[]⟩))then
   if(Af (AD n.Decls) 0)then
    if(Af (AD n.Attrs) 0)then
     some (Af (AD n.Kids) 0)
    else
     some false
   else
    some false
  else
   some false
 else
  some false
def CR (s:ByteArray) (t:ByteArray) (i:Int):Option (Bool):=
 if(U1 (AV i (Ag t)) (Ag s))then
  TC s i (AV i (Ag t))>>=fun x1=>
  if(D5 x1 t)then
   some true
  else
   CR s t (AV i 1)
 else
  some false
 partial_fixpoint
def Dy (s:ByteArray) (t:ByteArray):Option (Bool):=
 CR s t 0
def Ka (s:ByteArray):Option (Bool):=
 if(neI (Ag s) 3)then
  some false
 else
  SZ s 0>>=fun x=>
  if(Af x 120)then
   SZ s 1>>=fun x1=>
   if(Af x1 109)then
    SZ s 2>>=fun x2=>
    if(Af x2 108)then
     some true
    else
     SZ s 2>>=fun x3=>
     some (Af x3 76)
   else
    SZ s 1>>=fun x4=>
    if(Af x4 77)then
     SZ s 2>>=fun x5=>
     if(Af x5 108)then
      some true
     else
      SZ s 2>>=fun x6=>
      some (Af x6 76)
    else
     some false
  else
   SZ s 0>>=fun x7=>
   if(Af x7 88)then
    SZ s 1>>=fun x8=>
    if(Af x8 109)then
     SZ s 2>>=fun x9=>
     if(Af x9 108)then
      some true
     else
      SZ s 2>>=fun x10=>
      some (Af x10 76)
    else
     SZ s 1>>=fun x11=>
     if(Af x11 77)then
      SZ s 2>>=fun x12=>
      if(Af x12 108)then
       some true
      else
       SZ s 2>>=fun x13=>
       some (Af x13 76)
     else
      some false
   else
    some false
def Fz (n:Int):Option (Bool):=
 if(Af n 9)then
  some true
 else
  if(Af n 10)then
   some true
  else
   if(Af n 13)then
    some true
   else
    some (Af n 32)
def Dz (a:A3):Option (Bool):=
 BG a.Val>>=fun r2=>
 if r2 then
  BG a.Uri>>=fun r3=>
  if r3 then
   some (U1 (Ag a.Uri) 40)
  else
   some false
 else
  some false
def Eu (a:A3):Option (Bool):=
 DW a.Pre>>=fun r=>
 if r then
  if(neB (D5 a.Pre (⟨#[]⟩)) (D5 a.Uri (⟨#[]⟩)))then
   some false
  else
   BQ a.Local>>=fun r1=>
   if r1 then
    if(D5 a.Pre (⟨#[]⟩))then
     if(D5 a.Local (⟨#[120,109,108,110,115]⟩))then
      some false
     else
      Dz a
    else
     Dz a
   else
    some false
 else
  some false
def BH (i:Int) (n:A0):Option (Bool):=
 if(HC i (AD n.Attrs))then
  getI n.Attrs i>>=fun x2=>
  Eu x2>>=fun r8=>
  if r8 then
   if(SH i 0)then
    getI n.Attrs (CH i 1)>>=fun x3=>
    HE x3 x2>>=fun r9=>
    if r9 then
     BH (AV i 1) n
    else
     some false
   else
    BH (AV i 1) n
  else
   some false
 else
  some true
 partial_fixpoint
def DJ (n:A0):Option (Bool):=
 BH 0 n
def Ce (n:A0):Option (Bool):=
 if(Af n.Kind 1)then
  DW n.Pre>>=fun r=>
  if r then
   BQ n.Local>>=fun r1=>
   if r1 then
    if(neS n.Text (⟨#[]⟩))then
     some false
    else
     if(neS n.Pre (⟨#[]⟩))then
      if(D5 n.Uri (⟨#[]⟩))then
       some false
      else
       BG n.Uri>>=fun r2=>
       if r2 then
        if(SH (Ag n.Uri) 40)then
         some false
        else
         Cz n.Decls>>=fun r3=>
         if r3 then
          if(SH (AD n.Attrs) 5)then
           some false
          else
           DJ n
         else
          some false
       else
        some false
     else
      BG n.Uri>>=fun r4=>
      if r4 then
       if(SH (Ag n.Uri) 40)then
        some false
       else
        Cz n.Decls>>=fun r5=>
        if r5 then
         if(SH (AD n.Attrs) 5)then
          some false
         else
          DJ n
        else
         some false
      else
       some false
   else
    some false
  else
   some false
 else
  if(Af n.Kind 2)then
   HG n>>=fun r10=>
   if r10 then
    if(D5 n.Local (⟨#[]⟩))then
     if(neS n.Text (⟨#[]⟩))then
      BG n.Text>>=fun r11=>
      some r11
     else
      some false
    else
     some false
   else
    some false
  else
   if(Af n.Kind 3)then
    HG n>>=fun r12=>
    if r12 then
     if(D5 n.Local (⟨#[]⟩))then
      BG n.Text>>=fun r13=>
      if r13 then
       Dy n.Text (⟨#[45,45]⟩)>>=fun r14=>
       if r14 then
        some false
       else
        Dy n.Text (⟨#[13]⟩)>>=fun r15=>
        if r15 then
         some false
        else
         if(D5 n.Text (⟨#[]⟩))then
          some true
         else
          SZ n.Text (CH (Ag n.Text) 1)>>=fun x4=>
          some (neI x4 45)
      else
       some false
     else
      some false
    else
     some false
   else
    if(Af n.Kind 4)then
     HG n>>=fun r16=>
     if r16 then
      BQ n.Local>>=fun r17=>
      if r17 then
       Ka n.Local>>=fun r18=>
       if r18 then
        some false
       else
        BG n.Text>>=fun r19=>
        if r19 then
         Dy n.Text (⟨#[63,62]⟩)>>=fun r20=>
         if r20 then
          some false
         else
          Dy n.Text (⟨#[13]⟩)>>=fun r21=>
          if r21 then
           some false
          else
           if(D5 n.Text (⟨#[]⟩))then
            some true
           else
            SZ n.Text 0>>=fun x5=>
            Fz (wr .i64 x5)>>=fun r22=>
            some (!r22)
        else
         some false
      else
       some false
     else
      some false
    else
     some false
mutual
def Az (l:List A0) (deep:Int):Option (Bool):=
 Ax l deep 0
 partial_fixpoint
def CS (l:List A0) (deep:Int) (i:Int) (x2:A0):Option (Bool):=
 if(Af x2.Kind 1)then
  if(Af deep 7)then
   some false
  else
   Az x2.Kids (AV deep 1)>>=fun r3=>
   if r3 then
    Ax l deep (AV i 1)
   else
    some false
 else
  Ax l deep (AV i 1)
 partial_fixpoint
def Ax (l:List A0) (deep:Int) (i:Int):Option (Bool):=
 if(HC i (AD l))then
  getI l i>>=fun x2=>
  Ce x2>>=fun r2=>
  if r2 then
   if(Af x2.Kind 2)then
    if(SH i 0)then
     getI l (CH i 1)>>=fun x3=>
     if(Af x3.Kind 2)then
      some false
     else
      CS l deep i x2
    else
     CS l deep i x2
   else
    CS l deep i x2
  else
   some false
 else
  some true
 partial_fixpoint
end
mutual
def CT (k2:Int) (i:Int) (n:A0):Option (Bool):=
 getI n.Kids i>>=fun x3=>
 if(Af x3.Kind 2)then
  some false
 else
  Al k2 (AV i 1) n
 partial_fixpoint
def Al (k1:Int) (i:Int) (n:A0):Option (Bool):=
 if(HC i (AD n.Kids))then
  getI n.Kids i>>=fun x2=>
  if(Af x2.Kind 1)then
   CT (AV k1 1) i n
  else
   CT k1 i n
 else
  if(Af k1 1)then
   if(D5 n.Pre (⟨#[]⟩))then
    if(D5 n.Local (⟨#[]⟩))then
     if(D5 n.Uri (⟨#[]⟩))then
      if(D5 n.Text (⟨#[]⟩))then
       if(Af (AD n.Decls) 0)then
        if(Af (AD n.Attrs) 0)then
         Az n.Kids 0>>=fun r3=>
         some r3
        else
         some false
       else
        some false
      else
       some false
     else
      some false
    else
     some false
   else
    some false
  else
   some false
 partial_fixpoint
end
def EI (n:A0):Option (Bool):=
 Bj n>>=fun r=>
 if(SH r 60)then
  some false
 else
  if(neI n.Kind 0)then
   Az [n] 0>>=fun r1=>
   some r1
  else
   Al 0 0 n
mutual
def Bb (n:A0) (l:List A1):Option (Bool):=
 EY l n.Decls>>=fun r=>
 if(Af n.Kind 1)then
  BP r n.Pre>>=fun r1=>
  if r1.2 then
   if(neS r1.1 n.Uri)then
    some false
   else
    Bx r n
  else
   some false
 else
  Bx r n
 partial_fixpoint
def Bx (r:List A1) (n:A0):Option (Bool):=
 B5 r 0 n
 partial_fixpoint
def AY (r:List A1) (i2:Int) (n:A0):Option (Bool):=
 if(HC i2 (AD n.Kids))then
  getI n.Kids i2>>=fun x5=>
  Bb x5 r>>=fun r7=>
  if r7 then
   AY r (AV i2 1) n
  else
   some false
 else
  some true
 partial_fixpoint
def B5 (r:List A1) (i1:Int) (n:A0):Option (Bool):=
 if(HC i1 (AD n.Attrs))then
  getI n.Attrs i1>>=fun x3=>
  BP r x3.Pre>>=fun r5=>
  if(neS x3.Pre (⟨#[]⟩))then
   if r5.2 then
    if(neS r5.1 x3.Uri)then
     some false
    else
     B5 r (AV i1 1) n
   else
    some false
  else
   B5 r (AV i1 1) n
 else
  AY r 0 n
 partial_fixpoint
end
def Ev (n:A0):Option (Bool):=
 if(Af n.Kind 0)then
  EI n>>=fun r=>
  if r then
   Bb n []>>=fun r1=>
   some r1
  else
   some false
 else
  some false
def Fk (r3:Bool×A5) (nKids1:List (A0)):Option (A0×A5):=
 Ev (A0.mk 0 (⟨#[]⟩) (⟨#[]⟩) (⟨#[]⟩) [] [] nKids1 (⟨#[]⟩))>>=fun r4=>
 if r4 then
  some ((A0.mk 0 (⟨#[]⟩) (⟨#[]⟩) (⟨#[]⟩) [] [] nKids1 (⟨#[]⟩)),r3.2)
 else
  some ((A0.mk 0 (⟨#[]⟩) (⟨#[]⟩) (⟨#[]⟩) [] [] [(A0.mk 1 (⟨#[]⟩) (⟨#[97]⟩) (⟨#[]⟩) [] [] [] (⟨#[]⟩))] (⟨#[]⟩)),r3.2)
def H1 (r1:Bool×A5) (r:Int×A5) (nKids:List (A0)):Option (A0×A5):=
 H0 r1.2 [] (AV 3 r.1)>>=fun r2=>
 room (nKids.length+1) 144>>=fun x_1=>
 Fx r2.2.1 4>>=fun r3=>
 if r3.1 then
  room ((nKids++[r2.1]).length+1) 144>>=fun x_2=>
  Fk r3 ((nKids++[r2.1])++[(A0.mk 4 (⟨#[]⟩) (⟨#[116]⟩) (⟨#[]⟩) [] [] [] (⟨#[101,110,100]⟩))])
 else
  Fk r3 (nKids++[r2.1])
def OW (c:A5):Option (A0×A5):=
 DT c 8>>=fun r=>
 Fx r.2 4>>=fun r1=>
 if r1.1 then
  room 1 144>>=fun x_=>
  H1 r1 r ([]++[(A0.mk 3 (⟨#[]⟩) (⟨#[]⟩) (⟨#[]⟩) [] [] [] (⟨#[104]⟩))])
 else
  H1 r1 r []
def Jh (code:List Int):Option (A0):=
 Qh code>>=fun r=>
 OW r>>=fun r1=>
 some r1.1
mutual
def E9 (n:A0):Option (Int):=
 Fl (AV 1 (AD n.Attrs)) n 0
 partial_fixpoint
def Fl (out:Int) (n:A0) (x1:Int):Option (Int):=
 if(HC x1 (AD n.Kids))then
  getI n.Kids x1>>=fun x2=>
  E9 x2>>=fun r1=>
  Fl (AV out r1) n (AV x1 1)
 else
  some out
 partial_fixpoint
end
def J9 (n:Int) (lo:Int) (hi:Int):Option (Bool):=
 if(UV n lo)then
  some (U1 n hi)
 else
  some false
def Dm (s:ByteArray):Option (Int×Int):=
 some (bm s)
def Kv (s:ByteArray) (at1:Int):Option (Int×Int×Bool):=
 J9 at1 0 (CH (Ag s) 1)>>=fun r=>
 if r then
  TC s at1 (Ag s)>>=fun x=>
  Dm x>>=fun r1=>
  if(Af r1.1 65533)then
   if(U1 r1.2 1)then
    some (0,0,false)
   else
    some ((wr .i64 r1.1),(AV at1 r1.2),true)
  else
   some ((wr .i64 r1.1),(AV at1 r1.2),true)
 else
  some (0,0,false)
def QC (r:A8) (a1:Int):Option (Bool×Int):=
 J9 a1 r.xa0 r.xa1>>=fun r1=>
 some (r1,a1)
def AW (s:List A8) (x1:Int) (f:Int):Option (Int×Int):=
 if(HC x1 (AD s))then
  getI s x1>>=fun x2=>
  QC x2 f>>=fun r1=>
  if r1.1 then
   some (x1,r1.2)
  else
   AW s (AV x1 1) r1.2
 else
  some ((-1),f)
 partial_fixpoint
def CV (s:List A8) (fc0:Int):Option (Int×Int):=
 AW s 0 fc0
def C1 (s:List A8) (fc0:Int):Option (Bool×Int):=
 CV s fc0>>=fun r=>
 some ((UV r.1 0),r.2)
def Kb (n:Int) (ranges:List A8):Option (Bool):=
 C1 ranges n>>=fun r=>
 some r.1
def OX (n:Int):Option (Bool):=
 Kb n [(A8.mk 9 10),(A8.mk 13 13),(A8.mk 32 55295),(A8.mk 57344 65533),(A8.mk 65536 1114111)]>>=fun r=>
 some r
def D0 (s:ByteArray) (at1:Int):Option (Bool):=
 if(HC at1 (Ag s))then
  Kv s at1>>=fun r2=>
  if r2.2.2 then
   OX r2.1>>=fun r3=>
   if r3 then
    D0 s r2.2.1
   else
    some false
  else
   some false
 else
  some true
 partial_fixpoint
def JA (s:ByteArray):Option (Bool):=
 D0 s 0
def D8 (s:ByteArray):Option (Bool):=
 if(U1 (Ag s) 600)then
  JA s>>=fun r=>
  some r
 else
  some false
def strings_Contains (s:ByteArray) (t:ByteArray):Option (Bool):=
 if s.size<4294967281 then some (Gn s t)else none
def CW (s:ByteArray) (suffix:ByteArray):Option (Bool):=
 if(UV (Ag s) (Ag suffix))then
  TC s (CH (Ag s) (Ag suffix)) (Ag s)>>=fun x=>
  some (D5 x suffix)
 else
  some false
def G0 (s:ByteArray) (suffix:ByteArray):Option (Bool):=
 CW s suffix>>=fun r=>
 some r
def RN (s:ByteArray):Option (Bool):=
 D8 s>>=fun r=>
 if r then
  strings_Contains s (⟨#[45,45]⟩)>>=fun r1=>
  if r1 then
   some false
  else
   G0 s (⟨#[45]⟩)>>=fun r2=>
   if r2 then
    some false
   else
    strings_Contains s (⟨#[13]⟩)>>=fun r3=>
    some (!r3)
 else
  some false
def JB (n:Int):Option (Bool):=
 Kb n [(A8.mk 65 90),(A8.mk 95 95),(A8.mk 97 122),(A8.mk 192 214),(A8.mk 216 246),(A8.mk 248 767),(A8.mk 880 893),(A8.mk 895 8191),(A8.mk 8204 8205),(A8.mk 8304 8591),(A8.mk 11264 12271),(A8.mk 12289 55295),(A8.mk 63744 64975),(A8.mk 65008 65533),(A8.mk 65536 983039)]>>=fun r=>
 some r
def Kw (n:Int):Option (Bool):=
 JB n>>=fun r=>
 if r then
  some true
 else
  Kb n [(A8.mk 45 46),(A8.mk 48 57),(A8.mk 183 183),(A8.mk 768 879),(A8.mk 8255 8256)]>>=fun r1=>
  some r1
def D1 (s:ByteArray) (at1:Int):Option (Bool):=
 if(HC at1 (Ag s))then
  Kv s at1>>=fun r5=>
  if r5.2.2 then
   if(Af at1 0)then
    JB r5.1>>=fun r6=>
    if r6 then
     Kw r5.1>>=fun r7=>
     if r7 then
      D1 s r5.2.1
     else
      some false
    else
     some false
   else
    Kw r5.1>>=fun r8=>
    if r8 then
     D1 s r5.2.1
    else
     some false
  else
   some false
 else
  J9 (Ag s) 1 16>>=fun r9=>
  some r9
 partial_fixpoint
def BR (s:ByteArray):Option (Bool):=
 D1 s 0
def strings_EqualFold (s:ByteArray) (t:ByteArray):Option (Bool):=
 if s.size<4294967281∧A5P t=true then some (WD s t)else none
def JC (n:Int):Option (Bool):=
 if(Af n 9)then
  some true
 else
  if(Af n 10)then
   some true
  else
   if(Af n 13)then
    some true
   else
    some (Af n 32)
def RO (local1:ByteArray) (s:ByteArray):Option (Bool):=
 BR local1>>=fun r=>
 if r then
  strings_EqualFold local1 (⟨#[120,109,108]⟩)>>=fun r1=>
  if r1 then
   some false
  else
   D8 s>>=fun r2=>
   if r2 then
    strings_Contains s (⟨#[63,62]⟩)>>=fun r3=>
    if r3 then
     some false
    else
     strings_Contains s (⟨#[13]⟩)>>=fun r4=>
     if r4 then
      some false
     else
      if(D5 s (⟨#[]⟩))then
       some true
      else
       SZ s 0>>=fun x=>
       JC (wr .i64 x)>>=fun r5=>
       some (!r5)
   else
    some false
 else
  some false
def FO (n:A0):Option (Bool):=
 if(Af n.Kind 2)then
  if(neS n.Text (⟨#[]⟩))then
   D8 n.Text>>=fun r=>
   some r
  else
   some false
 else
  if(Af n.Kind 3)then
   RN n.Text>>=fun r1=>
   some r1
  else
   if(Af n.Kind 4)then
    RO n.Local n.Text>>=fun r2=>
    some r2
   else
    some false
def G1 (n:A0):Option (Bool):=
 if(neS n.Pre (⟨#[]⟩))then
  some false
 else
  if(neS n.Uri (⟨#[]⟩))then
   some false
  else
   if(SH (AD n.Decls) 0)then
    some false
   else
    if(SH (AD n.Attrs) 0)then
     some false
    else
     if(SH (AD n.Kids) 0)then
      some false
     else
      if(neS n.Local (⟨#[]⟩))then
       if(neI n.Kind 4)then
        some false
       else
        FO n
      else
       FO n
def CX (s:ByteArray) (prefix1:ByteArray):Option (Bool):=
 if(UV (Ag s) (Ag prefix1))then
  TC s 0 (Ag prefix1)>>=fun x=>
  some (D5 x prefix1)
 else
  some false
def G2 (s:ByteArray) (prefix1:ByteArray):Option (Bool):=
 CX s prefix1>>=fun r=>
 some r
def Im (s:ByteArray):Option (Bool):=
 if(D5 s (⟨#[]⟩))then
  some true
 else
  BR s>>=fun r=>
  if r then
   G2 s (⟨#[120,109,108]⟩)>>=fun r1=>
   some (!r1)
  else
   some false
def Kc (uri:ByteArray) (pre:ByteArray):Option (Bool):=
 D8 uri>>=fun r=>
 if r then
  if(U1 (Ag uri) 40)then
   if(neS uri (⟨#[]⟩))then
    some true
   else
    some (D5 pre (⟨#[]⟩))
  else
   some false
 else
  some false
def OY (d:A1):Option (Bool):=
 Im d.Pre>>=fun r=>
 if r then
  Kc d.Uri d.Pre>>=fun r1=>
  some r1
 else
  some false
def Dh (l:List A1) (x2:Int):Option (Bool):=
 if(HC x2 (AD l))then
  getI l x2>>=fun x3=>
  OY x3>>=fun r1=>
  if r1 then
   if(SH x2 0)then
    getI l (CH x2 1)>>=fun x4=>
    if(geS x4.Pre x3.Pre)then
     some false
    else
     Dh l (AV x2 1)
   else
    Dh l (AV x2 1)
  else
   some false
 else
  some (U1 (AD l) 4)
 partial_fixpoint
def QD (l:List A1):Option (Bool):=
 Dh l 0
def In (a:A3):Option (Bool):=
 Im a.Pre>>=fun r=>
 if r then
  if(neB (D5 a.Pre (⟨#[]⟩)) (D5 a.Uri (⟨#[]⟩)))then
   some false
  else
   Kc a.Uri a.Pre>>=fun r1=>
   if r1 then
    BR a.Local>>=fun r2=>
    if r2 then
     D8 a.Val>>=fun r3=>
     if r3 then
      if(neS a.Pre (⟨#[]⟩))then
       some true
      else
       some (neS a.Local (⟨#[120,109,108,110,115]⟩))
     else
      some false
    else
     some false
   else
    some false
 else
  some false
def strings_Compare (s:ByteArray) (t:ByteArray):Option (Int):=
 some (OP s t)
def G3 (a:A3) (b:A3):Option (Int):=
 strings_Compare a.Uri b.Uri>>=fun r=>
 if(neI r 0)then
  some r
 else
  strings_Compare a.Local b.Local>>=fun r1=>
  some r1
def Di (l:List A3) (x2:Int):Option (Bool):=
 if(HC x2 (AD l))then
  getI l x2>>=fun x3=>
  In x3>>=fun r2=>
  if r2 then
   if(SH x2 0)then
    getI l (CH x2 1)>>=fun x4=>
    G3 x4 x3>>=fun r3=>
    if(UV r3 0)then
     some false
    else
     Di l (AV x2 1)
   else
    Di l (AV x2 1)
  else
   some false
 else
  some (U1 (AD l) 5)
 partial_fixpoint
def MW (l:List A3):Option (Bool):=
 Di l 0
def Bk (l:List A0) (x2:Int):Option (Bool):=
 if(HC x2 (AD l))then
  getI l x2>>=fun x3=>
  if(SH x2 0)then
   if(Af x3.Kind 2)then
    getI l (CH x2 1)>>=fun x4=>
    if(Af x4.Kind 2)then
     some false
    else
     Bk l (AV x2 1)
   else
    Bk l (AV x2 1)
  else
   Bk l (AV x2 1)
 else
  some true
 partial_fixpoint
def Hs (l:List A0):Option (Bool):=
 Bk l 0
mutual
def EJ (n:A0) (deep:Int):Option (Bool):=
 Hs n.Kids>>=fun r=>
 if r then
  C2 n.Kids deep>>=fun r1=>
  some (!r1.1)
 else
  some false
 partial_fixpoint
def O8 (k:A0) (a1:Int):Option (Bool×Int):=
 Bc k a1>>=fun r=>
 some ((!r),a1)
 partial_fixpoint
def Bc (n:A0) (deep:Int):Option (Bool):=
 if(neI n.Kind 1)then
  G1 n>>=fun r=>
  some r
 else
  if(UV deep 7)then
   some false
  else
   if(neS n.Text (⟨#[]⟩))then
    some false
   else
    Im n.Pre>>=fun r1=>
    if r1 then
     Kc n.Uri n.Pre>>=fun r2=>
     if r2 then
      BR n.Local>>=fun r3=>
      if r3 then
       QD n.Decls>>=fun r4=>
       if r4 then
        MW n.Attrs>>=fun r5=>
        if r5 then
         EJ n (AV deep 1)>>=fun r6=>
         some r6
        else
         some false
       else
        some false
      else
       some false
     else
      some false
    else
     some false
 partial_fixpoint
def C2 (s:List A0) (fc0:Int):Option (Bool×Int):=
 CY s fc0>>=fun r=>
 some ((UV r.1 0),r.2)
 partial_fixpoint
def CY (s:List A0) (fc0:Int):Option (Int×Int):=
 Ac s 0 fc0
 partial_fixpoint
def Ac (s:List A0) (x1:Int) (f:Int):Option (Int×Int):=
 if(HC x1 (AD s))then
  getI s x1>>=fun x2=>
  O8 x2 f>>=fun r1=>
  if r1.1 then
   some (x1,r1.2)
  else
   Ac s (AV x1 1) r1.2
 else
  some ((-1),f)
 partial_fixpoint
end
def EK (kind:Int) (n:Int) (l:List A0) (x1:Int):Option (Int):=
 if(HC x1 (AD l))then
  getI l x1>>=fun x2=>
  if(Af x2.Kind kind)then
   EK kind (AV n 1) l (AV x1 1)
  else
   EK kind n l (AV x1 1)
 else
  some n
 partial_fixpoint
def Kx (l:List A0) (kind:Int):Option (Int):=
 EK kind 0 l 0
def BV (bare:Bool) (n:A0):Option (Bool):=
 if bare then
  Kx n.Kids 1>>=fun r2=>
  if(Af r2 1)then
   Kx n.Kids 2>>=fun r3=>
   if(Af r3 0)then
    EJ n 0>>=fun r4=>
    some r4
   else
    some false
  else
   some false
 else
  some false
def G4 (n:A0):Option (Bool):=
 E9 n>>=fun r=>
 if(SH r 60)then
  some false
 else
  if(neI n.Kind 0)then
   Bc n 0>>=fun r1=>
   some r1
  else
   if(D5 n.Pre (⟨#[]⟩))then
    if(D5 n.Local (⟨#[]⟩))then
     if(D5 n.Uri (⟨#[]⟩))then
      if(D5 n.Text (⟨#[]⟩))then
       if(Af (AD n.Decls) 0)then
        BV (Af (AD n.Attrs) 0) n
       else
        BV false n
      else
       BV false n
     else
      BV false n
    else
     BV false n
   else
    BV false n
def RP (n:A0) (l:List (A1)):Option (Bool):=
 OQ ((A0.row false) n) (l.map fun x=>(x.Pre,x.Uri))
def Io (n:A0):Option (Bool):=
 if(Af n.Kind 0)then
  G4 n>>=fun r=>
  if r then
   RP n []>>=fun r1=>
   some r1
  else
   some false
 else
  some false
def OZ (pre:ByteArray) (local1:ByteArray):Option (Bool):=
 if(D5 pre (⟨#[]⟩))then
  BR local1>>=fun r=>
  some r
 else
  BR pre>>=fun r1=>
  if r1 then
   BR local1>>=fun r2=>
   some r2
  else
   some false
def Ip (s:ByteArray):Option (Bool):=
 D8 s>>=fun r=>
 if r then
  strings_Contains s (⟨#[39]⟩)>>=fun r1=>
  if r1 then
   strings_Contains s (⟨#[34]⟩)>>=fun r2=>
   some (!r2)
  else
   some true
 else
  some false
def KI (named:Bool) (element:Bool) (p:AH) (x:Bool):Option (Bool):=
 if x then
  if element then
   if(Af p.N 0)then
    OZ p.Pre p.Local>>=fun r1=>
    if r1 then
     Ip p.Val>>=fun r2=>
     some r2
    else
     some false
   else
    some false
  else
   some false
 else
  if(Af p.Kind 4)then
   if element then
    if(Af p.N 0)then
     if named then
      some false
     else
      Ip p.Val>>=fun r3=>
      some r3
    else
     some false
   else
    some false
  else
   some false
def MX (named:Bool) (element:Bool) (p:AH):Option (Bool):=
 if(Af p.Kind 1)then
  J9 p.N 1 999>>=fun r=>
  if r then
   if named then
    some false
   else
    some (D5 p.Val (⟨#[]⟩))
  else
   some false
 else
  if(Af p.Kind 2)then
   KI named element p true
  else
   KI named element p (Af p.Kind 3)
def MY (kind:Int) (named:Bool) (p:AH):Option (Bool):=
 if(Af kind 1)then
  MX named true p
 else
  MX named (Af kind 2) p
def Uk (p:AH) (kind:Int):Option (Bool):=
 if(neS p.Pre (⟨#[]⟩))then
  MY kind true p
 else
  MY kind (neS p.Local (⟨#[]⟩)) p
def Rj (p:AH) (a1:AJ):Option (Bool×AJ):=
 Uk p a1.Kind>>=fun r=>
 some ((!r),a1)
def BB (s:List AH) (x1:Int) (f:AJ):Option (Int×AJ):=
 if(HC x1 (AD s))then
  getI s x1>>=fun x2=>
  Rj x2 f>>=fun r1=>
  if r1.1 then
   some (x1,r1.2)
  else
   BB s (AV x1 1) r1.2
 else
  some ((-1),f)
 partial_fixpoint
def CZ (s:List AH) (fc0:AJ):Option (Int×AJ):=
 BB s 0 fc0
def An (s:List AH) (fc0:AJ):Option (Bool×AJ):=
 CZ s fc0>>=fun r=>
 some ((UV r.1 0),r.2)
def By (end1:Bool) (r:Bool×AJ) (x:Bool) (sDeep:Bool):Option (Bool):=
 if x then
  if(D5 r.2.Pre (⟨#[]⟩))then
   some (D5 r.2.Local (⟨#[]⟩))
  else
   some false
 else
  if(Af r.2.Kind 5)then
   if(D5 r.2.Pre (⟨#[]⟩))then
    if(D5 r.2.Local (⟨#[]⟩))then
     some true
    else
     BR r.2.Local>>=fun r2=>
     some r2
   else
    some false
  else
   if(Af r.2.Kind 6)then
    if end1 then
     OZ r.2.Pre r.2.Local>>=fun r3=>
     some r3
    else
     some false
   else
    if(Af r.2.Kind 7)then
     if end1 then
      if(D5 r.2.Pre (⟨#[]⟩))then
       BR r.2.Local>>=fun r4=>
       some r4
      else
       some false
     else
      some false
    else
     some false
def EZ (end1:Bool) (sDeep:Bool) (r:Bool×AJ):Option (Bool):=
 if(Af r.2.Kind 1)then
  OZ r.2.Pre r.2.Local>>=fun r1=>
  some r1
 else
  if(Af r.2.Kind 2)then
   By end1 r true sDeep
  else
   if(Af r.2.Kind 3)then
    By end1 r true sDeep
   else
    By end1 r (Af r.2.Kind 4) sDeep
def Ky (s:AJ) (last:Bool):Option (Bool):=
 if(SH (AD s.Preds) 3)then
  some false
 else
  An s.Preds s>>=fun r=>
  if r.1 then
   some false
  else
   if last then
    if r.2.Deep then
     EZ false true r
    else
     EZ (Af (AD r.2.Preds) 0) false r
   else
    EZ false r.2.Deep r
def GO (s:Eh) (x1:Int):Option (Bool):=
 if(HC x1 (AD s.Steps))then
  getI s.Steps x1>>=fun x2=>
  Ky x2 (Af x1 (CH (AD s.Steps) 1))>>=fun r2=>
  if r2 then
   GO s (AV x1 1)
  else
   some false
 else
  Ip s.Id>>=fun r3=>
  if r3 then
   if(U1 (AD s.Steps) 8)then
    if(SH (AD s.Steps) 0)then
     some true
    else
     some (neS s.Id (⟨#[]⟩))
   else
    some false
  else
   some false
 partial_fixpoint
def NH (s:Eh):Option (Bool):=
 GO s 0
def JD (l:List (A1)) (p:ByteArray):Option (ByteArray×Bool):=
 if l.length≤1000000000000 then some (GL (l.map fun x=>(x.Pre,x.Uri)) p)else none
def H3 (pre:ByteArray) (a1:List A1):Option (Bool):=
 JD a1 pre>>=fun r=>
 some r.2
def JE (p:AH) (a1c0:List A1):Option (Bool):=
 H3 p.Pre a1c0>>=fun r=>
 some (!r)
def AT (s:List AH) (fc0c0:List A1) (x1:Int):Option (Int):=
 if(HC x1 (AD s))then
  getI s x1>>=fun x2=>
  JE x2 fc0c0>>=fun r1=>
  if r1 then
   some x1
  else
   AT s fc0c0 (AV x1 1)
 else
  some (-1)
 partial_fixpoint
def CD (s:List AH) (fc0c0:List A1):Option (Int):=
 AT s fc0c0 0
def Bm (s:List AH) (fc0c0:List A1):Option (Bool):=
 CD s fc0c0>>=fun r=>
 some (UV r 0)
def MZ (a0:AJ) (a1c0:List A1):Option (Bool):=
 H3 a0.Pre a1c0>>=fun r=>
 if r then
  Bm a0.Preds a1c0>>=fun r1=>
  some r1
 else
  some true
def Aa (s:List AJ) (fc0c0:List A1) (x1:Int):Option (Int):=
 if(HC x1 (AD s))then
  getI s x1>>=fun x2=>
  MZ x2 fc0c0>>=fun r1=>
  if r1 then
   some x1
  else
   Aa s fc0c0 (AV x1 1)
 else
  some (-1)
 partial_fixpoint
def Ci (s:List AJ) (fc0c0:List A1):Option (Int):=
 Aa s fc0c0 0
def C7 (s:List AJ) (fc0c0:List A1):Option (Bool):=
 Ci s fc0c0>>=fun r=>
 some (UV r 0)
def NI (s:Eh) (l:List A1):Option (Bool):=
 C7 s.Steps l>>=fun r=>
 some (!r)
def H4 (s:List (Int)):Option (List Int):=
 room s.length 8>>=fun _=>some s
def Cj (s:List (List (Int))):Option (List Int):=
 match s with| [l,m]=>if(l.length+m.length)*8≤140737488351232∧l.length+m.length≤1000000000000 then some (l++m)else none| [l,m,q]=>if(l.length+m.length+q.length)*8≤140737488351232∧l.length+m.length+q.length≤1000000000000 then some (l++m++q)else none|_=>none
mutual
def GP (n:A0) (path:List Int) (out:List (List Int)):Option (List (List Int)):=
 H4 path>>=fun r=>
 room (out.length+1) 24>>=fun x_=>
 F9 path (out++[r]) n 0
 partial_fixpoint
def F9 (path:List Int) (out1:List (List Int)) (n:A0) (x1:Int):Option (List (List Int)):=
 if(HC x1 (AD n.Kids))then
  getI n.Kids x1>>=fun x2=>
  Cj [path,[x1]]>>=fun r3=>
  GP x2 r3 out1>>=fun r4=>
  F9 path r4 n (AV x1 1)
 else
  some out1
 partial_fixpoint
end
def HH (n:A0):Option (List (List Int)):=
 GP n [] []>>=fun r=>
 some r
def G5 (s:List (A1)):Option (List A1):=
 room s.length 32>>=fun _=>some s
def G6 (s:List (A3)):Option (List A3):=
 room s.length 64>>=fun _=>some s
mutual
def EL (n:A0):Option (A0):=
 G5 n.Decls>>=fun r=>
 G6 n.Attrs>>=fun r1=>
 KJ n.Kids>>=fun r2=>
 some (A0.mk n.Kind n.Pre n.Local n.Uri r r1 r2 n.Text)
 partial_fixpoint
def KJ (l:List A0):Option (List A0):=
 FP [] l 0
 partial_fixpoint
def FP (out:List (A0)) (l:List A0) (x1:Int):Option (List A0):=
 if(HC x1 (AD l))then
  getI l x1>>=fun x2=>
  EL x2>>=fun r1=>
  room (out.length+1) 144>>=fun x_1=>
  FP (out++[r1]) l (AV x1 1)
 else
  some out
 partial_fixpoint
end
def FQ (path:List Int) (x2:Int) (n1:A0):Option (A0×Bool):=
 if(HC x2 (AD path))then
  getI path x2>>=fun x3=>
  J9 x3 0 (CH (AD n1.Kids) 1)>>=fun r2=>
  if r2 then
   getI n1.Kids x3>>=fun x4=>
   FQ path (AV x2 1) x4
  else
   some ((A0.mk 0 (⟨#[]⟩) (⟨#[]⟩) (⟨#[]⟩) [] [] [] (⟨#[]⟩)),false)
 else
  EL n1>>=fun r3=>
  some (r3,true)
 partial_fixpoint
def HJ (n:A0) (path:List Int):Option (A0×Bool):=
 FQ path 0 n
def strings_Cut (s:ByteArray) (t:ByteArray):Option (ByteArray×ByteArray×Bool):=
 if s.size<4294967281 then some (oC s t)else none
def Ql (s:ByteArray):Option (ByteArray×ByteArray×Bool):=
 BR s>>=fun r=>
 if r then
  some (⟨#[]⟩,s,true)
 else
  strings_Cut s (⟨#[58]⟩)>>=fun r1=>
  if r1.2.2 then
   BR r1.1>>=fun r2=>
   if r2 then
    BR r1.2.1>>=fun r3=>
    if r3 then
     some (r1.1,r1.2.1,true)
    else
     some (⟨#[]⟩,⟨#[]⟩,false)
   else
    some (⟨#[]⟩,⟨#[]⟩,false)
  else
   some (⟨#[]⟩,⟨#[]⟩,false)
def JF (pre:ByteArray) (local1:ByteArray) (s:ByteArray):Option (ByteArray):=
 Ql s>>=fun r=>
 if r.2.2 then
  if(neS r.1 pre)then
   some (⟨#[]⟩)
  else
   if(neS r.2.1 local1)then
    some (⟨#[]⟩)
   else
    some s
 else
  some (⟨#[]⟩)
def O9 (pre:ByteArray) (local1:ByteArray):Option (ByteArray):=
 if(neS pre (⟨#[]⟩))then
  nT pre (⟨#[58]⟩)>>=fun x=>
  nT x local1>>=fun x1=>
  JF pre local1 x1
 else
  JF pre local1 local1
def TK (d:Bh) (a1:ByteArray) (a2:ByteArray):Option (Bool×ByteArray×ByteArray):=
 if(D5 d.El a1)then
  some ((D5 d.At a2),a1,a2)
 else
  some (false,a1,a2)
def CE (s:List Bh) (x1:Int) (f:ByteArray) (f1:ByteArray):Option (Int×ByteArray×ByteArray):=
 if(HC x1 (AD s))then
  getI s x1>>=fun x2=>
  TK x2 f f1>>=fun r1=>
  if r1.1 then
   some (x1,r1.2.1,r1.2.2)
  else
   CE s (AV x1 1) r1.2.1 r1.2.2
 else
  some ((-1),f,f1)
 partial_fixpoint
def Ea (s:List Bh) (fc0:ByteArray) (fc1:ByteArray):Option (Int×ByteArray×ByteArray):=
 CE s 0 fc0 fc1
def XD (l:List Bh) (el:ByteArray) (at1:ByteArray):Option (Bh×Bool):=
 Ea l el at1>>=fun r=>
 if(HC r.1 0)then
  some ((Bh.mk (⟨#[]⟩) (⟨#[]⟩) false false (⟨#[]⟩)),false)
 else
  getI l r.1>>=fun x=>
  some (x,true)
def GQ (out:List (A3)) (n:A0) (x1:Int) (h:D2):Option (List A3):=
 if(HC x1 (AD n.Attrs))then
  getI n.Attrs x1>>=fun x2=>
  O9 n.Pre n.Local>>=fun r3=>
  O9 x2.Pre x2.Local>>=fun r4=>
  XD h.Defs r3 r4>>=fun r5=>
  if r5.2 then
   if r5.1.Id then
    if(Af n.Kind 1)then
     room (out.length+1) 64>>=fun x_1=>
     GQ (out++[x2]) n (AV x1 1) h
    else
     GQ out n (AV x1 1) h
   else
    GQ out n (AV x1 1) h
  else
   GQ out n (AV x1 1) h
 else
  some out
 partial_fixpoint
def XE (n:A0) (h:D2):Option (List A3):=
 GQ [] n 0 h
def I8 (a:A3) (a1:ByteArray):Option (Bool):=
 some (D5 a.Val a1)
def BC (s:List A3) (fc0:ByteArray) (x1:Int):Option (Int):=
 if(HC x1 (AD s))then
  getI s x1>>=fun x2=>
  I8 x2 fc0>>=fun r1=>
  if r1 then
   some x1
  else
   BC s fc0 (AV x1 1)
 else
  some (-1)
 partial_fixpoint
def Cf (s:List A3) (fc0:ByteArray):Option (Int):=
 BC s fc0 0
def C9 (s:List A3) (fc0:ByteArray):Option (Bool):=
 Cf s fc0>>=fun r=>
 some (UV r 0)
def EW (f:AP) (id:ByteArray) (r:List (List Int)) (x1:Int):Option (List (List Int)):=
 if(HC x1 (AD r))then
  getI r x1>>=fun x2=>
  HJ f.xt x2>>=fun r4=>
  XE r4.1 f.xh>>=fun r5=>
  C9 r5 id>>=fun r6=>
  if r6 then
   some [x2]
  else
   EW f id r (AV x1 1)
 else
  some []
 partial_fixpoint
def Gh (f:AP) (id:ByteArray):Option (List (List Int)):=
 if(D5 id (⟨#[]⟩))then
  some [[]]
 else
  HH f.xt>>=fun r=>
  EW f id r 0
def Gi (x3:Int) (n1:Int):Option (Int):=
 if(UV x3 256)then
  fw .u64 x3 8>>=fun x4=>
  SZ (⟨#[0,1,2,2,3,3,3,3,4,4,4,4,4,4,4,4,5,5,5,5,5,5,5,5,5,5,5,5,5,5,5,5,6,6,6,6,6,6,6,6,6,6,6,6,6,6,6,6,6,6,6,6,6,6,6,6,6,6,6,6,6,6,6,6,7,7,7,7,7,7,7,7,7,7,7,7,7,7,7,7,7,7,7,7,7,7,7,7,7,7,7,7,7,7,7,7,7,7,7,7,7,7,7,7,7,7,7,7,7,7,7,7,7,7,7,7,7,7,7,7,7,7,7,7,7,7,7,7,8,8,8,8,8,8,8,8,8,8,8,8,8,8,8,8,8,8,8,8,8,8,8,8,8,8,8,8,8,8,8,8,8,8,8,8,8,8,8,8,8,8,8,8,8,8,8,8,8,8,8,8,8,8,8,8,8,8,8,8,8,8,8,8,8,8,8,8,8,8,8,8,8,8,8,8,8,8,8,8,8,8,8,8,8,8,8,8,8,8,8,8,8,8,8,8,8,8,8,8,8,8,8,8,8,8,8,8,8,8,8,8,8,8,8,8,8,8,8,8,8,8,8,8,8,8,8,8]⟩) (wr .u8 x4)>>=fun x5=>
  some (AV (AV n1 8) (wr .i64 x5))
 else
  SZ (⟨#[0,1,2,2,3,3,3,3,4,4,4,4,4,4,4,4,5,5,5,5,5,5,5,5,5,5,5,5,5,5,5,5,6,6,6,6,6,6,6,6,6,6,6,6,6,6,6,6,6,6,6,6,6,6,6,6,6,6,6,6,6,6,6,6,7,7,7,7,7,7,7,7,7,7,7,7,7,7,7,7,7,7,7,7,7,7,7,7,7,7,7,7,7,7,7,7,7,7,7,7,7,7,7,7,7,7,7,7,7,7,7,7,7,7,7,7,7,7,7,7,7,7,7,7,7,7,7,7,8,8,8,8,8,8,8,8,8,8,8,8,8,8,8,8,8,8,8,8,8,8,8,8,8,8,8,8,8,8,8,8,8,8,8,8,8,8,8,8,8,8,8,8,8,8,8,8,8,8,8,8,8,8,8,8,8,8,8,8,8,8,8,8,8,8,8,8,8,8,8,8,8,8,8,8,8,8,8,8,8,8,8,8,8,8,8,8,8,8,8,8,8,8,8,8,8,8,8,8,8,8,8,8,8,8,8,8,8,8,8,8,8,8,8,8,8,8,8,8,8,8,8,8,8,8,8,8]⟩) (wr .u8 x3)>>=fun x6=>
  some (AV n1 (wr .i64 x6))
def Hg (x1:Int) (n:Int):Option (Int):=
 if(UV x1 65536)then
  fw .u64 x1 16>>=fun x2=>
  Gi x2 (AV n 16)
 else
  Gi x1 n
def PL (a0:Int):Option (Int):=
 if(UV a0 4294967296)then
  fw .u64 a0 32>>=fun x=>
  Hg x 32
 else
  Hg a0 0
def OA (a0:Int):Option (Int):=
 PL a0>>=fun r=>
 some r
def Ji (a0:Int):Option (Bool):=
 some (neI a0 a0)
def Ht (a0:Int) (y:Int):Option (Int):=
 Ji a0>>=fun r=>
 Ji y>>=fun r1=>
 if r then
  if r1 then
   some 0
  else
   some (-1)
 else
  if r1 then
   some 1
  else
   if(HC a0 y)then
    some (-1)
   else
    if(SH a0 y)then
     some 1
    else
     some 0
def BN (s1:List Int) (s2:List Int) (x2:Int):Option (Int):=
 if(HC x2 (AD s1))then
  getI s1 x2>>=fun x3=>
  if(UV x2 (AD s2))then
   some 1
  else
   getI s2 x2>>=fun x4=>
   Ht x3 x4>>=fun r1=>
   if(neI r1 0)then
    some r1
   else
    BN s1 s2 (AV x2 1)
 else
  if(HC (AD s1) (AD s2))then
   some (-1)
  else
   some 0
 partial_fixpoint
def Hh (s1:List Int) (s2:List Int):Option (Int):=
 BN s1 s2 0
def FR (a:List Int) (b:List Int):Option (Int):=
 Hh a b>>=fun r=>
 some r
mutual
def AC (data3:List (List Int)) (a:Int) (b:Int) (i:Int) (j1:Int):Option (List (List Int)):=
 if(SH j1 a)then
  getI data3 j1>>=fun x18=>
  getI data3 (CH j1 1)>>=fun x19=>
  FR x18 x19>>=fun r3=>
  if(HC r3 0)then
   getI data3 (CH j1 1)>>=fun x20=>
   getI data3 j1>>=fun x21=>
   getI data3 j1>>=fun x22=>
   getI (data3.set (Int.toNat j1) x20) (CH j1 1)>>=fun x23=>
   AC ((data3.set (Int.toNat j1) x20).set (Int.toNat (CH j1 1)) x21) a b i (CH j1 1)
  else
   AE data3 a b (AV i 1)
 else
  AE data3 a b (AV i 1)
 partial_fixpoint
def AE (data2:List (List Int)) (a:Int) (b:Int) (i:Int):Option (List (List Int)):=
 if(HC i b)then
  AC data2 a b i i
 else
  some data2
 partial_fixpoint
end
def Am (data:List (List Int)) (a:Int) (b:Int):Option (List (List Int)):=
 AE data a b (AV a 1)
def Au (data:List (List Int)) (a:Int) (b:Int) (limit:Int):Option (List (List Int)):=
 if(U1 (CH b a) 12)then
  Am data a b>>=fun r=>
  Y2 r data>>=fun _=>
  some r
 else
  if(Af limit 0)then
   none
  else
   none
def B9 (data:List (List Int)) (a:Int) (b:Int) (limit:Int):Option (List (List Int)):=
 Au data a b limit
def B8 (a0:List (List Int)):Option (List (List Int)):=
 OA (wr .u64 (AD a0))>>=fun r=>
 B9 a0 0 (AD a0) r>>=fun r1=>
 Y2 r1 a0>>=fun _=>
 some r1
def Bd (s1:List Int) (s2:List Int) (x2:Int):Option (Bool):=
 if(HC x2 (AD s1))then
  getI s1 x2>>=fun x3=>
  getI s2 x2>>=fun x4=>
  if(neI x3 x4)then
   some false
  else
   Bd s1 s2 (AV x2 1)
 else
  some true
 partial_fixpoint
def H5 (s1:List Int) (s2:List Int):Option (Bool):=
 if(neI (AD s1) (AD s2))then
  some false
 else
  Bd s1 s2 0
def GR (a:List Int) (b:List Int):Option (Bool):=
 H5 a b>>=fun r=>
 some r
def AO (s:List (List Int)) (k:Int):Option (List (List Int)):=
 if(HC k (AD s))then
  getI s k>>=fun x2=>
  getI s (CH k 1)>>=fun x3=>
  GR x2 x3>>=fun r1=>
  if r1 then
   none
  else
   AO s (AV k 1)
 else
  some s
 partial_fixpoint
def AR (s:List (List Int)):Option (List (List Int)):=
 if(HC (AD s) 2)then
  some s
 else
  AO s 1
def Kd (f:AP) (n:A0) (pre:ByteArray) (local1:ByteArray):Option (Bool):=
 JD f.xl pre>>=fun r=>
 if(Af n.Kind 1)then
  if(D5 n.Local local1)then
   some (D5 n.Uri r.1)
  else
   some false
 else
  some false
def FS (f:AP) (n:A0) (s:AJ):Option (Bool):=
 if(Af s.Kind 1)then
  Kd f n s.Pre s.Local>>=fun r=>
  some r
 else
  if(Af s.Kind 2)then
   some (Af n.Kind 1)
  else
   if(Af s.Kind 3)then
    some (Af n.Kind 2)
   else
    if(Af s.Kind 4)then
     some (Af n.Kind 3)
    else
     if(Af n.Kind 4)then
      if(D5 s.Local (⟨#[]⟩))then
       some true
      else
       some (D5 n.Local s.Local)
     else
      some false
def BI (out2:List (Int)) (s:AJ) (x10:Int) (f:AP) (n:A0):Option (List Int):=
 if(HC x10 (AD s.Preds))then
  getI s.Preds x10>>=fun x11=>
  if(neI x11.Kind 1)then
   none
  else
   if(U1 x11.N (AD out2))then
    slL out2 (CH x11.N 1) x11.N>>=fun x12=>
    BI x12 s (AV x10 1) f n
   else
    BI [] s (AV x10 1) f n
 else
  some out2
 partial_fixpoint
def BO (out1:List (Int)) (n:A0) (x6:Int) (f:AP) (s:AJ):Option (List Int):=
 if(HC x6 (AD n.Kids))then
  getI n.Kids x6>>=fun x7=>
  FS f x7 s>>=fun r1=>
  if r1 then
   room (out1.length+1) 8>>=fun x_1=>
   BO (out1++[x6]) n (AV x6 1) f s
  else
   BO out1 n (AV x6 1) f s
 else
  BI out1 s 0 f n
 partial_fixpoint
def Ar (f:AP) (n:A0) (s:AJ):Option (List Int):=
 BO [] n 0 f s
mutual
def Bn (f:AP) (out3:List (List Int)) (x11:List Int) (below1:List (List Int)) (from1:List (List Int)) (x10:Int) (sDeep2:Bool) (s:AJ) (r12:A0×Bool):Option (List (List Int)):=
 BJ f out3 x11 from1 x10 below1 0 sDeep2 s r12
 partial_fixpoint
def Bo (f:AP) (out6:List (List Int)) (x11:List Int) (x17:List Int) (from1:List (List Int)) (x10:Int) (below1:List (List Int)) (x16:Int) (r19:List Int) (x19:Int) (sDeep2:Bool) (s:AJ) (r12:A0×Bool):Option (List (List Int)):=
 if(HC x19 (AD r19))then
  getI r19 x19>>=fun x20=>
  Cj [x11,x17,[x20]]>>=fun r21=>
  room (out6.length+1) 24>>=fun x_7=>
  Bo f (out6++[r21]) x11 x17 from1 x10 below1 x16 r19 (AV x19 1) sDeep2 s r12
 else
  BJ f out6 x11 from1 x10 below1 (AV x16 1) sDeep2 s r12
 partial_fixpoint
def BJ (f:AP) (out5:List (List Int)) (x11:List Int) (from1:List (List Int)) (x10:Int) (below1:List (List Int)) (x16:Int) (sDeep2:Bool) (s:AJ) (r12:A0×Bool):Option (List (List Int)):=
 if(HC x16 (AD below1))then
  getI below1 x16>>=fun x17=>
  HJ r12.1 x17>>=fun r18=>
  Ar f r18.1 (AJ.mk sDeep2 s.Kind s.Pre s.Local s.Preds)>>=fun r19=>
  Bo f out5 x11 x17 from1 x10 below1 x16 r19 0 sDeep2 s r12
 else
  C4 f out5 from1 (AV x10 1) sDeep2 s
 partial_fixpoint
def C4 (f:AP) (out3:List (List Int)) (from1:List (List Int)) (x10:Int) (sDeep1:Bool) (s:AJ):Option (List (List Int)):=
 if(HC x10 (AD from1))then
  getI from1 x10>>=fun x11=>
  HJ f.xt x11>>=fun r12=>
  if sDeep1 then
   HH r12.1>>=fun r13=>
   Bn f out3 x11 r13 from1 x10 true s r12
  else
   Bn f out3 x11 [[]] from1 x10 false s r12
 else
  B8 out3>>=fun r22=>
  Y2 r22 out3>>=fun _=>
  AR r22>>=fun r23=>
  some r23
 partial_fixpoint
end
def fh := @Bn.mutual_partial_correctness
def E0 (f:AP) (from1:List (List Int)) (s:AJ):Option (List (List Int)):=
 C4 f [] from1 0 s.Deep s
def EX (local1:ByteArray) (uri:ByteArray) (a:A3):Option (Bool):=
 if(D5 a.Local local1)then
  some (D5 a.Uri uri)
 else
  some false
def Iq (f:AP) (a:A3) (pre:ByteArray) (local1:ByteArray):Option (Bool):=
 if(neS pre (⟨#[]⟩))then
  JD f.xl pre>>=fun r=>
  EX local1 r.1 a
 else
  EX local1 (⟨#[]⟩) a
def Ca (path:List Int) (out2:List (AS)) (r:A0×Bool) (x7:Int) (s:AJ):Option (List AS):=
 if(HC x7 (AD r.1.Decls))then
  getI r.1.Decls x7>>=fun x8=>
  if(Af s.Kind 7)then
   if(D5 x8.Pre s.Local)then
    room (out2.length+1) 40>>=fun x_5=>
    Ca path (out2++[(AS.mk path 7 x7)]) r (AV x7 1) s
   else
    Ca path out2 r (AV x7 1) s
  else
   Ca path out2 r (AV x7 1) s
 else
  some out2
 partial_fixpoint
def Bq (f:AP) (path:List Int) (out1:List (AS)) (r:A0×Bool) (x4:Int) (s:AJ):Option (List AS):=
 if(HC x4 (AD r.1.Attrs))then
  getI r.1.Attrs x4>>=fun x5=>
  if(Af s.Kind 6)then
   Iq f x5 s.Pre s.Local>>=fun r2=>
   if r2 then
    room (out1.length+1) 40>>=fun x_3=>
    Bq f path (out1++[(AS.mk path 6 x4)]) r (AV x4 1) s
   else
    Bq f path out1 r (AV x4 1) s
  else
   Bq f path out1 r (AV x4 1) s
 else
  Ca path out1 r 0 s
 partial_fixpoint
def fi := @Bq.partial_correctness
def Ke (f:AP) (path:List Int) (s:AJ):Option (List AS):=
 HJ f.xt path>>=fun r=>
 Bq f path [] r 0 s
def Jj (t:A0) (h:D2) (l:List A1) (out2:List (AS)) (paths:List (List Int)) (x12:Int) (x9:AJ):Option (List AS×Bool):=
 if(HC x12 (AD paths))then
  getI paths x12>>=fun x13=>
  Ke (AP.mk t h l) x13 x9>>=fun r8=>
  room (out2.length+r8.length) 40>>=fun x_5=>
  Jj t h l (out2++r8) paths (AV x12 1) x9
 else
  some (out2,true)
 partial_fixpoint
def uq := @Jj.partial_correctness
def GS (out3:List (AS)) (paths:List (List Int)) (x15:Int):Option (List AS×Bool):=
 if(HC x15 (AD paths))then
  getI paths x15>>=fun x16=>
  room (out3.length+1) 40>>=fun x_7=>
  GS (out3++[(AS.mk x16 0 0)]) paths (AV x15 1)
 else
  some (out3,true)
 partial_fixpoint
mutual
def Hz (t:A0) (h:D2) (l:List A1) (paths:List (List Int)) (s:Eh) (x8:Int) (x10:Bool) (x9:AJ):Option (List AS×Bool):=
 if x10 then
  Jj t h l [] paths 0 x9
 else
  E0 (AP.mk t h l) paths x9>>=fun r9=>
  DK t h l r9 s (AV x8 1)
 partial_fixpoint
def DK (t:A0) (h:D2) (l:List A1) (paths:List (List Int)) (s:Eh) (x8:Int):Option (List AS×Bool):=
 if(HC x8 (AD s.Steps))then
  getI s.Steps x8>>=fun x9=>
  if(Af x9.Kind 6)then
   Hz t h l paths s x8 true x9
  else
   Hz t h l paths s x8 (Af x9.Kind 7) x9
 else
  GS [] paths 0
 partial_fixpoint
end
def ur := @Hz.mutual_partial_correctness
def NJ (t:A0) (h:D2) (s:Eh) (l:List A1):Option (List AS×Bool):=
 Io t>>=fun r=>
 if r then
  NH s>>=fun r1=>
  if r1 then
   NI s l>>=fun r2=>
   if r2 then
    Gh (AP.mk t h l) s.Id>>=fun r3=>
    DK t h l r3 s 0
   else
    some ([],false)
  else
   some ([],false)
 else
  some ([],false)
def Cs (n:Int) (i:Int) (r1:A0):Option (Bool):=
 if(HC i 4)then
  getI [2,3,4,5] i>>=fun x1=>
  NJ r1 (D2.mk (⟨#[]⟩) [] []) (Eh.mk (⟨#[]⟩) [(AJ.mk true x1 (⟨#[]⟩) (⟨#[]⟩) [])]) []>>=fun r4=>
  if r4.2 then
   Cs (AV n (AD r4.1)) (AV i 1) r1
  else
   some false
 else
  HH r1>>=fun r5=>
  some (Af n (CH (AD r5) 1))
 partial_fixpoint
def TL (code:List Int):Option (Bool):=
 YI code>>=fun r=>
 if r then
  some true
 else
  Jh code>>=fun r1=>
  Cs 0 0 r1
end TT
