import Derived.Test.YtkbbbbeagnfliaaGreatDoorTTypes
set_option maxHeartbeats 2000000
set_option linter.unusedVariables false
set_option linter.unusedSimpArgs false
set_option linter.defProp false
set_option maxRecDepth 100000
set_option synthInstance.maxHeartbeats 4000000
set_option synthInstance.maxSize 100000
namespace TT
open Go
def ME (a:GPred) (left:Int):Option (Int):=
 if(BV (AY left (AL a.Pre)) 0)then
  some (-1)
 else
  if(BV (AY (AY left (AL a.Pre)) (AL a.Local)) 0)then
   some (-1)
  else
   if(BV (AY (AY (AY left (AL a.Pre)) (AL a.Local)) (AL a.Val)) 0)then
    some (-1)
   else
    some (AY (AY (AY left (AL a.Pre)) (AL a.Local)) (AL a.Val))
def Fa (a:List GPred) (left1 i:Int):Option (Int):=
 if(BV i (AF a))then
  AZ a i>>=fun x1=>
  ME x1 left1>>=fun r1=>
  if(BV r1 0)then
   some (-1)
  else
   Fa a r1 (Ac i 1)
 else
  some left1
 partial_fixpoint
def FO (a:List GPred) (left:Int):Option (Int):=
 if(BV (AY left (AF a)) 0)then
  some (-1)
 else
  Fa a (AY left (AF a)) 0
def MF (a:GStp) (left:Int):Option (Int):=
 if(BV (AY left (AL a.Pre)) 0)then
  some (-1)
 else
  if(BV (AY (AY left (AL a.Pre)) (AL a.Local)) 0)then
   some (-1)
  else
   FO a.Preds (AY (AY left (AL a.Pre)) (AL a.Local))>>=fun r=>
   if(BV r 0)then
    some (-1)
   else
    some r
def Fb (a:List GStp) (left1 i:Int):Option (Int):=
 if(BV i (AF a))then
  AZ a i>>=fun x1=>
  MF x1 left1>>=fun r1=>
  if(BV r1 0)then
   some (-1)
  else
   Fb a r1 (Ac i 1)
 else
  some left1
 partial_fixpoint
def Gd (a:List GStp) (left:Int):Option (Int):=
 if(BV (AY left (AF a)) 0)then
  some (-1)
 else
  Fb a (AY left (AF a)) 0
def Ps (a:GSel) (left:Int):Option (Int):=
 if(BV (AY left (AL a.Id)) 0)then
  some (-1)
 else
  Gd a.Steps (AY left (AL a.Id))>>=fun r=>
  if(BV r 0)then
   some (-1)
  else
   some r
def MG (a:GDecl) (left:Int):Option (Int):=
 if(BV (AY left (AL a.Pre)) 0)then
  some (-1)
 else
  if(BV (AY (AY left (AL a.Pre)) (AL a.Uri)) 0)then
   some (-1)
  else
   some (AY (AY left (AL a.Pre)) (AL a.Uri))
def Fc (a:List GDecl) (left1 i:Int):Option (Int):=
 if(BV i (AF a))then
  AZ a i>>=fun x1=>
  MG x1 left1>>=fun r1=>
  if(BV r1 0)then
   some (-1)
  else
   Fc a r1 (Ac i 1)
 else
  some left1
 partial_fixpoint
def Bt (a:List GDecl) (left:Int):Option (Int):=
 if(BV (AY left (AF a)) 0)then
  some (-1)
 else
  Fc a (AY left (AF a)) 0
def MH (a:GAttr) (left:Int):Option (Int):=
 if(BV (AY left (AL a.Pre)) 0)then
  some (-1)
 else
  if(BV (AY (AY left (AL a.Pre)) (AL a.Local)) 0)then
   some (-1)
  else
   if(BV (AY (AY (AY left (AL a.Pre)) (AL a.Local)) (AL a.Uri)) 0)then
    some (-1)
   else
    if(BV (AY (AY (AY (AY left (AL a.Pre)) (AL a.Local)) (AL a.Uri)) (AL a.Val)) 0)then
     some (-1)
    else
     some (AY (AY (AY (AY left (AL a.Pre)) (AL a.Local)) (AL a.Uri)) (AL a.Val))
def Fd (a:List GAttr) (left1 i:Int):Option (Int):=
 if(BV i (AF a))then
  AZ a i>>=fun x1=>
  MH x1 left1>>=fun r1=>
  if(BV r1 0)then
   some (-1)
  else
   Fd a r1 (Ac i 1)
 else
  some left1
 partial_fixpoint
def Do (a:List GAttr) (left:Int):Option (Int):=
 if(BV (AY left (AF a)) 0)then
  some (-1)
 else
  Fd a (AY left (AF a)) 0
mutual
def Hi (a:GNode) (left:Int):Option (Int):=
 if(BV (AY left (AL a.Pre)) 0)then
  some (-1)
 else
  if(BV (AY (AY left (AL a.Pre)) (AL a.Local)) 0)then
   some (-1)
  else
   if(BV (AY (AY (AY left (AL a.Pre)) (AL a.Local)) (AL a.Uri)) 0)then
    some (-1)
   else
    Bt a.Decls (AY (AY (AY left (AL a.Pre)) (AL a.Local)) (AL a.Uri))>>=fun r=>
    if(BV r 0)then
     some (-1)
    else
     Do a.Attrs r>>=fun r1=>
     if(BV r1 0)then
      some (-1)
     else
      BG a.Kids r1>>=fun r2=>
      if(BV r2 0)then
       some (-1)
      else
       if(BV (AY r2 (AL a.Text)) 0)then
        some (-1)
       else
        some (AY r2 (AL a.Text))
 partial_fixpoint
def BG (a:List GNode) (left:Int):Option (Int):=
 if(BV (AY left (AF a)) 0)then
  some (-1)
 else
  EH a (AY left (AF a)) 0
 partial_fixpoint
def EH (a:List GNode) (left1 i:Int):Option (Int):=
 if(BV i (AF a))then
  AZ a i>>=fun x1=>
  Hi x1 left1>>=fun r1=>
  if(BV r1 0)then
   some (-1)
  else
   EH a r1 (Ac i 1)
 else
  some left1
 partial_fixpoint
end
def TH (a:GOp) (left:Int):Option (Int):=
 Ps a.Sel left>>=fun r=>
 if(BV r 0)then
  some (-1)
 else
  if(BV (AY r (AL a.Pre)) 0)then
   some (-1)
  else
   if(BV (AY (AY r (AL a.Pre)) (AL a.Local)) 0)then
    some (-1)
   else
    BG a.Kids (AY (AY r (AL a.Pre)) (AL a.Local))>>=fun r1=>
    if(BV r1 0)then
     some (-1)
    else
     Bt a.Decls r1>>=fun r2=>
     if(BV r2 0)then
      some (-1)
     else
      some r2
def HV (a:List GOp) (left1 i:Int):Option (Int):=
 if(BV i (AF a))then
  AZ a i>>=fun x1=>
  TH x1 left1>>=fun r1=>
  if(BV r1 0)then
   some (-1)
  else
   HV a r1 (Ac i 1)
 else
  some left1
 partial_fixpoint
def Pt (a:List GOp) (left:Int):Option (Int):=
 if(BV (AY left (AF a)) 0)then
  some (-1)
 else
  HV a (AY left (AF a)) 0
def MI (a:GPred):Option (GPred):=
 some a
def GI (a:List GPred) (out:List (GPred)) (i:Int):Option (List GPred):=
 if(BV i (AF a))then
  AZ a i>>=fun x2=>
  MI x2>>=fun r1=>
  AZ out i>>=fun x3=>
  GI a (out.set (Int.toNat i) r1) (Ac i 1)
 else
  some out
 partial_fixpoint
def Jc (a:List GPred):Option (List GPred):=
 mkN (AF a) 64>>=fun m=>
 GI a (List.replicate m (GPred.mk 0 0 ⟨#[]⟩ ⟨#[]⟩ ⟨#[]⟩)) 0
def MJ (a:GStp):Option (GStp):=
 Jc a.Preds>>=fun r=>
 some (GStp.mk a.Deep a.Kind a.Pre a.Local r)
def GJ (a:List GStp) (out:List (GStp)) (i:Int):Option (List GStp):=
 if(BV i (AF a))then
  AZ a i>>=fun x2=>
  MJ x2>>=fun r1=>
  AZ out i>>=fun x3=>
  GJ a (out.set (Int.toNat i) r1) (Ac i 1)
 else
  some out
 partial_fixpoint
def Jd (a:List GStp):Option (List GStp):=
 mkN (AF a) 72>>=fun m=>
 GJ a (List.replicate m (GStp.mk false 0 ⟨#[]⟩ ⟨#[]⟩ [])) 0
def Tj (a:GSel):Option (GSel):=
 Jd a.Steps>>=fun r=>
 some (GSel.mk a.Id r)
def MK (a:GDecl):Option (GDecl):=
 some a
def GK (a:List GDecl) (out:List (GDecl)) (i:Int):Option (List GDecl):=
 if(BV i (AF a))then
  AZ a i>>=fun x2=>
  MK x2>>=fun r1=>
  AZ out i>>=fun x3=>
  GK a (out.set (Int.toNat i) r1) (Ac i 1)
 else
  some out
 partial_fixpoint
def Hz (a:List GDecl):Option (List GDecl):=
 mkN (AF a) 32>>=fun m=>
 GK a (List.replicate m (GDecl.mk ⟨#[]⟩ ⟨#[]⟩)) 0
def ML (a:GAttr):Option (GAttr):=
 some a
def GL (a:List GAttr) (out:List (GAttr)) (i:Int):Option (List GAttr):=
 if(BV i (AF a))then
  AZ a i>>=fun x2=>
  ML x2>>=fun r1=>
  AZ out i>>=fun x3=>
  GL a (out.set (Int.toNat i) r1) (Ac i 1)
 else
  some out
 partial_fixpoint
def Je (a:List GAttr):Option (List GAttr):=
 mkN (AF a) 64>>=fun m=>
 GL a (List.replicate m (GAttr.mk ⟨#[]⟩ ⟨#[]⟩ ⟨#[]⟩ ⟨#[]⟩)) 0
mutual
def Hj (a:GNode):Option (GNode):=
 Hz a.Decls>>=fun r=>
 Je a.Attrs>>=fun r1=>
 EZ a.Kids>>=fun r2=>
 some (GNode.mk a.Kind a.Pre a.Local a.Uri r r1 r2 a.Text)
 partial_fixpoint
def EZ (a:List GNode):Option (List GNode):=
 mkN (AF a) 144>>=fun m=>
 F6 a (List.replicate m (GNode.mk 0 ⟨#[]⟩ ⟨#[]⟩ ⟨#[]⟩ [] [] [] ⟨#[]⟩)) 0
 partial_fixpoint
def F6 (a:List GNode) (out:List (GNode)) (i:Int):Option (List GNode):=
 if(BV i (AF a))then
  AZ a i>>=fun x2=>
  Hj x2>>=fun r1=>
  AZ out i>>=fun x3=>
  F6 a (out.set (Int.toNat i) r1) (Ac i 1)
 else
  some out
 partial_fixpoint
end
def TI (a:GOp):Option (GOp):=
 Tj a.Sel>>=fun r=>
 EZ a.Kids>>=fun r1=>
 Hz a.Decls>>=fun r2=>
 some (GOp.mk a.Kind r a.Pos a.Typ a.Pre a.Local a.Ws r1 r2)
def IG (a:List GOp) (out:List (GOp)) (i:Int):Option (List GOp):=
 if(BV i (AF a))then
  AZ a i>>=fun x2=>
  TI x2>>=fun r1=>
  AZ out i>>=fun x3=>
  IG a (out.set (Int.toNat i) r1) (Ac i 1)
 else
  some out
 partial_fixpoint
def J0 (a:List GOp):Option (List GOp):=
 mkN (AF a) 152>>=fun m=>
 IG a (List.replicate m (GOp.mk 0 (GSel.mk ⟨#[]⟩ []) 0 0 ⟨#[]⟩ ⟨#[]⟩ 0 [] [])) 0
def DU (a0 least most:Int):Option (Bool):=
 if(geI a0 least)then
  some (TG a0 most)
 else
  some false
def CG (s:ByteArray) (at1 n least v1 i:Int):Option (Int×Int×Bool):=
 if(TG i n)then
  atS s (Ac at1 i)>>=fun x4=>
  if(BV (wr .i64 x4) 128)then
   some (0,0,false)
  else
   if(IR (wr .i64 x4) 191)then
    some (0,0,false)
   else
    CG s at1 n least (AY (Ac (AAc v1 64) (wr .i64 x4)) 128) (Ac i 1)
 else
  if(BV v1 least)then
   some (0,0,false)
  else
   if(IR v1 1114111)then
    some (0,0,false)
   else
    DU v1 55296 57343>>=fun r1=>
    if r1 then
     some (0,0,false)
    else
     some (v1,(Ac (Ac at1 1) n),true)
 partial_fixpoint
def A03 := @CG.partial_correctness
def F7 (s:ByteArray) (at1 n least v:Int):Option (Int×Int×Bool):=
 if(IR at1 (AY (AY (AL s) 1) n))then
  some (0,0,false)
 else
  CG s at1 n least v 1
def GM (s:ByteArray) (at1 x:Int) (x2:Bool):Option (Int×Int×Bool):=
 if x2 then
  F7 s at1 2 2048 (lV .i64 (wr .i64 x) 15)
 else
  if(geI (wr .i64 x) 240)then
   if(BV (wr .i64 x) 248)then
    F7 s at1 3 65536 (lV .i64 (wr .i64 x) 7)
   else
    some (0,0,false)
  else
   some (0,0,false)
def GN (s:ByteArray) (at1 x:Int) (x1:Bool):Option (Int×Int×Bool):=
 if x1 then
  F7 s at1 1 128 (lV .i64 (wr .i64 x) 31)
 else
  if(geI (wr .i64 x) 224)then
   GM s at1 x (BV (wr .i64 x) 240)
  else
   GM s at1 x false
def MM (s:ByteArray) (at1:Int):Option (Int×Int×Bool):=
 if(BV at1 0)then
  some (0,0,false)
 else
  if(geI at1 (AL s))then
   some (0,0,false)
  else
   atS s at1>>=fun x=>
   if(BV (wr .i64 x) 128)then
    some ((wr .i64 x),(Ac at1 1),true)
   else
    if(geI (wr .i64 x) 192)then
     GN s at1 x (BV (wr .i64 x) 224)
    else
     GN s at1 x false
def EI (n:Int) (l:List Int) (i:Int):Option (Bool):=
 if(BV (Ac i 1) (AF l))then
  AZ l i>>=fun x2=>
  AZ l (Ac i 1)>>=fun x3=>
  DU n x2 x3>>=fun r1=>
  if r1 then
   some true
  else
   EI n l (Ac i 2)
 else
  some false
 partial_fixpoint
def IH (n:Int) (l:List Int):Option (Bool):=
 EI n l 0
def Jf (n:Int):Option (Bool):=
 IH n [65,90,95,95,97,122,192,214,216,246,248,767,880,893,895,8191,8204,8205,8304,8591,11264,12271,12289,55295,63744,64975,65008,65533,65536,983039]>>=fun r=>
 some r
def MN (n:Int):Option (Bool):=
 Jf n>>=fun r=>
 if r then
  some true
 else
  IH n [45,46,48,57,183,183,768,879,8255,8256]>>=fun r1=>
  some r1
def CO (s:ByteArray) (at1:Int):Option (Bool):=
 if(BV at1 (AL s))then
  MM s at1>>=fun r5=>
  if r5.2.2 then
   if(AX at1 0)then
    Jf r5.1>>=fun r6=>
    if r6 then
     MN r5.1>>=fun r7=>
     if r7 then
      CO s r5.2.1
     else
      some false
    else
     some false
   else
    MN r5.1>>=fun r8=>
    if r8 then
     CO s r5.2.1
    else
     some false
  else
   some false
 else
  some true
 partial_fixpoint
def Bu (s:ByteArray):Option (Bool):=
 DU (AL s) 1 16>>=fun r=>
 if r then
  CO s 0
 else
  some false
def BK (s:ByteArray) (i:Int):Option (ByteArray×ByteArray×Bool):=
 if(BV i (AL s))then
  atS s i>>=fun x5=>
  if(AX x5 58)then
   PC s 0 i>>=fun x6=>
   Bu x6>>=fun r3=>
   if r3 then
    PC s (Ac i 1) (AL s)>>=fun x7=>
    Bu x7>>=fun r4=>
    if r4 then
     PC s 0 i>>=fun x8=>
     PC s (Ac i 1) (AL s)>>=fun x9=>
     some (x8,x9,true)
    else
     some (⟨#[]⟩,⟨#[]⟩,false)
   else
    some (⟨#[]⟩,⟨#[]⟩,false)
  else
   BK s (Ac i 1)
 else
  some (⟨#[]⟩,⟨#[]⟩,false)
 partial_fixpoint
def Bx (s:ByteArray):Option (ByteArray×ByteArray×Bool):=
 Bu s>>=fun r=>
 if r then
  some (⟨#[]⟩,s,true)
 else
  BK s 0
def Bb (pre local1 s:ByteArray):Option (ByteArray):=
 Bx s>>=fun r=>
 if r.2.2 then
  if(IN r.1 pre)then
   some (⟨#[]⟩)
  else
   if(IN r.2.1 local1)then
    some (⟨#[]⟩)
   else
    some s
 else
  some (⟨#[]⟩)
def Az (pre local1:ByteArray):Option (ByteArray):=
 if(IN pre (⟨#[]⟩))then
  Af pre (⟨#[58]⟩)>>=fun x=>
  Af x local1>>=fun x1=>
  Bb pre local1 x1
 else
  Bb pre local1 local1
def RD (n:Int):Option (Bool):=
 if(AX n 9)then
  some true
 else
  if(AX n 10)then
   some true
  else
   if(AX n 13)then
    some true
   else
    DU n 32 55295>>=fun r=>
    if r then
     some true
    else
     DU n 57344 65533>>=fun r1=>
     if r1 then
      some true
     else
      DU n 65536 1114111>>=fun r2=>
      some r2
def Dz (s:ByteArray) (at1:Int):Option (Bool):=
 if(BV at1 (AL s))then
  MM s at1>>=fun r2=>
  if r2.2.2 then
   RD r2.1>>=fun r3=>
   if r3 then
    Dz s r2.2.1
   else
    some false
  else
   some false
 else
  some (TG (AL s) 1500)
 partial_fixpoint
def Od (s:ByteArray):Option (Bool):=
 Dz s 0
def Ck (s:ByteArray):Option (Bool):=
 if(TG (AL s) 600)then
  Od s>>=fun r=>
  some r
 else
  some false
def Ea (s t:ByteArray) (i:Int):Option (Bool):=
 if(TG (Ac i (AL t)) (AL s))then
  PC s i (Ac i (AL t))>>=fun x1=>
  if(Bq x1 t)then
   some true
  else
   Ea s t (Ac i 1)
 else
  some false
 partial_fixpoint
def G0 (s t:ByteArray):Option (Bool):=
 Ea s t 0
def J1 (s:ByteArray):Option (Bool):=
 Ck s>>=fun r=>
 if r then
  G0 s (⟨#[39]⟩)>>=fun r1=>
  if r1 then
   G0 s (⟨#[34]⟩)>>=fun r2=>
   some (!r2)
  else
   some true
 else
  some false
def G1 (kind:Int) (p:GPred) (x:Bool):Option (Bool):=
 if x then
  DU kind 1 2>>=fun r1=>
  if r1 then
   if(AX p.N 0)then
    Az p.Pre p.Local>>=fun r2=>
    if(IN r2 (⟨#[]⟩))then
     J1 p.Val>>=fun r3=>
     some r3
    else
     some false
   else
    some false
  else
   some false
 else
  if(AX p.Kind 4)then
   DU kind 1 2>>=fun r4=>
   if r4 then
    if(AX p.N 0)then
     if(Bq p.Pre (⟨#[]⟩))then
      if(Bq p.Local (⟨#[]⟩))then
       J1 p.Val>>=fun r5=>
       some r5
      else
       some false
     else
      some false
    else
     some false
   else
    some false
  else
   some false
def HW (p:GPred) (kind:Int):Option (Bool):=
 if(AX p.Kind 1)then
  DU p.N 1 999>>=fun r=>
  if r then
   if(Bq p.Pre (⟨#[]⟩))then
    if(Bq p.Local (⟨#[]⟩))then
     some (Bq p.Val (⟨#[]⟩))
    else
     some false
   else
    some false
  else
   some false
 else
  if(AX p.Kind 2)then
   G1 kind p true
  else
   G1 kind p (AX p.Kind 3)
def EJ (a0:GStp) (x5 xDeep:Bool):Option (Bool):=
 if x5 then
  if(Bq a0.Pre (⟨#[]⟩))then
   some (Bq a0.Local (⟨#[]⟩))
  else
   some false
 else
  if(AX a0.Kind 5)then
   if(Bq a0.Pre (⟨#[]⟩))then
    if(Bq a0.Local (⟨#[]⟩))then
     some true
    else
     Bu a0.Local>>=fun r6=>
     some r6
   else
    some false
  else
   if(AX a0.Kind 7)then
    if(Bq a0.Pre (⟨#[]⟩))then
     Bu a0.Local>>=fun r7=>
     some r7
    else
     some false
   else
    some false
def CB (a0:GStp) (x4 xDeep:Bool):Option (Bool):=
 if x4 then
  Az a0.Pre a0.Local>>=fun r5=>
  some (IN r5 (⟨#[]⟩))
 else
  if(AX a0.Kind 2)then
   EJ a0 true xDeep
  else
   if(AX a0.Kind 3)then
    EJ a0 true xDeep
   else
    EJ a0 (AX a0.Kind 4) xDeep
def Cl (i:Int) (xDeep:Bool) (a0:GStp):Option (Bool):=
 if(BV i (AF a0.Preds))then
  AZ a0.Preds i>>=fun x3=>
  HW x3 a0.Kind>>=fun r4=>
  if r4 then
   Cl (Ac i 1) xDeep a0
  else
   some false
 else
  if(AX a0.Kind 1)then
   CB a0 true xDeep
  else
   CB a0 (AX a0.Kind 6) xDeep
 partial_fixpoint
def Ge (xDeep:Bool) (a0:GStp):Option (Bool):=
 Cl 0 xDeep a0
def J2 (a0:GStp) (last:Bool):Option (Bool):=
 if(IR (AF a0.Preds) 3)then
  some false
 else
  if(geI a0.Kind 6)then
   if last then
    if a0.Deep then
     some false
    else
     if(IR (AF a0.Preds) 0)then
      some false
     else
      Ge false a0
   else
    some false
  else
   Ge a0.Deep a0
def Gz (i:Int) (s:GSel):Option (Bool):=
 if(BV i (AF s.Steps))then
  AZ s.Steps i>>=fun x1=>
  J2 x1 (AX i (AY (AF s.Steps) 1))>>=fun r2=>
  if r2 then
   Gz (Ac i 1) s
  else
   some false
 else
  J1 s.Id>>=fun r3=>
  if r3 then
   if(TG (AF s.Steps) 8)then
    if(IN s.Id (⟨#[]⟩))then
     some true
    else
     some (IR (AF s.Steps) 0)
   else
    some false
  else
   some false
 partial_fixpoint
def Pu (s:GSel):Option (Bool):=
 Gz 0 s
def Lw (s:ByteArray):Option (Bool):=
 if(geI (AL s) 3)then
  PC s 0 3>>=fun x=>
  some (Bq x (⟨#[120,109,108]⟩))
 else
  some false
def J3 (d:GDecl):Option (Bool):=
 Ck d.Uri>>=fun r2=>
 if r2 then
  some (TG (AL d.Uri) 40)
 else
  some false
def MO (d:GDecl):Option (Bool):=
 if(IN d.Pre (⟨#[]⟩))then
  Bu d.Pre>>=fun r=>
  if r then
   Lw d.Pre>>=fun r1=>
   if r1 then
    some false
   else
    if(Bq d.Uri (⟨#[]⟩))then
     some false
    else
     J3 d
  else
   some false
 else
  J3 d
mutual
def Dp (n:GNode):Option (Int):=
 GO (Ac 1 (AF n.Attrs)) 0 n
 partial_fixpoint
def GO (k i:Int) (n:GNode):Option (Int):=
 if(BV i (AF n.Kids))then
  AZ n.Kids i>>=fun x1=>
  Dp x1>>=fun r1=>
  GO (Ac k r1) (Ac i 1) n
 else
  some k
 partial_fixpoint
end
def I1 (s:ByteArray):Option (Bool):=
 if(Bq s (⟨#[]⟩))then
  some true
 else
  Bu s>>=fun r=>
  if r then
   Lw s>>=fun r1=>
   some (!r1)
  else
   some false
def E0 (l:List GDecl) (i:Int):Option (Bool):=
 if(BV i (AF l))then
  AZ l i>>=fun x2=>
  MO x2>>=fun r1=>
  if r1 then
   if(IR i 0)then
    AZ l (AY i 1)>>=fun x3=>
    if(geS x3.Pre x2.Pre)then
     some false
    else
     E0 l (Ac i 1)
   else
    E0 l (Ac i 1)
  else
   some false
 else
  some (TG (AF l) 4)
 partial_fixpoint
def I2 (l:List GDecl):Option (Bool):=
 E0 l 0
def MP (n:GNode):Option (Bool):=
 if(Bq n.Pre (⟨#[]⟩))then
  if(Bq n.Uri (⟨#[]⟩))then
   if(AX (AF n.Decls) 0)then
    if(AX (AF n.Attrs) 0)then
     some (AX (AF n.Kids) 0)
    else
     some false
   else
    some false
  else
   some false
 else
  some false
def Tk (s:ByteArray):Option (Bool):=
 if(neI (AL s) 3)then
  some false
 else
  atS s 0>>=fun x=>
  if(AX x 120)then
   atS s 1>>=fun x1=>
   if(AX x1 109)then
    atS s 2>>=fun x2=>
    if(AX x2 108)then
     some true
    else
     atS s 2>>=fun x3=>
     some (AX x3 76)
   else
    atS s 1>>=fun x4=>
    if(AX x4 77)then
     atS s 2>>=fun x5=>
     if(AX x5 108)then
      some true
     else
      atS s 2>>=fun x6=>
      some (AX x6 76)
    else
     some false
  else
   atS s 0>>=fun x7=>
   if(AX x7 88)then
    atS s 1>>=fun x8=>
    if(AX x8 109)then
     atS s 2>>=fun x9=>
     if(AX x9 108)then
      some true
     else
      atS s 2>>=fun x10=>
      some (AX x10 76)
    else
     atS s 1>>=fun x11=>
     if(AX x11 77)then
      atS s 2>>=fun x12=>
      if(AX x12 108)then
       some true
      else
       atS s 2>>=fun x13=>
       some (AX x13 76)
     else
      some false
   else
    some false
def Jg (n:Int):Option (Bool):=
 if(AX n 9)then
  some true
 else
  if(AX n 10)then
   some true
  else
   if(AX n 13)then
    some true
   else
    some (AX n 32)
def HX (a:GAttr):Option (Bool):=
 Ck a.Val>>=fun r2=>
 if r2 then
  Ck a.Uri>>=fun r3=>
  if r3 then
   some (TG (AL a.Uri) 40)
  else
   some false
 else
  some false
def II (a:GAttr):Option (Bool):=
 I1 a.Pre>>=fun r=>
 if r then
  if(neB (Bq a.Pre (⟨#[]⟩)) (Bq a.Uri (⟨#[]⟩)))then
   some false
  else
   Bu a.Local>>=fun r1=>
   if r1 then
    if(Bq a.Pre (⟨#[]⟩))then
     if(Bq a.Local (⟨#[120,109,108,110,115]⟩))then
      some false
     else
      HX a
    else
     HX a
   else
    some false
 else
  some false
def Gf (a b:GAttr):Option (Bool):=
 if(ltS a.Uri b.Uri)then
  some true
 else
  if(Bq a.Uri b.Uri)then
   some (ltS a.Local b.Local)
  else
   some false
def Ei (i:Int) (n:GNode):Option (Bool):=
 if(BV i (AF n.Attrs))then
  AZ n.Attrs i>>=fun x2=>
  II x2>>=fun r8=>
  if r8 then
   if(IR i 0)then
    AZ n.Attrs (AY i 1)>>=fun x3=>
    Gf x3 x2>>=fun r9=>
    if r9 then
     Ei (Ac i 1) n
    else
     some false
   else
    Ei (Ac i 1) n
  else
   some false
 else
  some true
 partial_fixpoint
def IJ (n:GNode):Option (Bool):=
 Ei 0 n
def G2 (n:GNode):Option (Bool):=
 if(AX n.Kind 1)then
  I1 n.Pre>>=fun r=>
  if r then
   Bu n.Local>>=fun r1=>
   if r1 then
    if(IN n.Text (⟨#[]⟩))then
     some false
    else
     if(IN n.Pre (⟨#[]⟩))then
      if(Bq n.Uri (⟨#[]⟩))then
       some false
      else
       Ck n.Uri>>=fun r2=>
       if r2 then
        if(IR (AL n.Uri) 40)then
         some false
        else
         I2 n.Decls>>=fun r3=>
         if r3 then
          if(IR (AF n.Attrs) 5)then
           some false
          else
           IJ n
         else
          some false
       else
        some false
     else
      Ck n.Uri>>=fun r4=>
      if r4 then
       if(IR (AL n.Uri) 40)then
        some false
       else
        I2 n.Decls>>=fun r5=>
        if r5 then
         if(IR (AF n.Attrs) 5)then
          some false
         else
          IJ n
        else
         some false
      else
       some false
   else
    some false
  else
   some false
 else
  if(AX n.Kind 2)then
   MP n>>=fun r10=>
   if r10 then
    if(Bq n.Local (⟨#[]⟩))then
     if(IN n.Text (⟨#[]⟩))then
      Ck n.Text>>=fun r11=>
      some r11
     else
      some false
    else
     some false
   else
    some false
  else
   if(AX n.Kind 3)then
    MP n>>=fun r12=>
    if r12 then
     if(Bq n.Local (⟨#[]⟩))then
      Ck n.Text>>=fun r13=>
      if r13 then
       G0 n.Text (⟨#[45,45]⟩)>>=fun r14=>
       if r14 then
        some false
       else
        G0 n.Text (⟨#[13]⟩)>>=fun r15=>
        if r15 then
         some false
        else
         if(Bq n.Text (⟨#[]⟩))then
          some true
         else
          atS n.Text (AY (AL n.Text) 1)>>=fun x4=>
          some (neI x4 45)
      else
       some false
     else
      some false
    else
     some false
   else
    if(AX n.Kind 4)then
     MP n>>=fun r16=>
     if r16 then
      Bu n.Local>>=fun r17=>
      if r17 then
       Tk n.Local>>=fun r18=>
       if r18 then
        some false
       else
        Ck n.Text>>=fun r19=>
        if r19 then
         G0 n.Text (⟨#[63,62]⟩)>>=fun r20=>
         if r20 then
          some false
         else
          G0 n.Text (⟨#[13]⟩)>>=fun r21=>
          if r21 then
           some false
          else
           if(Bq n.Text (⟨#[]⟩))then
            some true
           else
            atS n.Text 0>>=fun x5=>
            Jg (wr .i64 x5)>>=fun r22=>
            some (!r22)
        else
         some false
      else
       some false
     else
      some false
    else
     some false
mutual
def DV (l:List GNode) (deep:Int):Option (Bool):=
 G3 l deep 0
 partial_fixpoint
def GP (l:List GNode) (deep i:Int) (x2:GNode):Option (Bool):=
 if(AX x2.Kind 1)then
  if(AX deep 7)then
   some false
  else
   DV x2.Kids (Ac deep 1)>>=fun r3=>
   if r3 then
    G3 l deep (Ac i 1)
   else
    some false
 else
  G3 l deep (Ac i 1)
 partial_fixpoint
def G3 (l:List GNode) (deep i:Int):Option (Bool):=
 if(BV i (AF l))then
  AZ l i>>=fun x2=>
  G2 x2>>=fun r2=>
  if r2 then
   if(AX x2.Kind 2)then
    if(IR i 0)then
     AZ l (AY i 1)>>=fun x3=>
     if(AX x3.Kind 2)then
      some false
     else
      GP l deep i x2
    else
     GP l deep i x2
   else
    GP l deep i x2
  else
   some false
 else
  some true
 partial_fixpoint
end
mutual
def GQ (k2 i:Int) (n:GNode):Option (Bool):=
 AZ n.Kids i>>=fun x3=>
 if(AX x3.Kind 2)then
  some false
 else
  F8 k2 (Ac i 1) n
 partial_fixpoint
def F8 (k1 i:Int) (n:GNode):Option (Bool):=
 if(BV i (AF n.Kids))then
  AZ n.Kids i>>=fun x2=>
  if(AX x2.Kind 1)then
   GQ (Ac k1 1) i n
  else
   GQ k1 i n
 else
  if(AX k1 1)then
   if(Bq n.Pre (⟨#[]⟩))then
    if(Bq n.Local (⟨#[]⟩))then
     if(Bq n.Uri (⟨#[]⟩))then
      if(Bq n.Text (⟨#[]⟩))then
       if(AX (AF n.Decls) 0)then
        if(AX (AF n.Attrs) 0)then
         DV n.Kids 0>>=fun r3=>
         some r3
        else
         some false
       else
        some false
      else
       some false
     else
      some false
    else
     some false
   else
    some false
  else
   some false
 partial_fixpoint
end
def J4 (n:GNode):Option (Bool):=
 Dp n>>=fun r=>
 if(IR r 60)then
  some false
 else
  if(neI n.Kind 0)then
   DV [n] 0>>=fun r1=>
   some r1
  else
   F8 0 0 n
def Tl (l more:List GDecl):Option (List GDecl):=
 room (0+l.length) 32>>=fun x_=>
 room ((0+l.length)+more.length) 32>>=fun x_1=>
 some (([]++l)++more)
def F9 (l:List GDecl) (pre:ByteArray) (i:Int):Option (ByteArray×Bool):=
 if(geI i 0)then
  AZ l i>>=fun x1=>
  if(Bq x1.Pre pre)then
   some (x1.Uri,true)
  else
   F9 l pre (AY i 1)
 else
  some (⟨#[]⟩,(Bq pre (⟨#[]⟩)))
 partial_fixpoint
def FP (l:List GDecl) (pre:ByteArray):Option (ByteArray×Bool):=
 F9 l pre (AY (AF l) 1)
mutual
def Ej (n:GNode) (l:List GDecl):Option (Bool):=
 Tl l n.Decls>>=fun r=>
 if(AX n.Kind 1)then
  FP r n.Pre>>=fun r1=>
  if r1.2 then
   if(IN r1.1 n.Uri)then
    some false
   else
    J5 r n
  else
   some false
 else
  J5 r n
 partial_fixpoint
def J5 (r:List GDecl) (n:GNode):Option (Bool):=
 FB r 0 n
 partial_fixpoint
def FA (r:List GDecl) (i2:Int) (n:GNode):Option (Bool):=
 if(BV i2 (AF n.Kids))then
  AZ n.Kids i2>>=fun x5=>
  Ej x5 r>>=fun r7=>
  if r7 then
   FA r (Ac i2 1) n
  else
   some false
 else
  some true
 partial_fixpoint
def FB (r:List GDecl) (i1:Int) (n:GNode):Option (Bool):=
 if(BV i1 (AF n.Attrs))then
  AZ n.Attrs i1>>=fun x3=>
  FP r x3.Pre>>=fun r5=>
  if(IN x3.Pre (⟨#[]⟩))then
   if r5.2 then
    if(IN r5.1 x3.Uri)then
     some false
    else
     FB r (Ac i1 1) n
   else
    some false
  else
   FB r (Ac i1 1) n
 else
  FA r 0 n
 partial_fixpoint
end
def J6 (o:GOp):Option (Bool):=
 if(AX o.Typ 6)then
  some true
 else
  if(AX o.Typ 7)then
   if(Bq o.Pre (⟨#[]⟩))then
    Lw o.Local>>=fun r34=>
    some (!r34)
   else
    some false
  else
   some false
def Bg (n1 i2:Int) (o:GOp):Option (Bool):=
 if(BV i2 (AF o.Kids))then
  AZ o.Kids i2>>=fun x18=>
  Dp x18>>=fun r28=>
  if(AX x18.Kind 0)then
   some false
  else
   J4 x18>>=fun r29=>
   if r29 then
    Ej x18 o.Decls>>=fun r30=>
    if r30 then
     if(IR i2 0)then
      if(AX x18.Kind 2)then
       AZ o.Kids (AY i2 1)>>=fun x19=>
       if(AX x19.Kind 2)then
        some false
       else
        Bg (Ac n1 r28) (Ac i2 1) o
      else
       Bg (Ac n1 r28) (Ac i2 1) o
     else
      Bg (Ac n1 r28) (Ac i2 1) o
    else
     some false
   else
    some false
 else
  if(IR n1 60)then
   some false
  else
   if(AX o.Kind 1)then
    if(neI o.Ws 0)then
     some false
    else
     DU o.Pos 0 3>>=fun r31=>
     if r31 then
      if(AX o.Typ 0)then
       if(Bq o.Pre (⟨#[]⟩))then
        some (Bq o.Local (⟨#[]⟩))
       else
        some false
      else
       if(neI o.Pos 0)then
        some false
       else
        if(IR (AF o.Kids) 1)then
         some false
        else
         if(AX (AF o.Kids) 1)then
          AZ o.Kids 0>>=fun x20=>
          if(neI x20.Kind 2)then
           some false
          else
           Az o.Pre o.Local>>=fun r32=>
           if(Bq r32 (⟨#[]⟩))then
            some false
           else
            J6 o
         else
          Az o.Pre o.Local>>=fun r33=>
          if(Bq r33 (⟨#[]⟩))then
           some false
          else
           J6 o
     else
      some false
   else
    if(AX o.Kind 3)then
     DU o.Ws 0 3>>=fun r35=>
     if r35 then
      if(AX o.Pos 0)then
       if(AX o.Typ 0)then
        if(Bq o.Pre (⟨#[]⟩))then
         if(Bq o.Local (⟨#[]⟩))then
          some (AX (AF o.Kids) 0)
         else
          some false
        else
         some false
       else
        some false
      else
       some false
     else
      some false
    else
     if(AX o.Ws 0)then
      if(AX o.Pos 0)then
       if(AX o.Typ 0)then
        if(Bq o.Pre (⟨#[]⟩))then
         some (Bq o.Local (⟨#[]⟩))
        else
         some false
       else
        some false
      else
       some false
     else
      some false
 partial_fixpoint
mutual
def FU (i1 k1:Int) (o:GOp):Option (Bool):=
 if(BV k1 i1)then
  AZ o.Decls k1>>=fun x13=>
  AZ o.Decls i1>>=fun x14=>
  if(Bq x13.Pre x14.Pre)then
   some false
  else
   FU i1 (Ac k1 1) o
 else
  FV (Ac i1 1) o
 partial_fixpoint
def FV (i1:Int) (o:GOp):Option (Bool):=
 if(BV i1 (AF o.Decls))then
  AZ o.Decls i1>>=fun x10=>
  MO x10>>=fun r19=>
  if r19 then
   FU i1 0 o
  else
   some false
 else
  Bg 0 0 o
 partial_fixpoint
end
def Vh (o:GOp):Option (Bool):=
 DU o.Kind 1 3>>=fun r=>
 if r then
  Pu o.Sel>>=fun r1=>
  if r1 then
   if(IR (AF o.Decls) 8)then
    some false
   else
    FV 0 o
  else
   some false
 else
  some false
def FW (s:ByteArray):Option (ByteArray):=
 G0 s (⟨#[39]⟩)>>=fun r=>
 if r then
  Af (⟨#[34]⟩) s>>=fun x=>
  Af x (⟨#[34]⟩)>>=fun x1=>
  some x1
 else
  Af (⟨#[39]⟩) s>>=fun x2=>
  Af x2 (⟨#[39]⟩)>>=fun x3=>
  some x3
def DF (s:ByteArray) (x3:Int):Option (ByteArray):=
 if(IR x3 0)then
  A1T x3 10>>=fun x4=>
  Af (⟨([UInt8.ofNat ((wr .u8 (Ac 48 x4))).toNat]).toArray⟩) s>>=fun x5=>
  A1S x3 10>>=fun x6=>
  DF x5 x6
 else
  some s
 partial_fixpoint
def RE (n:Int):Option (ByteArray):=
 DF (⟨#[]⟩) n
def Oe (p:GPred):Option (ByteArray):=
 if(AX p.Kind 1)then
  RE p.N>>=fun r=>
  Af (⟨#[91]⟩) r>>=fun x=>
  Af x (⟨#[93]⟩)>>=fun x1=>
  some x1
 else
  if(AX p.Kind 2)then
   Az p.Pre p.Local>>=fun r1=>
   Af (⟨#[91,64]⟩) r1>>=fun x2=>
   Af x2 (⟨#[61]⟩)>>=fun x3=>
   FW p.Val>>=fun r2=>
   Af x3 r2>>=fun x4=>
   Af x4 (⟨#[93]⟩)>>=fun x5=>
   some x5
  else
   if(AX p.Kind 3)then
    Az p.Pre p.Local>>=fun r3=>
    Af (⟨#[91]⟩) r3>>=fun x6=>
    Af x6 (⟨#[61]⟩)>>=fun x7=>
    FW p.Val>>=fun r4=>
    Af x7 r4>>=fun x8=>
    Af x8 (⟨#[93]⟩)>>=fun x9=>
    some x9
   else
    FW p.Val>>=fun r5=>
    Af (⟨#[91,46,61]⟩) r5>>=fun x10=>
    Af x10 (⟨#[93]⟩)>>=fun x11=>
    some x11
def Cq (s1:ByteArray) (i:Int) (a0:GStp):Option (ByteArray):=
 if(BV i (AF a0.Preds))then
  AZ a0.Preds i>>=fun x6=>
  Oe x6>>=fun r3=>
  Af s1 r3>>=fun x7=>
  Cq x7 (Ac i 1) a0
 else
  some s1
 partial_fixpoint
def CH (s:ByteArray) (a0:GStp):Option (ByteArray):=
 Cq s 0 a0
def FQ (a0:GStp):Option (ByteArray):=
 if(AX a0.Kind 1)then
  Az a0.Pre a0.Local>>=fun r=>
  CH r a0
 else
  if(AX a0.Kind 2)then
   CH (⟨#[42]⟩) a0
  else
   if(AX a0.Kind 3)then
    CH (⟨#[116,101,120,116,40,41]⟩) a0
   else
    if(AX a0.Kind 4)then
     CH (⟨#[99,111,109,109,101,110,116,40,41]⟩) a0
    else
     if(AX a0.Kind 5)then
      if(IN a0.Local (⟨#[]⟩))then
       Af (⟨#[112,114,111,99,101,115,115,105,110,103,45,105,110,115,116,114,117,99,116,105,111,110,40,39]⟩) a0.Local>>=fun x=>
       Af x (⟨#[39,41]⟩)>>=fun x1=>
       CH x1 a0
      else
       CH (⟨#[112,114,111,99,101,115,115,105,110,103,45,105,110,115,116,114,117,99,116,105,111,110,40,41]⟩) a0
     else
      if(AX a0.Kind 6)then
       Az a0.Pre a0.Local>>=fun r1=>
       Af (⟨#[64]⟩) r1>>=fun x2=>
       CH x2 a0
      else
       Af (⟨#[110,97,109,101,115,112,97,99,101,58,58]⟩) a0.Local>>=fun x3=>
       CH x3 a0
def By (out1:ByteArray) (i:Int) (s:GSel):Option (ByteArray):=
 if(BV i (AF s.Steps))then
  AZ s.Steps i>>=fun x10=>
  if x10.Deep then
   Af out1 (⟨#[47,47]⟩)>>=fun x11=>
   FQ (GStp.mk true x10.Kind x10.Pre x10.Local x10.Preds)>>=fun r6=>
   Af x11 r6>>=fun x12=>
   By x12 (Ac i 1) s
  else
   if(IR i 0)then
    Af out1 (⟨#[47]⟩)>>=fun x13=>
    FQ (GStp.mk false x10.Kind x10.Pre x10.Local x10.Preds)>>=fun r7=>
    Af x13 r7>>=fun x14=>
    By x14 (Ac i 1) s
   else
    if(IN s.Id (⟨#[]⟩))then
     Af out1 (⟨#[47]⟩)>>=fun x15=>
     FQ (GStp.mk false x10.Kind x10.Pre x10.Local x10.Preds)>>=fun r8=>
     Af x15 r8>>=fun x16=>
     By x16 (Ac i 1) s
    else
     FQ (GStp.mk false x10.Kind x10.Pre x10.Local x10.Preds)>>=fun r9=>
     Af out1 r9>>=fun x17=>
     By x17 (Ac i 1) s
 else
  if(IR (AL out1) 200)then
   some (⟨#[]⟩)
  else
   some out1
 partial_fixpoint
def Fe (out:ByteArray) (s:GSel):Option (ByteArray):=
 By out 0 s
def Jh (s:GSel):Option (ByteArray):=
 Pu s>>=fun r=>
 if r then
  if(IN s.Id (⟨#[]⟩))then
   FW s.Id>>=fun r1=>
   Af (⟨#[105,100,40]⟩) r1>>=fun x=>
   Af x (⟨#[41]⟩)>>=fun x1=>
   Fe x1 s
  else
   Fe (⟨#[]⟩) s
 else
  some (⟨#[]⟩)
mutual
def D9 (out2:List (GDecl)) (i k1:Int):Option (List GDecl):=
 if(IR k1 0)then
  AZ out2 k1>>=fun x18=>
  AZ out2 (AY k1 1)>>=fun x19=>
  if(ltS x18.Pre x19.Pre)then
   AZ out2 k1>>=fun x20=>
   AZ out2 (AY k1 1)>>=fun x21=>
   AZ out2 k1>>=fun x22=>
   AZ (out2.set (Int.toNat k1) x21) (AY k1 1)>>=fun x23=>
   D9 ((out2.set (Int.toNat k1) x21).set (Int.toNat (AY k1 1)) x20) i (AY k1 1)
  else
   Cr out2 (Ac i 1)
 else
  Cr out2 (Ac i 1)
 partial_fixpoint
def Cr (out1:List (GDecl)) (i:Int):Option (List GDecl):=
 if(BV i (AF out1))then
  D9 out1 i i
 else
  some out1
 partial_fixpoint
end
def KI (l:List GDecl):Option (List GDecl):=
 room (0+l.length) 32>>=fun x_=>
 Cr ([]++l) 1
mutual
def J7 (l:List GNode):Option (List GNode):=
 H9 l [] 0
 partial_fixpoint
def H9 (l:List GNode) (out:List (GNode)) (i:Int):Option (List GNode):=
 if(BV i (AF l))then
  AZ l i>>=fun x1=>
  J8 x1>>=fun r1=>
  room (out.length+1) 144>>=fun x_1=>
  H9 l (out++[r1]) (Ac i 1)
 else
  some out
 partial_fixpoint
def J8 (n:GNode):Option (GNode):=
 room (0+n.Decls.length) 32>>=fun x_=>
 room (0+n.Attrs.length) 64>>=fun x_1=>
 J7 n.Kids>>=fun r=>
 some (GNode.mk n.Kind n.Pre n.Local n.Uri ([]++n.Decls) ([]++n.Attrs) r n.Text)
 partial_fixpoint
end
mutual
def DW (out2:List (GAttr)) (i k1:Int):Option (List GAttr):=
 if(IR k1 0)then
  AZ out2 k1>>=fun x18=>
  AZ out2 (AY k1 1)>>=fun x19=>
  Gf x18 x19>>=fun r3=>
  if r3 then
   AZ out2 k1>>=fun x20=>
   AZ out2 (AY k1 1)>>=fun x21=>
   AZ out2 k1>>=fun x22=>
   AZ (out2.set (Int.toNat k1) x21) (AY k1 1)>>=fun x23=>
   DW ((out2.set (Int.toNat k1) x21).set (Int.toNat (AY k1 1)) x20) i (AY k1 1)
  else
   CI out2 (Ac i 1)
 else
  CI out2 (Ac i 1)
 partial_fixpoint
def CI (out1:List (GAttr)) (i:Int):Option (List GAttr):=
 if(BV i (AF out1))then
  DW out1 i i
 else
  some out1
 partial_fixpoint
end
def Eb (l:List GAttr):Option (List GAttr):=
 room (0+l.length) 64>>=fun x_=>
 CI ([]++l) 1
def Cs (o:GOp) (x:ByteArray) (r2:ByteArray×Bool) (r:List GDecl) (nAttrs1:List (GAttr)) (r1:List GNode):Option (GNode):=
 if(AX o.Typ 6)then
  Az o.Pre o.Local>>=fun r4=>
  Af (⟨#[64]⟩) r4>>=fun x3=>
  room (nAttrs1.length+1) 64>>=fun x_3=>
  Eb (nAttrs1++[(GAttr.mk (⟨#[]⟩) (⟨#[116,121,112,101]⟩) (⟨#[]⟩) x3)])>>=fun r5=>
  some (GNode.mk 1 (⟨#[]⟩) x r2.1 r r5 r1 (⟨#[]⟩))
 else
  if(AX o.Typ 7)then
   Af (⟨#[110,97,109,101,115,112,97,99,101,58,58]⟩) o.Local>>=fun x4=>
   room (nAttrs1.length+1) 64>>=fun x_4=>
   Eb (nAttrs1++[(GAttr.mk (⟨#[]⟩) (⟨#[116,121,112,101]⟩) (⟨#[]⟩) x4)])>>=fun r6=>
   some (GNode.mk 1 (⟨#[]⟩) x r2.1 r r6 r1 (⟨#[]⟩))
  else
   Eb nAttrs1>>=fun r7=>
   some (GNode.mk 1 (⟨#[]⟩) x r2.1 r r7 r1 (⟨#[]⟩))
def EK (o:GOp) (x:ByteArray) (r2:ByteArray×Bool) (r:List GDecl) (nAttrs:List (GAttr)) (r1:List GNode):Option (GNode):=
 if(IR o.Ws 0)then
  AZ [⟨#[]⟩,⟨#[98,101,102,111,114,101]⟩,⟨#[97,102,116,101,114]⟩,⟨#[98,111,116,104]⟩] o.Ws>>=fun x2=>
  room (nAttrs.length+1) 64>>=fun x_2=>
  Cs o x r2 r (nAttrs++[(GAttr.mk (⟨#[]⟩) (⟨#[119,115]⟩) (⟨#[]⟩) x2)]) r1
 else
  Cs o x r2 r nAttrs r1
def Of (o:GOp):Option (GNode):=
 AZ [⟨#[]⟩,⟨#[97,100,100]⟩,⟨#[114,101,112,108,97,99,101]⟩,⟨#[114,101,109,111,118,101]⟩] o.Kind>>=fun x=>
 KI o.Decls>>=fun r=>
 J7 o.Kids>>=fun r1=>
 FP r (⟨#[]⟩)>>=fun r2=>
 Jh o.Sel>>=fun r3=>
 room 1 64>>=fun x_=>
 if(IR o.Pos 0)then
  AZ [⟨#[]⟩,⟨#[112,114,101,112,101,110,100]⟩,⟨#[98,101,102,111,114,101]⟩,⟨#[97,102,116,101,114]⟩] o.Pos>>=fun x1=>
  room (([]++[(GAttr.mk (⟨#[]⟩) (⟨#[115,101,108]⟩) (⟨#[]⟩) r3)]).length+1) 64>>=fun x_1=>
  EK o x r2 r (([]++[(GAttr.mk (⟨#[]⟩) (⟨#[115,101,108]⟩) (⟨#[]⟩) r3)])++[(GAttr.mk (⟨#[]⟩) (⟨#[112,111,115]⟩) (⟨#[]⟩) x1)]) r1
 else
  EK o x r2 r ([]++[(GAttr.mk (⟨#[]⟩) (⟨#[115,101,108]⟩) (⟨#[]⟩) r3)]) r1
def MQ (n:GNode):Option (Bool):=
 if(AX n.Kind 0)then
  J4 n>>=fun r=>
  if r then
   Ej n []>>=fun r1=>
   some r1
  else
   some false
 else
  some false
def BJ (s:ByteArray) (attr1:Bool) (out:ByteArray) (i:Int):Option (ByteArray):=
 if(BV i (AL s))then
  PC s i (Ac i 1)>>=fun x13=>
  atS s i>>=fun x14=>
  if(AX x14 38)then
   Af out (⟨#[38,97,109,112,59]⟩)>>=fun x15=>
   BJ s attr1 x15 (Ac i 1)
  else
   if(AX x14 60)then
    Af out (⟨#[38,108,116,59]⟩)>>=fun x16=>
    BJ s attr1 x16 (Ac i 1)
   else
    if(AX x14 62)then
     Af out (⟨#[38,103,116,59]⟩)>>=fun x17=>
     BJ s attr1 x17 (Ac i 1)
    else
     if(AX x14 13)then
      Af out (⟨#[38,35,49,51,59]⟩)>>=fun x18=>
      BJ s attr1 x18 (Ac i 1)
     else
      if(AX x14 34)then
       if attr1 then
        Af out (⟨#[38,113,117,111,116,59]⟩)>>=fun x19=>
        BJ s true x19 (Ac i 1)
       else
        Af out x13>>=fun x20=>
        BJ s false x20 (Ac i 1)
      else
       if(AX x14 9)then
        if attr1 then
         Af out (⟨#[38,35,57,59]⟩)>>=fun x21=>
         BJ s true x21 (Ac i 1)
        else
         Af out x13>>=fun x22=>
         BJ s false x22 (Ac i 1)
       else
        if(AX x14 10)then
         if attr1 then
          Af out (⟨#[38,35,49,48,59]⟩)>>=fun x23=>
          BJ s true x23 (Ac i 1)
         else
          Af out x13>>=fun x24=>
          BJ s false x24 (Ac i 1)
        else
         Af out x13>>=fun x25=>
         BJ s attr1 x25 (Ac i 1)
 else
  some out
 partial_fixpoint
def Pv (s:ByteArray) (attr:Bool):Option (ByteArray):=
 BJ s attr (⟨#[]⟩) 0
def Og (s:ByteArray):Option (ByteArray):=
 Pv s false>>=fun r=>
 some r
def Ji (s:ByteArray):Option (ByteArray):=
 Pv s true>>=fun r=>
 some r
def Ct (s r14 t5:ByteArray) (i6:Int) (n:GNode):Option (ByteArray):=
 if(BV i6 (AF n.Attrs))then
  AZ n.Attrs i6>>=fun x130=>
  Af t5 (⟨#[32]⟩)>>=fun x131=>
  Az x130.Pre x130.Local>>=fun r23=>
  Af x131 r23>>=fun x132=>
  Af x132 (⟨#[61,34]⟩)>>=fun x133=>
  Ji x130.Val>>=fun r24=>
  Af x133 r24>>=fun x134=>
  Af x134 (⟨#[34]⟩)>>=fun x135=>
  Ct s r14 x135 (Ac i6 1) n
 else
  if(AX (AF n.Kids) 0)then
   Af t5 (⟨#[47,62]⟩)>>=fun x136=>
   some x136
  else
   Af t5 (⟨#[62]⟩)>>=fun x137=>
   Af x137 s>>=fun x138=>
   Af x138 (⟨#[60,47]⟩)>>=fun x139=>
   Af x139 r14>>=fun x140=>
   Af x140 (⟨#[62]⟩)>>=fun x141=>
   some x141
 partial_fixpoint
mutual
def Cu (s r14 t4:ByteArray) (i5:Int) (x112:ByteArray) (n:GNode) (x110:GDecl):Option (ByteArray):=
 Af t4 (⟨#[32]⟩)>>=fun x113=>
 Af x113 x112>>=fun x114=>
 Af x114 (⟨#[61,34]⟩)>>=fun x115=>
 Ji x110.Uri>>=fun r20=>
 Af x115 r20>>=fun x116=>
 Af x116 (⟨#[34]⟩)>>=fun x117=>
 DX s r14 x117 (Ac i5 1) n
 partial_fixpoint
def DX (s r14 t4:ByteArray) (i5:Int) (n:GNode):Option (ByteArray):=
 if(BV i5 (AF n.Decls))then
  AZ n.Decls i5>>=fun x110=>
  if(IN x110.Pre (⟨#[]⟩))then
   Af (⟨#[120,109,108,110,115,58]⟩) x110.Pre>>=fun x111=>
   Cu s r14 t4 i5 x111 n x110
  else
   Cu s r14 t4 i5 (⟨#[120,109,108,110,115]⟩) n x110
 else
  Ct s r14 t4 0 n
 partial_fixpoint
end
def xq := @Cu.mutual_partial_correctness
mutual
def Dq (n:GNode):Option (ByteArray):=
 if(AX n.Kind 2)then
  Og n.Text>>=fun r=>
  some r
 else
  if(AX n.Kind 3)then
   Af (⟨#[60,33,45,45]⟩) n.Text>>=fun x=>
   Af x (⟨#[45,45,62]⟩)>>=fun x1=>
   some x1
  else
   if(AX n.Kind 4)then
    if(Bq n.Text (⟨#[]⟩))then
     Af (⟨#[60,63]⟩) n.Local>>=fun x2=>
     Af x2 (⟨#[63,62]⟩)>>=fun x3=>
     some x3
    else
     Af (⟨#[60,63]⟩) n.Local>>=fun x4=>
     Af x4 (⟨#[32]⟩)>>=fun x5=>
     Af x5 n.Text>>=fun x6=>
     Af x6 (⟨#[63,62]⟩)>>=fun x7=>
     some x7
   else
    CP (⟨#[]⟩) 0 n
 partial_fixpoint
def CP (s:ByteArray) (i3:Int) (n:GNode):Option (ByteArray):=
 if(BV i3 (AF n.Kids))then
  AZ n.Kids i3>>=fun x75=>
  Dq x75>>=fun r13=>
  Af s r13>>=fun x76=>
  CP x76 (Ac i3 1) n
 else
  if(AX n.Kind 0)then
   some s
  else
   Az n.Pre n.Local>>=fun r14=>
   Af (⟨#[60]⟩) r14>>=fun x77=>
   DX s r14 x77 0 n
 partial_fixpoint
end
def Dr (l:List GOp) (i:Int) (rKids:List (GNode)):Option (ByteArray):=
 if(BV i (AF l))then
  AZ l i>>=fun x1=>
  Vh x1>>=fun r6=>
  if r6 then
   if(IR (AF x1.Decls) 4)then
    some (⟨#[]⟩)
   else
    Jh x1.Sel>>=fun r7=>
    if(Bq r7 (⟨#[]⟩))then
     some (⟨#[]⟩)
    else
     Of x1>>=fun r8=>
     room (rKids.length+1) 144>>=fun x_1=>
     Dr l (Ac i 1) (rKids++[r8])
  else
   some (⟨#[]⟩)
 else
  MQ (GNode.mk 0 (⟨#[]⟩) (⟨#[]⟩) (⟨#[]⟩) [] [] [(GNode.mk 1 (⟨#[]⟩) (⟨#[100,105,102,102]⟩) (⟨#[]⟩) [] [] rKids (⟨#[]⟩))] (⟨#[]⟩))>>=fun r9=>
  if r9 then
   Dq (GNode.mk 0 (⟨#[]⟩) (⟨#[]⟩) (⟨#[]⟩) [] [] [(GNode.mk 1 (⟨#[]⟩) (⟨#[100,105,102,102]⟩) (⟨#[]⟩) [] [] rKids (⟨#[]⟩))] (⟨#[]⟩))>>=fun r10=>
   if(IR (AL r10) 1500)then
    some (⟨#[]⟩)
   else
    Dq (GNode.mk 0 (⟨#[]⟩) (⟨#[]⟩) (⟨#[]⟩) [] [] [(GNode.mk 1 (⟨#[]⟩) (⟨#[100,105,102,102]⟩) (⟨#[]⟩) [] [] rKids (⟨#[]⟩))] (⟨#[]⟩))>>=fun r11=>
    some r11
  else
   some (⟨#[]⟩)
 partial_fixpoint
def KJ (l:List GOp):Option (ByteArray):=
 if(IR (AF l) 40)then
  some (⟨#[]⟩)
 else
  Dr l 0 []
def I3 (n lo hi:Int):Option (Bool):=
 if(geI n lo)then
  some (TG n hi)
 else
  some false
def E8 (s:ByteArray):Option (Int×Int):=
 some (kW s)
def MR (s:ByteArray) (at1:Int):Option (Int×Int×Bool):=
 I3 at1 0 (AY (AL s) 1)>>=fun r=>
 if r then
  PC s at1 (AL s)>>=fun x=>
  E8 x>>=fun r1=>
  if(AX r1.1 65533)then
   if(TG r1.2 1)then
    some (0,0,false)
   else
    some ((wr .i64 r1.1),(Ac at1 r1.2),true)
  else
   some ((wr .i64 r1.1),(Ac at1 r1.2),true)
 else
  some (0,0,false)
def T4 (r:AE) (a1:Int):Option (Bool×Int):=
 I3 a1 r.xa0 r.xa1>>=fun r1=>
 some (r1,a1)
def As (s:List AE) (x1 f:Int):Option (Int×Int):=
 if(BV x1 (AF s))then
  AZ s x1>>=fun x2=>
  T4 x2 f>>=fun r1=>
  if r1.1 then
   some (x1,r1.2)
  else
   As s (Ac x1 1) r1.2
 else
  some ((-1),f)
 partial_fixpoint
def Cw (s:List AE) (fc0:Int):Option (Int×Int):=
 As s 0 fc0
def CL (s:List AE) (fc0:Int):Option (Bool×Int):=
 Cw s fc0>>=fun r=>
 some ((geI r.1 0),r.2)
def Lx (n:Int) (ranges:List AE):Option (Bool):=
 CL ranges n>>=fun r=>
 some r.1
def Jj (n:Int):Option (Bool):=
 Lx n [(AE.mk 65 90),(AE.mk 95 95),(AE.mk 97 122),(AE.mk 192 214),(AE.mk 216 246),(AE.mk 248 767),(AE.mk 880 893),(AE.mk 895 8191),(AE.mk 8204 8205),(AE.mk 8304 8591),(AE.mk 11264 12271),(AE.mk 12289 55295),(AE.mk 63744 64975),(AE.mk 65008 65533),(AE.mk 65536 983039)]>>=fun r=>
 some r
def MS (n:Int):Option (Bool):=
 Jj n>>=fun r=>
 if r then
  some true
 else
  Lx n [(AE.mk 45 46),(AE.mk 48 57),(AE.mk 183 183),(AE.mk 768 879),(AE.mk 8255 8256)]>>=fun r1=>
  some r1
def DM (s:ByteArray) (at1:Int):Option (Bool):=
 if(BV at1 (AL s))then
  MR s at1>>=fun r5=>
  if r5.2.2 then
   if(AX at1 0)then
    Jj r5.1>>=fun r6=>
    if r6 then
     MS r5.1>>=fun r7=>
     if r7 then
      DM s r5.2.1
     else
      some false
    else
     some false
   else
    MS r5.1>>=fun r8=>
    if r8 then
     DM s r5.2.1
    else
     some false
  else
   some false
 else
  I3 (AL s) 1 16>>=fun r9=>
  some r9
 partial_fixpoint
def BT (s:ByteArray):Option (Bool):=
 DM s 0
def J9 (pre local1:ByteArray):Option (Bool):=
 if(Bq pre (⟨#[]⟩))then
  BT local1>>=fun r=>
  some r
 else
  BT pre>>=fun r1=>
  if r1 then
   BT local1>>=fun r2=>
   some r2
  else
   some false
def RF (n:Int):Option (Bool):=
 Lx n [(AE.mk 9 10),(AE.mk 13 13),(AE.mk 32 55295),(AE.mk 57344 65533),(AE.mk 65536 1114111)]>>=fun r=>
 some r
def E1 (s:ByteArray) (at1:Int):Option (Bool):=
 if(BV at1 (AL s))then
  MR s at1>>=fun r2=>
  if r2.2.2 then
   RF r2.1>>=fun r3=>
   if r3 then
    E1 s r2.2.1
   else
    some false
  else
   some false
 else
  some true
 partial_fixpoint
def Oh (s:ByteArray):Option (Bool):=
 E1 s 0
def Ek (s:ByteArray):Option (Bool):=
 if(TG (AL s) 600)then
  Oh s>>=fun r=>
  some r
 else
  some false
def strings_Contains (s t:ByteArray):Option (Bool):=
 if s.size<4294967281 then some (Er s t)else none
def Ly (s:ByteArray):Option (Bool):=
 Ek s>>=fun r=>
 if r then
  strings_Contains s (⟨#[39]⟩)>>=fun r1=>
  if r1 then
   strings_Contains s (⟨#[34]⟩)>>=fun r2=>
   some (!r2)
  else
   some true
 else
  some false
def IE (named element:Bool) (p:GPred) (x:Bool):Option (Bool):=
 if x then
  if element then
   if(AX p.N 0)then
    J9 p.Pre p.Local>>=fun r1=>
    if r1 then
     Ly p.Val>>=fun r2=>
     some r2
    else
     some false
   else
    some false
  else
   some false
 else
  if(AX p.Kind 4)then
   if element then
    if(AX p.N 0)then
     if named then
      some false
     else
      Ly p.Val>>=fun r3=>
      some r3
    else
     some false
   else
    some false
  else
   some false
def G4 (named element:Bool) (p:GPred):Option (Bool):=
 if(AX p.Kind 1)then
  I3 p.N 1 999>>=fun r=>
  if r then
   if named then
    some false
   else
    some (Bq p.Val (⟨#[]⟩))
  else
   some false
 else
  if(AX p.Kind 2)then
   IE named element p true
  else
   IE named element p (AX p.Kind 3)
def G5 (kind:Int) (named:Bool) (p:GPred):Option (Bool):=
 if(AX kind 1)then
  G4 named true p
 else
  G4 named (AX kind 2) p
def Hk (p:GPred) (kind:Int):Option (Bool):=
 if(IN p.Pre (⟨#[]⟩))then
  G5 kind true p
 else
  G5 kind (IN p.Local (⟨#[]⟩)) p
def Qw (p:GPred) (a1:GStp):Option (Bool×GStp):=
 Hk p a1.Kind>>=fun r=>
 some ((!r),a1)
def At (s:List GPred) (x1:Int) (f:GStp):Option (Int×GStp):=
 if(BV x1 (AF s))then
  AZ s x1>>=fun x2=>
  Qw x2 f>>=fun r1=>
  if r1.1 then
   some (x1,r1.2)
  else
   At s (Ac x1 1) r1.2
 else
  some ((-1),f)
 partial_fixpoint
def Cy (s:List GPred) (fc0:GStp):Option (Int×GStp):=
 At s 0 fc0
def BY (s:List GPred) (fc0:GStp):Option (Bool×GStp):=
 Cy s fc0>>=fun r=>
 some ((geI r.1 0),r.2)
def E2 (end1:Bool) (r:Bool×GStp) (x sDeep:Bool):Option (Bool):=
 if x then
  if(Bq r.2.Pre (⟨#[]⟩))then
   some (Bq r.2.Local (⟨#[]⟩))
  else
   some false
 else
  if(AX r.2.Kind 5)then
   if(Bq r.2.Pre (⟨#[]⟩))then
    if(Bq r.2.Local (⟨#[]⟩))then
     some true
    else
     BT r.2.Local>>=fun r2=>
     some r2
   else
    some false
  else
   if(AX r.2.Kind 6)then
    if end1 then
     J9 r.2.Pre r.2.Local>>=fun r3=>
     some r3
    else
     some false
   else
    if(AX r.2.Kind 7)then
     if end1 then
      if(Bq r.2.Pre (⟨#[]⟩))then
       BT r.2.Local>>=fun r4=>
       some r4
      else
       some false
     else
      some false
    else
     some false
def E3 (end1 sDeep:Bool) (r:Bool×GStp):Option (Bool):=
 if(AX r.2.Kind 1)then
  J9 r.2.Pre r.2.Local>>=fun r1=>
  some r1
 else
  if(AX r.2.Kind 2)then
   E2 end1 r true sDeep
  else
   if(AX r.2.Kind 3)then
    E2 end1 r true sDeep
   else
    E2 end1 r (AX r.2.Kind 4) sDeep
def JA (s:GStp) (last:Bool):Option (Bool):=
 if(IR (AF s.Preds) 3)then
  some false
 else
  BY s.Preds s>>=fun r=>
  if r.1 then
   some false
  else
   if last then
    if r.2.Deep then
     E3 false true r
    else
     E3 (AX (AF r.2.Preds) 0) false r
   else
    E3 false r.2.Deep r
def Di (s:GSel) (x1:Int):Option (Bool):=
 if(BV x1 (AF s.Steps))then
  AZ s.Steps x1>>=fun x2=>
  JA x2 (AX x1 (AY (AF s.Steps) 1))>>=fun r2=>
  if r2 then
   Di s (Ac x1 1)
  else
   some false
 else
  Ly s.Id>>=fun r3=>
  if r3 then
   if(TG (AF s.Steps) 8)then
    if(IR (AF s.Steps) 0)then
     some true
    else
     some (IN s.Id (⟨#[]⟩))
   else
    some false
  else
   some false
 partial_fixpoint
def JB (s:GSel):Option (Bool):=
 Di s 0
def Kt (a0 a1:GDecl):Option (Bool×GDecl):=
 some ((Bq a0.Pre a1.Pre),a1)
def Aj (s:List GDecl) (x1:Int) (f:GDecl):Option (Int×GDecl):=
 if(BV x1 (AF s))then
  AZ s x1>>=fun x2=>
  Kt x2 f>>=fun r1=>
  if r1.1 then
   some (x1,r1.2)
  else
   Aj s (Ac x1 1) r1.2
 else
  some ((-1),f)
 partial_fixpoint
def CW (s:List GDecl) (fc0:GDecl):Option (Int×GDecl):=
 Aj s 0 fc0
def C1 (s:List GDecl) (fc0:GDecl):Option (Bool×GDecl):=
 CW s fc0>>=fun r=>
 some ((geI r.1 0),r.2)
def DY (l:List GDecl) (x2:Int):Option (Bool):=
 if(BV x2 (AF l))then
  AZ l x2>>=fun x3=>
  slL l 0 x2>>=fun x4=>
  C1 x4 x3>>=fun r1=>
  if r1.1 then
   some true
  else
   DY l (Ac x2 1)
 else
  some false
 partial_fixpoint
def KK (l:List GDecl):Option (Bool):=
 DY l 0
def Cz (s prefix1:ByteArray):Option (Bool):=
 if(geI (AL s) (AL prefix1))then
  PC s 0 (AL prefix1)>>=fun x=>
  some (Bq x prefix1)
 else
  some false
def Ev (s prefix1:ByteArray):Option (Bool):=
 Cz s prefix1>>=fun r=>
 some r
def JC (s:ByteArray):Option (Bool):=
 if(Bq s (⟨#[]⟩))then
  some true
 else
  BT s>>=fun r=>
  if r then
   Ev s (⟨#[120,109,108]⟩)>>=fun r1=>
   some (!r1)
  else
   some false
def JD (uri pre:ByteArray):Option (Bool):=
 Ek uri>>=fun r=>
 if r then
  if(TG (AL uri) 40)then
   if(IN uri (⟨#[]⟩))then
    some true
   else
    some (Bq pre (⟨#[]⟩))
  else
   some false
 else
  some false
def Hl (d:GDecl):Option (Bool):=
 JC d.Pre>>=fun r=>
 if r then
  JD d.Uri d.Pre>>=fun r1=>
  some r1
 else
  some false
def UU (d:GDecl):Option (Bool):=
 Hl d>>=fun r=>
 some (!r)
def An (s:List GDecl) (x1:Int):Option (Int):=
 if(BV x1 (AF s))then
  AZ s x1>>=fun x2=>
  UU x2>>=fun r1=>
  if r1 then
   some x1
  else
   An s (Ac x1 1)
 else
  some (-1)
 partial_fixpoint
def CJ (s:List GDecl):Option (Int):=
 An s 0
def Bn (s:List GDecl):Option (Bool):=
 CJ s>>=fun r=>
 some (geI r 0)
mutual
def Ec (n:GNode):Option (Int):=
 GR (Ac 1 (AF n.Attrs)) n 0
 partial_fixpoint
def GR (out:Int) (n:GNode) (x1:Int):Option (Int):=
 if(BV x1 (AF n.Kids))then
  AZ n.Kids x1>>=fun x2=>
  Ec x2>>=fun r1=>
  GR (Ac out r1) n (Ac x1 1)
 else
  some out
 partial_fixpoint
end
def D0 (s suffix:ByteArray):Option (Bool):=
 if(geI (AL s) (AL suffix))then
  PC s (AY (AL s) (AL suffix)) (AL s)>>=fun x=>
  some (Bq x suffix)
 else
  some false
def Gg (s suffix:ByteArray):Option (Bool):=
 D0 s suffix>>=fun r=>
 some r
def UV (s:ByteArray):Option (Bool):=
 Ek s>>=fun r=>
 if r then
  strings_Contains s (⟨#[45,45]⟩)>>=fun r1=>
  if r1 then
   some false
  else
   Gg s (⟨#[45]⟩)>>=fun r2=>
   if r2 then
    some false
   else
    strings_Contains s (⟨#[13]⟩)>>=fun r3=>
    some (!r3)
 else
  some false
def strings_EqualFold (s t:ByteArray):Option (Bool):=
 if s.size<4294967281∧ABw t=true then some (aK s t)else none
def Jk (n:Int):Option (Bool):=
 if(AX n 9)then
  some true
 else
  if(AX n 10)then
   some true
  else
   if(AX n 13)then
    some true
   else
    some (AX n 32)
def UW (local1 s:ByteArray):Option (Bool):=
 BT local1>>=fun r=>
 if r then
  strings_EqualFold local1 (⟨#[120,109,108]⟩)>>=fun r1=>
  if r1 then
   some false
  else
   Ek s>>=fun r2=>
   if r2 then
    strings_Contains s (⟨#[63,62]⟩)>>=fun r3=>
    if r3 then
     some false
    else
     strings_Contains s (⟨#[13]⟩)>>=fun r4=>
     if r4 then
      some false
     else
      if(Bq s (⟨#[]⟩))then
       some true
      else
       atS s 0>>=fun x=>
       Jk (wr .i64 x)>>=fun r5=>
       some (!r5)
   else
    some false
 else
  some false
def JE (n:GNode):Option (Bool):=
 if(AX n.Kind 2)then
  if(IN n.Text (⟨#[]⟩))then
   Ek n.Text>>=fun r=>
   some r
  else
   some false
 else
  if(AX n.Kind 3)then
   UV n.Text>>=fun r1=>
   some r1
  else
   if(AX n.Kind 4)then
    UW n.Local n.Text>>=fun r2=>
    some r2
   else
    some false
def JF (n:GNode):Option (Bool):=
 if(IN n.Pre (⟨#[]⟩))then
  some false
 else
  if(IN n.Uri (⟨#[]⟩))then
   some false
  else
   if(IR (AF n.Decls) 0)then
    some false
   else
    if(IR (AF n.Attrs) 0)then
     some false
    else
     if(IR (AF n.Kids) 0)then
      some false
     else
      if(IN n.Local (⟨#[]⟩))then
       if(neI n.Kind 4)then
        some false
       else
        JE n
      else
       JE n
def E4 (l:List GDecl) (x2:Int):Option (Bool):=
 if(BV x2 (AF l))then
  AZ l x2>>=fun x3=>
  Hl x3>>=fun r1=>
  if r1 then
   if(IR x2 0)then
    AZ l (AY x2 1)>>=fun x4=>
    if(geS x4.Pre x3.Pre)then
     some false
    else
     E4 l (Ac x2 1)
   else
    E4 l (Ac x2 1)
  else
   some false
 else
  some (TG (AF l) 4)
 partial_fixpoint
def T5 (l:List GDecl):Option (Bool):=
 E4 l 0
def JG (a:GAttr):Option (Bool):=
 JC a.Pre>>=fun r=>
 if r then
  if(neB (Bq a.Pre (⟨#[]⟩)) (Bq a.Uri (⟨#[]⟩)))then
   some false
  else
   JD a.Uri a.Pre>>=fun r1=>
   if r1 then
    BT a.Local>>=fun r2=>
    if r2 then
     Ek a.Val>>=fun r3=>
     if r3 then
      if(IN a.Pre (⟨#[]⟩))then
       some true
      else
       some (IN a.Local (⟨#[120,109,108,110,115]⟩))
     else
      some false
    else
     some false
   else
    some false
 else
  some false
def strings_Compare (s t:ByteArray):Option (Int):=
 some (Mw s t)
def Gh (a b:GAttr):Option (Int):=
 strings_Compare a.Uri b.Uri>>=fun r=>
 if(neI r 0)then
  some r
 else
  strings_Compare a.Local b.Local>>=fun r1=>
  some r1
def E5 (l:List GAttr) (x2:Int):Option (Bool):=
 if(BV x2 (AF l))then
  AZ l x2>>=fun x3=>
  JG x3>>=fun r2=>
  if r2 then
   if(IR x2 0)then
    AZ l (AY x2 1)>>=fun x4=>
    Gh x4 x3>>=fun r3=>
    if(geI r3 0)then
     some false
    else
     E5 l (Ac x2 1)
   else
    E5 l (Ac x2 1)
  else
   some false
 else
  some (TG (AF l) 5)
 partial_fixpoint
def Oi (l:List GAttr):Option (Bool):=
 E5 l 0
def Bh (l:List GNode) (x2:Int):Option (Bool):=
 if(BV x2 (AF l))then
  AZ l x2>>=fun x3=>
  if(IR x2 0)then
   if(AX x3.Kind 2)then
    AZ l (AY x2 1)>>=fun x4=>
    if(AX x4.Kind 2)then
     some false
    else
     Bh l (Ac x2 1)
   else
    Bh l (Ac x2 1)
  else
   Bh l (Ac x2 1)
 else
  some true
 partial_fixpoint
def FC (l:List GNode):Option (Bool):=
 Bh l 0
mutual
def FX (n:GNode) (deep:Int):Option (Bool):=
 FC n.Kids>>=fun r=>
 if r then
  CM n.Kids deep>>=fun r1=>
  some (!r1.1)
 else
  some false
 partial_fixpoint
def Qx (k:GNode) (a1:Int):Option (Bool×Int):=
 Cm k a1>>=fun r=>
 some ((!r),a1)
 partial_fixpoint
def Cm (n:GNode) (deep:Int):Option (Bool):=
 if(neI n.Kind 1)then
  JF n>>=fun r=>
  some r
 else
  if(geI deep 7)then
   some false
  else
   if(IN n.Text (⟨#[]⟩))then
    some false
   else
    JC n.Pre>>=fun r1=>
    if r1 then
     JD n.Uri n.Pre>>=fun r2=>
     if r2 then
      BT n.Local>>=fun r3=>
      if r3 then
       T5 n.Decls>>=fun r4=>
       if r4 then
        Oi n.Attrs>>=fun r5=>
        if r5 then
         FX n (Ac deep 1)>>=fun r6=>
         some r6
        else
         some false
       else
        some false
      else
       some false
     else
      some false
    else
     some false
 partial_fixpoint
def CM (s:List GNode) (fc0:Int):Option (Bool×Int):=
 D1 s fc0>>=fun r=>
 some ((geI r.1 0),r.2)
 partial_fixpoint
def D1 (s:List GNode) (fc0:Int):Option (Int×Int):=
 B4 s 0 fc0
 partial_fixpoint
def B4 (s:List GNode) (x1 f:Int):Option (Int×Int):=
 if(BV x1 (AF s))then
  AZ s x1>>=fun x2=>
  Qx x2 f>>=fun r1=>
  if r1.1 then
   some (x1,r1.2)
  else
   B4 s (Ac x1 1) r1.2
 else
  some ((-1),f)
 partial_fixpoint
end
def El (kind n:Int) (l:List GNode) (x1:Int):Option (Int):=
 if(BV x1 (AF l))then
  AZ l x1>>=fun x2=>
  if(AX x2.Kind kind)then
   El kind (Ac n 1) l (Ac x1 1)
  else
   El kind n l (Ac x1 1)
 else
  some n
 partial_fixpoint
def MT (l:List GNode) (kind:Int):Option (Int):=
 El kind 0 l 0
def Cn (bare:Bool) (n:GNode):Option (Bool):=
 if bare then
  MT n.Kids 1>>=fun r2=>
  if(AX r2 1)then
   MT n.Kids 2>>=fun r3=>
   if(AX r3 0)then
    FX n 0>>=fun r4=>
    some r4
   else
    some false
  else
   some false
 else
  some false
def Hm (n:GNode):Option (Bool):=
 Ec n>>=fun r=>
 if(IR r 60)then
  some false
 else
  if(neI n.Kind 0)then
   Cm n 0>>=fun r1=>
   some r1
  else
   if(Bq n.Pre (⟨#[]⟩))then
    if(Bq n.Local (⟨#[]⟩))then
     if(Bq n.Uri (⟨#[]⟩))then
      if(Bq n.Text (⟨#[]⟩))then
       if(AX (AF n.Decls) 0)then
        Cn (AX (AF n.Attrs) 0) n
       else
        Cn false n
      else
       Cn false n
     else
      Cn false n
    else
     Cn false n
   else
    Cn false n
def RG (n:GNode) (l:List (GDecl)):Option (Bool):=
 RC ((GNode.row false) n) (l.map fun x=>(x.Pre,x.Uri))
def DZ (many:Int) (o:GOp) (x1:Int):Option (Bool):=
 if(BV x1 (AF o.Kids))then
  AZ o.Kids x1>>=fun x2=>
  Ec x2>>=fun r4=>
  if(AX x2.Kind 0)then
   some false
  else
   Hm x2>>=fun r5=>
   if r5 then
    RG x2 o.Decls>>=fun r6=>
    if r6 then
     DZ (Ac many r4) o (Ac x1 1)
    else
     some false
   else
    some false
 else
  if(TG many 60)then
   FC o.Kids>>=fun r7=>
   some r7
  else
   some false
 partial_fixpoint
def Qy (o:GOp):Option (Bool):=
 DZ 0 o 0
def strings_Cut (s t:ByteArray):Option (ByteArray×ByteArray×Bool):=
 if s.size<4294967281 then some (Zb s t)else none
def DG (s:ByteArray):Option (ByteArray×ByteArray×Bool):=
 BT s>>=fun r=>
 if r then
  some (⟨#[]⟩,s,true)
 else
  strings_Cut s (⟨#[58]⟩)>>=fun r1=>
  if r1.2.2 then
   BT r1.1>>=fun r2=>
   if r2 then
    BT r1.2.1>>=fun r3=>
    if r3 then
     some (r1.1,r1.2.1,true)
    else
     some (⟨#[]⟩,⟨#[]⟩,false)
   else
    some (⟨#[]⟩,⟨#[]⟩,false)
  else
   some (⟨#[]⟩,⟨#[]⟩,false)
def Da (pre local1 s:ByteArray):Option (ByteArray):=
 DG s>>=fun r=>
 if r.2.2 then
  if(IN r.1 pre)then
   some (⟨#[]⟩)
  else
   if(IN r.2.1 local1)then
    some (⟨#[]⟩)
   else
    some s
 else
  some (⟨#[]⟩)
def BX (pre local1:ByteArray):Option (ByteArray):=
 if(IN pre (⟨#[]⟩))then
  Af pre (⟨#[58]⟩)>>=fun x=>
  Af x local1>>=fun x1=>
  Da pre local1 x1
 else
  Da pre local1 local1
def G6 (o:GOp):Option (Bool):=
 if(AX o.Typ 6)then
  some true
 else
  if(AX o.Typ 7)then
   if(Bq o.Pre (⟨#[]⟩))then
    Ev o.Local (⟨#[120,109,108]⟩)>>=fun r1=>
    some (!r1)
   else
    some false
  else
   some false
def MU (o:GOp):Option (Bool):=
 if(neI o.Pos 0)then
  some false
 else
  BX o.Pre o.Local>>=fun r=>
  if(Bq r (⟨#[]⟩))then
   some false
  else
   if(IR (AF o.Kids) 1)then
    some false
   else
    if(AX (AF o.Kids) 1)then
     AZ o.Kids 0>>=fun x=>
     if(neI x.Kind 2)then
      some false
     else
      G6 o
    else
     G6 o
def CQ (bare:Bool) (o:GOp):Option (Bool):=
 if(AX o.Kind 1)then
  if(AX o.Ws 0)then
   I3 o.Pos 0 3>>=fun r4=>
   if r4 then
    if bare then
     some true
    else
     MU o>>=fun r5=>
     some r5
   else
    some false
  else
   some false
 else
  if(AX o.Kind 2)then
   if(AX o.Ws 0)then
    if(AX o.Pos 0)then
     some bare
    else
     some false
   else
    some false
  else
   if(AX o.Kind 3)then
    I3 o.Ws 0 3>>=fun r6=>
    if r6 then
     if(AX o.Pos 0)then
      if bare then
       some (AX (AF o.Kids) 0)
      else
       some false
     else
      some false
    else
     some false
   else
    some false
def MV (o:GOp):Option (Bool):=
 JB o.Sel>>=fun r=>
 if r then
  if(IR (AF o.Decls) 8)then
   some false
  else
   KK o.Decls>>=fun r1=>
   if r1 then
    some false
   else
    Bn o.Decls>>=fun r2=>
    if r2 then
     some false
    else
     Qy o>>=fun r3=>
     if r3 then
      if(AX o.Typ 0)then
       if(Bq o.Pre (⟨#[]⟩))then
        CQ (Bq o.Local (⟨#[]⟩)) o
       else
        CQ false o
      else
       CQ false o
     else
      some false
 else
  some false
def Em (s:ByteArray):Option (ByteArray):=
 strings_Contains s (⟨#[39]⟩)>>=fun r=>
 if r then
  Af (⟨#[34]⟩) s>>=fun x=>
  Af x (⟨#[34]⟩)>>=fun x1=>
  some x1
 else
  Af (⟨#[39]⟩) s>>=fun x2=>
  Af x2 (⟨#[39]⟩)>>=fun x3=>
  some x3
def KL (s:GStp):Option (ByteArray):=
 if(AX s.Kind 2)then
  some (⟨#[42]⟩)
 else
  if(AX s.Kind 3)then
   some (⟨#[116,101,120,116,40,41]⟩)
  else
   if(AX s.Kind 4)then
    some (⟨#[99,111,109,109,101,110,116,40,41]⟩)
   else
    if(AX s.Kind 5)then
     if(Bq s.Local (⟨#[]⟩))then
      some (⟨#[112,114,111,99,101,115,115,105,110,103,45,105,110,115,116,114,117,99,116,105,111,110,40,41]⟩)
     else
      Af (⟨#[112,114,111,99,101,115,115,105,110,103,45,105,110,115,116,114,117,99,116,105,111,110,40,39]⟩) s.Local>>=fun x=>
      Af x (⟨#[39,41]⟩)>>=fun x1=>
      some x1
    else
     if(AX s.Kind 6)then
      BX s.Pre s.Local>>=fun r=>
      Af (⟨#[64]⟩) r>>=fun x2=>
      some x2
     else
      if(AX s.Kind 7)then
       Af (⟨#[110,97,109,101,115,112,97,99,101,58,58]⟩) s.Local>>=fun x3=>
       some x3
      else
       BX s.Pre s.Local>>=fun r1=>
       some r1
def strconv_Itoa (s:Int):Option (ByteArray):=
 if-9223372036854775808≤s∧s≤9223372036854775807 then some (lY s)else none
def KM (p:GPred):Option (ByteArray):=
 if(AX p.Kind 1)then
  strconv_Itoa p.N>>=fun r=>
  Af (⟨#[91]⟩) r>>=fun x=>
  Af x (⟨#[93]⟩)>>=fun x1=>
  some x1
 else
  if(AX p.Kind 2)then
   BX p.Pre p.Local>>=fun r1=>
   Af (⟨#[91,64]⟩) r1>>=fun x2=>
   Af x2 (⟨#[61]⟩)>>=fun x3=>
   Em p.Val>>=fun r2=>
   Af x3 r2>>=fun x4=>
   Af x4 (⟨#[93]⟩)>>=fun x5=>
   some x5
  else
   if(AX p.Kind 3)then
    BX p.Pre p.Local>>=fun r3=>
    Af (⟨#[91]⟩) r3>>=fun x6=>
    Af x6 (⟨#[61]⟩)>>=fun x7=>
    Em p.Val>>=fun r4=>
    Af x7 r4>>=fun x8=>
    Af x8 (⟨#[93]⟩)>>=fun x9=>
    some x9
   else
    Em p.Val>>=fun r5=>
    Af (⟨#[91,46,61]⟩) r5>>=fun x10=>
    Af x10 (⟨#[93]⟩)>>=fun x11=>
    some x11
mutual
def D2 (out4:ByteArray) (s:GSel) (x12:Int) (xDeep1:Bool) (x13:GStp):Option (ByteArray):=
 KL (GStp.mk xDeep1 x13.Kind x13.Pre x13.Local x13.Preds)>>=fun r5=>
 Af out4 r5>>=fun x17=>
 EL x17 s x12 x13 0
 partial_fixpoint
def EL (out5:ByteArray) (s:GSel) (x12:Int) (x13:GStp) (x20:Int):Option (ByteArray):=
 if(BV x20 (AF x13.Preds))then
  AZ x13.Preds x20>>=fun x21=>
  KM x21>>=fun r7=>
  Af out5 r7>>=fun x22=>
  EL x22 s x12 x13 (Ac x20 1)
 else
  D3 out5 s (Ac x12 1)
 partial_fixpoint
def D3 (out3:ByteArray) (s:GSel) (x12:Int):Option (ByteArray):=
 if(BV x12 (AF s.Steps))then
  AZ s.Steps x12>>=fun x13=>
  if x13.Deep then
   Af out3 (⟨#[47,47]⟩)>>=fun x14=>
   D2 x14 s x12 true x13
  else
   if(IR x12 0)then
    Af out3 (⟨#[47]⟩)>>=fun x15=>
    D2 x15 s x12 false x13
   else
    if(IN s.Id (⟨#[]⟩))then
     Af out3 (⟨#[47]⟩)>>=fun x16=>
     D2 x16 s x12 false x13
    else
     D2 out3 s x12 false x13
 else
  if(IR (AL out3) 200)then
   some (⟨#[]⟩)
  else
   some out3
 partial_fixpoint
end
def Ff (out:ByteArray) (s:GSel):Option (ByteArray):=
 D3 out s 0
def I4 (s:GSel):Option (ByteArray):=
 JB s>>=fun r=>
 if r then
  if(IN s.Id (⟨#[]⟩))then
   Em s.Id>>=fun r1=>
   Af (⟨#[105,100,40]⟩) r1>>=fun x=>
   Af x (⟨#[41]⟩)>>=fun x1=>
   Ff x1 s
  else
   Ff (⟨#[]⟩) s
 else
  some (⟨#[]⟩)
def T6 : Option (List ByteArray):=
 some [⟨#[]⟩,⟨#[97,100,100]⟩,⟨#[114,101,112,108,97,99,101]⟩,⟨#[114,101,109,111,118,101]⟩]
def DA (s:List (GDecl)):Option (List GDecl):=
 room s.length 32>>=fun _=>some s
def Gi (s:List (GAttr)):Option (List GAttr):=
 room s.length 64>>=fun _=>some s
mutual
def En (n:GNode):Option (GNode):=
 DA n.Decls>>=fun r=>
 Gi n.Attrs>>=fun r1=>
 FD n.Kids>>=fun r2=>
 some (GNode.mk n.Kind n.Pre n.Local n.Uri r r1 r2 n.Text)
 partial_fixpoint
def FD (l:List GNode):Option (List GNode):=
 DQ [] l 0
 partial_fixpoint
def DQ (out:List (GNode)) (l:List GNode) (x1:Int):Option (List GNode):=
 if(BV x1 (AF l))then
  AZ l x1>>=fun x2=>
  En x2>>=fun r1=>
  room (out.length+1) 144>>=fun x_1=>
  DQ (out++[r1]) l (Ac x1 1)
 else
  some out
 partial_fixpoint
end
def HK (x3 n1:Int):Option (Int):=
 if(geI x3 256)then
  A1U .u64 x3 8>>=fun x4=>
  atS (⟨#[0,1,2,2,3,3,3,3,4,4,4,4,4,4,4,4,5,5,5,5,5,5,5,5,5,5,5,5,5,5,5,5,6,6,6,6,6,6,6,6,6,6,6,6,6,6,6,6,6,6,6,6,6,6,6,6,6,6,6,6,6,6,6,6,7,7,7,7,7,7,7,7,7,7,7,7,7,7,7,7,7,7,7,7,7,7,7,7,7,7,7,7,7,7,7,7,7,7,7,7,7,7,7,7,7,7,7,7,7,7,7,7,7,7,7,7,7,7,7,7,7,7,7,7,7,7,7,7,8,8,8,8,8,8,8,8,8,8,8,8,8,8,8,8,8,8,8,8,8,8,8,8,8,8,8,8,8,8,8,8,8,8,8,8,8,8,8,8,8,8,8,8,8,8,8,8,8,8,8,8,8,8,8,8,8,8,8,8,8,8,8,8,8,8,8,8,8,8,8,8,8,8,8,8,8,8,8,8,8,8,8,8,8,8,8,8,8,8,8,8,8,8,8,8,8,8,8,8,8,8,8,8,8,8,8,8,8,8,8,8,8,8,8,8,8,8,8,8,8,8,8,8,8,8,8,8]⟩) (wr .u8 x4)>>=fun x5=>
  some (Ac (Ac n1 8) (wr .i64 x5))
 else
  atS (⟨#[0,1,2,2,3,3,3,3,4,4,4,4,4,4,4,4,5,5,5,5,5,5,5,5,5,5,5,5,5,5,5,5,6,6,6,6,6,6,6,6,6,6,6,6,6,6,6,6,6,6,6,6,6,6,6,6,6,6,6,6,6,6,6,6,7,7,7,7,7,7,7,7,7,7,7,7,7,7,7,7,7,7,7,7,7,7,7,7,7,7,7,7,7,7,7,7,7,7,7,7,7,7,7,7,7,7,7,7,7,7,7,7,7,7,7,7,7,7,7,7,7,7,7,7,7,7,7,7,8,8,8,8,8,8,8,8,8,8,8,8,8,8,8,8,8,8,8,8,8,8,8,8,8,8,8,8,8,8,8,8,8,8,8,8,8,8,8,8,8,8,8,8,8,8,8,8,8,8,8,8,8,8,8,8,8,8,8,8,8,8,8,8,8,8,8,8,8,8,8,8,8,8,8,8,8,8,8,8,8,8,8,8,8,8,8,8,8,8,8,8,8,8,8,8,8,8,8,8,8,8,8,8,8,8,8,8,8,8,8,8,8,8,8,8,8,8,8,8,8,8,8,8,8,8,8,8]⟩) (wr .u8 x3)>>=fun x6=>
  some (Ac n1 (wr .i64 x6))
def I5 (x1 n:Int):Option (Int):=
 if(geI x1 65536)then
  A1U .u64 x1 16>>=fun x2=>
  HK x2 (Ac n 16)
 else
  HK x1 n
def Rt (a0:Int):Option (Int):=
 if(geI a0 4294967296)then
  A1U .u64 a0 32>>=fun x=>
  I5 x 32
 else
  I5 a0 0
def Qz (a0:Int):Option (Int):=
 Rt a0>>=fun r=>
 some r
def HY (a b:GDecl):Option (Int):=
 strings_Compare a.Pre b.Pre>>=fun r=>
 some r
mutual
def AO (data3:List (GDecl)) (a b i j1:Int):Option (List (GDecl)):=
 if(IR j1 a)then
  AZ data3 j1>>=fun x18=>
  AZ data3 (AY j1 1)>>=fun x19=>
  HY x18 x19>>=fun r3=>
  if(BV r3 0)then
   AZ data3 (AY j1 1)>>=fun x20=>
   AZ data3 j1>>=fun x21=>
   AZ data3 j1>>=fun x22=>
   AZ (data3.set (Int.toNat j1) x20) (AY j1 1)>>=fun x23=>
   AO ((data3.set (Int.toNat j1) x20).set (Int.toNat (AY j1 1)) x21) a b i (AY j1 1)
  else
   AS data3 a b (Ac i 1)
 else
  AS data3 a b (Ac i 1)
 partial_fixpoint
def AS (data2:List (GDecl)) (a b i:Int):Option (List (GDecl)):=
 if(BV i b)then
  AO data2 a b i i
 else
  some data2
 partial_fixpoint
end
def BH (data:List (GDecl)) (a b:Int):Option (List (GDecl)):=
 AS data a b (Ac a 1)
def BQ (data:List (GDecl)) (a b limit:Int):Option (List (GDecl)):=
 if(TG (AY b a) 12)then
  BH data a b>>=fun r=>
  rb r data>>=fun _=>
  some r
 else
  if(AX limit 0)then
   none
  else
   none
def Bd (data:List (GDecl)) (a b limit:Int):Option (List (GDecl)):=
 BQ data a b limit
def Be (a0:List (GDecl)):Option (List (GDecl)):=
 Qz (wr .u64 (AF a0))>>=fun r=>
 Bd a0 0 (AF a0) r>>=fun r1=>
 rb r1 a0>>=fun _=>
 some r1
def Jl (l:List (GDecl)) (p:ByteArray):Option (ByteArray×Bool):=
 if l.length≤1000000000000 then some (BE (l.map fun x=>(x.Pre,x.Uri)) p)else none
def R0 : Option (List ByteArray):=
 some [⟨#[]⟩,⟨#[112,114,101,112,101,110,100]⟩,⟨#[98,101,102,111,114,101]⟩,⟨#[97,102,116,101,114]⟩]
def EM (local1 val:ByteArray) (a2:GNode):Option (GNode):=
 if(IN val (⟨#[]⟩))then
  room (a2.Attrs.length+1) 64>>=fun x_=>
  some (GNode.mk a2.Kind a2.Pre a2.Local a2.Uri a2.Decls (a2.Attrs++[(GAttr.mk (⟨#[]⟩) local1 (⟨#[]⟩) val)]) a2.Kids a2.Text)
 else
  some a2
def Ax (local1 val:ByteArray) (a2:GNode):Option (GNode):=
 if(IN val (⟨#[]⟩))then
  room (a2.Attrs.length+1) 64>>=fun x_=>
  some (GNode.mk a2.Kind a2.Pre a2.Local a2.Uri a2.Decls (a2.Attrs++[(GAttr.mk (⟨#[]⟩) local1 (⟨#[]⟩) val)]) a2.Kids a2.Text)
 else
  some a2
def Jm : Option (List ByteArray):=
 some [⟨#[]⟩,⟨#[98,101,102,111,114,101]⟩,⟨#[97,102,116,101,114]⟩,⟨#[98,111,116,104]⟩]
def JH (o:GOp):Option (GNode):=
 T6>>=fun r=>
 AZ r o.Kind>>=fun x=>
 DA o.Decls>>=fun r1=>
 FD o.Kids>>=fun r2=>
 Be r1>>=fun r3=>
 Jl o.Decls (⟨#[]⟩)>>=fun r4=>
 R0>>=fun r5=>
 AZ r5 o.Pos>>=fun x1=>
 EM (⟨#[112,111,115]⟩) x1 (GNode.mk 1 (⟨#[]⟩) x r4.1 r3 [] r2 (⟨#[]⟩))>>=fun r6=>
 I4 o.Sel>>=fun r7=>
 Ax (⟨#[115,101,108]⟩) r7 r6>>=fun r8=>
 if(AX o.Typ 6)then
  BX o.Pre o.Local>>=fun r9=>
  Af (⟨#[64]⟩) r9>>=fun x2=>
  Ax (⟨#[116,121,112,101]⟩) x2 r8>>=fun r10=>
  Jm>>=fun r11=>
  AZ r11 o.Ws>>=fun x3=>
  Ax (⟨#[119,115]⟩) x3 r10>>=fun r12=>
  some r12
 else
  if(AX o.Typ 7)then
   Af (⟨#[110,97,109,101,115,112,97,99,101,58,58]⟩) o.Local>>=fun x4=>
   Ax (⟨#[116,121,112,101]⟩) x4 r8>>=fun r13=>
   Jm>>=fun r14=>
   AZ r14 o.Ws>>=fun x5=>
   Ax (⟨#[119,115]⟩) x5 r13>>=fun r15=>
   some r15
  else
   Jm>>=fun r16=>
   AZ r16 o.Ws>>=fun x6=>
   Ax (⟨#[119,115]⟩) x6 r8>>=fun r17=>
   some r17
def MW (n:GNode):Option (Bool):=
 if(AX n.Kind 0)then
  Hm n>>=fun r=>
  if r then
   RG n []>>=fun r1=>
   some r1
  else
   some false
 else
  some false
def strings_ReplaceAll (s t u:ByteArray):Option (ByteArray):=
 if s.size<4294967281∧1≤t.size∧s.size+Lib.countB s t*u.size≤140737488355328 then some (rf s t u)else none
def Jn (s:ByteArray):Option (ByteArray):=
 strings_ReplaceAll s (⟨#[38]⟩) (⟨#[38,97,109,112,59]⟩)>>=fun r=>
 strings_ReplaceAll r (⟨#[60]⟩) (⟨#[38,108,116,59]⟩)>>=fun r1=>
 strings_ReplaceAll r1 (⟨#[62]⟩) (⟨#[38,103,116,59]⟩)>>=fun r2=>
 strings_ReplaceAll r2 (⟨#[13]⟩) (⟨#[38,35,49,51,59]⟩)>>=fun r3=>
 some r3
def I6 (s:ByteArray):Option (ByteArray):=
 Jn s>>=fun r=>
 strings_ReplaceAll r (⟨#[34]⟩) (⟨#[38,113,117,111,116,59]⟩)>>=fun r1=>
 strings_ReplaceAll r1 (⟨#[9]⟩) (⟨#[38,35,57,59]⟩)>>=fun r2=>
 strings_ReplaceAll r2 (⟨#[10]⟩) (⟨#[38,35,49,48,59]⟩)>>=fun r3=>
 some r3
def IK (d:GDecl):Option (ByteArray):=
 if(IN d.Pre (⟨#[]⟩))then
  Af (⟨#[58]⟩) d.Pre>>=fun x=>
  Af (⟨#[120,109,108,110,115]⟩) x>>=fun x1=>
  Af (⟨#[32]⟩) x1>>=fun x2=>
  Af x2 (⟨#[61,34]⟩)>>=fun x3=>
  I6 d.Uri>>=fun r=>
  Af x3 r>>=fun x4=>
  Af x4 (⟨#[34]⟩)>>=fun x5=>
  some x5
 else
  Af (⟨#[32]⟩) (⟨#[120,109,108,110,115]⟩)>>=fun x6=>
  Af x6 (⟨#[61,34]⟩)>>=fun x7=>
  I6 d.Uri>>=fun r1=>
  Af x7 r1>>=fun x8=>
  Af x8 (⟨#[34]⟩)>>=fun x9=>
  some x9
def CR (kids r15 out5:ByteArray) (n:GNode) (x120:Int):Option (ByteArray):=
 if(BV x120 (AF n.Attrs))then
  AZ n.Attrs x120>>=fun x121=>
  BX x121.Pre x121.Local>>=fun r24=>
  Af (⟨#[32]⟩) r24>>=fun x122=>
  Af x122 (⟨#[61,34]⟩)>>=fun x123=>
  I6 x121.Val>>=fun r25=>
  Af x123 r25>>=fun x124=>
  Af x124 (⟨#[34]⟩)>>=fun x125=>
  Af out5 x125>>=fun x126=>
  CR kids r15 x126 n (Ac x120 1)
 else
  if(AX (AF n.Kids) 0)then
   Af out5 (⟨#[47,62]⟩)>>=fun x127=>
   some x127
  else
   Af out5 (⟨#[62]⟩)>>=fun x128=>
   Af x128 kids>>=fun x129=>
   Af x129 (⟨#[60,47]⟩)>>=fun x130=>
   Af x130 r15>>=fun x131=>
   Af x131 (⟨#[62]⟩)>>=fun x132=>
   some x132
 partial_fixpoint
def EN (kids r15 out4:ByteArray) (n:GNode) (x105:Int):Option (ByteArray):=
 if(BV x105 (AF n.Decls))then
  AZ n.Decls x105>>=fun x106=>
  IK x106>>=fun r21=>
  Af out4 r21>>=fun x107=>
  EN kids r15 x107 n (Ac x105 1)
 else
  CR kids r15 out4 n 0
 partial_fixpoint
mutual
def Ed (n:GNode):Option (ByteArray):=
 E6 (⟨#[]⟩) n 0
 partial_fixpoint
def E6 (kids:ByteArray) (n:GNode) (x66:Int):Option (ByteArray):=
 if(BV x66 (AF n.Kids))then
  AZ n.Kids x66>>=fun x67=>
  Ed x67>>=fun r13=>
  Af kids r13>>=fun x68=>
  E6 x68 n (Ac x66 1)
 else
  if(AX n.Kind 0)then
   some kids
  else
   if(AX n.Kind 2)then
    Jn n.Text>>=fun r14=>
    some r14
   else
    if(AX n.Kind 3)then
     Af (⟨#[60,33,45,45]⟩) n.Text>>=fun x69=>
     Af x69 (⟨#[45,45,62]⟩)>>=fun x70=>
     some x70
    else
     if(AX n.Kind 4)then
      if(Bq n.Text (⟨#[]⟩))then
       Af (⟨#[60,63]⟩) n.Local>>=fun x71=>
       Af x71 (⟨#[63,62]⟩)>>=fun x72=>
       some x72
      else
       Af (⟨#[60,63]⟩) n.Local>>=fun x73=>
       Af x73 (⟨#[32]⟩)>>=fun x74=>
       Af x74 n.Text>>=fun x75=>
       Af x75 (⟨#[63,62]⟩)>>=fun x76=>
       some x76
     else
      BX n.Pre n.Local>>=fun r15=>
      Af (⟨#[60]⟩) r15>>=fun x77=>
      EN kids r15 x77 n 0
 partial_fixpoint
end
def Ds (l:List GOp) (x1:Int) (rootKids:List (GNode)):Option (ByteArray):=
 if(BV x1 (AF l))then
  AZ l x1>>=fun x2=>
  MV x2>>=fun r5=>
  if r5 then
   if(IR (AF x2.Decls) 4)then
    some (⟨#[]⟩)
   else
    I4 x2.Sel>>=fun r6=>
    if(Bq r6 (⟨#[]⟩))then
     some (⟨#[]⟩)
    else
     JH x2>>=fun r7=>
     room (rootKids.length+1) 144>>=fun x_1=>
     Ds l (Ac x1 1) (rootKids++[r7])
  else
   some (⟨#[]⟩)
 else
  MW (GNode.mk 0 (⟨#[]⟩) (⟨#[]⟩) (⟨#[]⟩) [] [] [(GNode.mk 1 (⟨#[]⟩) (⟨#[100,105,102,102]⟩) (⟨#[]⟩) [] [] rootKids (⟨#[]⟩))] (⟨#[]⟩))>>=fun r8=>
  if r8 then
   Ed (GNode.mk 0 (⟨#[]⟩) (⟨#[]⟩) (⟨#[]⟩) [] [] [(GNode.mk 1 (⟨#[]⟩) (⟨#[100,105,102,102]⟩) (⟨#[]⟩) [] [] rootKids (⟨#[]⟩))] (⟨#[]⟩))>>=fun r9=>
   if(IR (AL r9) 1500)then
    some (⟨#[]⟩)
   else
    some r9
  else
   some (⟨#[]⟩)
 partial_fixpoint
def KN (l:List GOp):Option (ByteArray):=
 if(IR (AF l) 40)then
  some (⟨#[]⟩)
 else
  Ds l 0 []
def MX (a b:GPred):Option (Bool):=
 if(neI a.Kind b.Kind)then
  some false
 else
  if(neI a.N b.N)then
   some false
  else
   if(IN a.Pre b.Pre)then
    some false
   else
    if(IN a.Local b.Local)then
     some false
    else
     if(IN a.Val b.Val)then
      some false
     else
      some true
def Fg (a b:List GPred) (i:Int):Option (Bool):=
 if(BV i (AF a))then
  AZ a i>>=fun x2=>
  AZ b i>>=fun x3=>
  MX x2 x3>>=fun r1=>
  if r1 then
   Fg a b (Ac i 1)
  else
   some false
 else
  some true
 partial_fixpoint
def Jo (a b:List GPred):Option (Bool):=
 if(neI (AF a) (AF b))then
  some false
 else
  Fg a b 0
def MY (a b:GStp):Option (Bool):=
 if(neB a.Deep b.Deep)then
  some false
 else
  if(neI a.Kind b.Kind)then
   some false
  else
   if(IN a.Pre b.Pre)then
    some false
   else
    if(IN a.Local b.Local)then
     some false
    else
     Jo a.Preds b.Preds>>=fun r=>
     if r then
      some true
     else
      some false
def Fh (a b:List GStp) (i:Int):Option (Bool):=
 if(BV i (AF a))then
  AZ a i>>=fun x2=>
  AZ b i>>=fun x3=>
  MY x2 x3>>=fun r1=>
  if r1 then
   Fh a b (Ac i 1)
  else
   some false
 else
  some true
 partial_fixpoint
def Jp (a b:List GStp):Option (Bool):=
 if(neI (AF a) (AF b))then
  some false
 else
  Fh a b 0
def Tm (a b:GSel):Option (Bool):=
 if(IN a.Id b.Id)then
  some false
 else
  Jp a.Steps b.Steps>>=fun r=>
  if r then
   some true
  else
   some false
def MZ (a b:GDecl):Option (Bool):=
 if(IN a.Pre b.Pre)then
  some false
 else
  if(IN a.Uri b.Uri)then
   some false
  else
   some true
def Fi (a b:List GDecl) (i:Int):Option (Bool):=
 if(BV i (AF a))then
  AZ a i>>=fun x2=>
  AZ b i>>=fun x3=>
  MZ x2 x3>>=fun r1=>
  if r1 then
   Fi a b (Ac i 1)
  else
   some false
 else
  some true
 partial_fixpoint
def I7 (a b:List GDecl):Option (Bool):=
 if(neI (AF a) (AF b))then
  some false
 else
  Fi a b 0
def Ma (a b:GAttr):Option (Bool):=
 if(IN a.Pre b.Pre)then
  some false
 else
  if(IN a.Local b.Local)then
   some false
  else
   if(IN a.Uri b.Uri)then
    some false
   else
    if(IN a.Val b.Val)then
     some false
    else
     some true
def Fj (a b:List GAttr) (i:Int):Option (Bool):=
 if(BV i (AF a))then
  AZ a i>>=fun x2=>
  AZ b i>>=fun x3=>
  Ma x2 x3>>=fun r1=>
  if r1 then
   Fj a b (Ac i 1)
  else
   some false
 else
  some true
 partial_fixpoint
def Jq (a b:List GAttr):Option (Bool):=
 if(neI (AF a) (AF b))then
  some false
 else
  Fj a b 0
mutual
def Hn (a b:GNode):Option (Bool):=
 if(neI a.Kind b.Kind)then
  some false
 else
  if(IN a.Pre b.Pre)then
   some false
  else
   if(IN a.Local b.Local)then
    some false
   else
    if(IN a.Uri b.Uri)then
     some false
    else
     I7 a.Decls b.Decls>>=fun r=>
     if r then
      Jq a.Attrs b.Attrs>>=fun r1=>
      if r1 then
       Ee a.Kids b.Kids>>=fun r2=>
       if r2 then
        if(IN a.Text b.Text)then
         some false
        else
         some true
       else
        some false
      else
       some false
     else
      some false
 partial_fixpoint
def Ee (a b:List GNode):Option (Bool):=
 if(neI (AF a) (AF b))then
  some false
 else
  EO a b 0
 partial_fixpoint
def EO (a b:List GNode) (i:Int):Option (Bool):=
 if(BV i (AF a))then
  AZ a i>>=fun x2=>
  AZ b i>>=fun x3=>
  Hn x2 x3>>=fun r1=>
  if r1 then
   EO a b (Ac i 1)
  else
   some false
 else
  some true
 partial_fixpoint
end
def TJ (a b:GOp):Option (Bool):=
 if(neI a.Kind b.Kind)then
  some false
 else
  Tm a.Sel b.Sel>>=fun r=>
  if r then
   if(neI a.Pos b.Pos)then
    some false
   else
    if(neI a.Typ b.Typ)then
     some false
    else
     if(IN a.Pre b.Pre)then
      some false
     else
      if(IN a.Local b.Local)then
       some false
      else
       if(neI a.Ws b.Ws)then
        some false
       else
        Ee a.Kids b.Kids>>=fun r1=>
        if r1 then
         I7 a.Decls b.Decls>>=fun r2=>
         if r2 then
          some true
         else
          some false
        else
         some false
  else
   some false
def HZ (a b:List GOp) (i:Int):Option (Bool):=
 if(BV i (AF a))then
  AZ a i>>=fun x2=>
  AZ b i>>=fun x3=>
  TJ x2 x3>>=fun r1=>
  if r1 then
   HZ a b (Ac i 1)
  else
   some false
 else
  some true
 partial_fixpoint
def Pw (a b:List GOp):Option (Bool):=
 if(neI (AF a) (AF b))then
  some false
 else
  HZ a b 0
def Gj (aL:List GOp):Option (Bool):=
 Pt aL 1048576>>=fun r=>
 if(BV r 0)then
  some true
 else
  J0 aL>>=fun r1=>
  KJ r1>>=fun r2=>
  J0 aL>>=fun r3=>
  KN r3>>=fun r4=>
  if(IN r4 r2)then
   some false
  else
   J0 aL>>=fun r5=>
   Pw r3 r5>>=fun r6=>
   if r6 then
    some true
   else
    some false
end TT
