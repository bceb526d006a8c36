import Derived.Test.YtpmnlfgdicmiiaaGreatDoorTTypes
set_option maxHeartbeats 2000000
set_option linter.unusedVariables false
set_option linter.unusedSimpArgs false
set_option linter.defProp false
set_option maxRecDepth 100000
set_option synthInstance.maxHeartbeats 4000000
set_option synthInstance.maxSize 100000
namespace TT
open Go
def dM (code:List Int):Option (Bool):=
 some (Pj (AD code) 1048576)
def I5 (code:List Int) (h i:Int):Option (A7):=
 if(H5 i (AD code))then if(H5 i 4000)then getI code i>>=fun x1=>I5 code (XW .i64 (Af (Af (cy h 137) (wr .i64 x1)) 11) 1073741823) (Af i 1)
  else some (A7.mk code 0 h)
 else some (A7.mk code 0 h)
 partial_fixpoint
def QA (code:List Int):Option (A7):=
 I5 code (Af 129371 (AD code)) 0
def J1 (c:A7):Option (Int×A7):=
 nu .i64 (Af (cy c.xh 6364136223846793005) 1442695040888963407) 33>>=fun x=>nu .i64 (Af (cy c.xh 6364136223846793005) 1442695040888963407) 47>>=fun x1=>if(H5 c.xi (AD c.xb))then getI c.xb c.xi>>=fun x2=>some ((XW .i64 (Af (XW .i64 (A6c .i64 x x1) 255) (wr .i64 x2)) 255),(A7.mk c.xb (Af c.xi 1) (Af (cy c.xh 6364136223846793005) 1442695040888963407)))
 else some ((XW .i64 (A6c .i64 x x1) 255),(A7.mk c.xb c.xi (Af (cy c.xh 6364136223846793005) 1442695040888963407)))
def Cz (c:A7) (n:Int):Option (Int×A7):=
 if(leI n 0)then some (0,c)
 else if(leI n 256)then J1 c>>=fun r=>xx r.1 n>>=fun x=>some (x,r.2)
  else J1 c>>=fun r1=>J1 r1.2>>=fun r2=>J1 r2.2>>=fun r3=>xx (Af (Af (cy r1.1 65536) (cy r2.1 256)) r3.1) n>>=fun x1=>some (x1,r3.2)
def FR (c:A7) (n:Int):Option (Bool×A7):=
 Cz c n>>=fun r=>some ((Ag r.1 0),r.2)
def Dy (c:A7) (list:List ByteArray):Option (ByteArray×A7):=
 Cz c (AD list)>>=fun r=>getI list r.1>>=fun x=>some (x,r.2)
def U3 (c:A7):Option (ByteArray×A7):=
 Dy c [⟨#[117,114,110,58,117]⟩,⟨#[117,114,110,58,118]⟩,⟨#[117,114,110,58,119]⟩]>>=fun r=>some (r.1,r.2)
def RT (c:A7):Option (A2×A7):=
 Dy c [⟨#[]⟩,⟨#[112]⟩,⟨#[113]⟩,⟨#[114]⟩]>>=fun r=>U3 r.2>>=fun r1=>if(C6 r.1 (⟨#[]⟩))then FR r1.2 3>>=fun r2=>if r2.1 then some ((A2.mk r.1 (⟨#[]⟩)),r2.2)
  else some ((A2.mk r.1 r1.1),r2.2)
 else some ((A2.mk r.1 r1.1),r1.2)
def DJ (l:List (A2)) (i:Int) (c1:A7):Option (List A2×A7):=
 if(Pj i 0)then RT c1>>=fun r2=>if(Ag (AD l) 0)then room (l.length+1) 32>>=fun x_2=>DJ (l++[r2.1]) (Cq i 1) r2.2
  else getI l (Cq (AD l) 1)>>=fun x1=>if(ltS x1.Pre r2.1.Pre)then room (l.length+1) 32>>=fun x_3=>DJ (l++[r2.1]) (Cq i 1) r2.2
   else DJ l (Cq i 1) r2.2
 else some (l,c1)
 partial_fixpoint
def RU (c:A7):Option (List A2×A7):=
 Cz c 4>>=fun r=>DJ [] r.1 r.2
def Fn (l more:List A2):Option (List A2):=
 room (0+l.length) 32>>=fun x_=>room ((0+l.length)+more.length) 32>>=fun x_1=>some (([]++l)++more)
def CB (l:List A2) (pre:ByteArray) (i:Int):Option (ByteArray×Bool):=
 if(geI i 0)then getI l i>>=fun x1=>if(C6 x1.Pre pre)then some (x1.Uri,true)
  else CB l pre (Cq i 1)
 else some (⟨#[]⟩,(C6 pre (⟨#[]⟩)))
 partial_fixpoint
def C9 (l:List A2) (pre:ByteArray):Option (ByteArray×Bool):=
 CB l pre (Cq (AD l) 1)
def U4 (c:A7):Option (ByteArray×A7):=
 Dy c [⟨#[]⟩,⟨#[49]⟩,⟨#[50]⟩,⟨#[120,32,121]⟩,⟨#[195,169]⟩,⟨#[60,38,62,34]⟩,⟨#[97,10,98]⟩,⟨#[9]⟩]>>=fun r=>some (r.1,r.2)
def J2 (a b:A5):Option (Bool):=
 if(ltS a.Uri b.Uri)then some true
 else if(C6 a.Uri b.Uri)then some (ltS a.Local b.Local)
  else some false
mutual
def U5 (l:List A0):Option (List A0):=
 Lz l [] 0
 partial_fixpoint
def Lz (l:List A0) (out:List (A0)) (i:Int):Option (List A0):=
 if(H5 i (AD l))then getI l i>>=fun x1=>HS x1>>=fun r1=>room (out.length+1) 144>>=fun x_1=>Lz l (out++[r1]) (Af i 1)
 else some out
 partial_fixpoint
def HS (n:A0):Option (A0):=
 room (0+n.Decls.length) 32>>=fun x_=>room (0+n.Attrs.length) 64>>=fun x_1=>U5 n.Kids>>=fun r=>some (A0.mk n.Kind n.Pre n.Local n.Uri ([]++n.Decls) ([]++n.Attrs) r n.Text)
 partial_fixpoint
end
mutual
def Gd (l:List A0) (out:List (A0)) (i:Int) (x8:Bool) (x6:A0):Option (List A0):=
 if x8 then getI out (Cq (AD out) 1)>>=fun x9=>I1 x9.Text x6.Text>>=fun x10=>getI out (Cq (AD out) 1)>>=fun x11=>DM l (out.set (Int.toNat (Cq (AD out) 1)) (A0.mk x11.Kind x11.Pre x11.Local x11.Uri x11.Decls x11.Attrs x11.Kids x10)) (Af i 1)
 else HS x6>>=fun r2=>room (out.length+1) 144>>=fun x_2=>DM l (out++[r2]) (Af i 1)
 partial_fixpoint
def DM (l:List A0) (out:List (A0)) (i:Int):Option (List A0):=
 if(H5 i (AD l))then getI l i>>=fun x6=>if(Ag x6.Kind 2)then if(C6 x6.Text (⟨#[]⟩))then DM l out (Af i 1)
   else if(Pj (AD out) 0)then getI out (Cq (AD out) 1)>>=fun x7=>Gd l out i (Ag x7.Kind 2) x6
    else Gd l out i false x6
  else HS x6>>=fun r3=>room (out.length+1) 144>>=fun x_3=>DM l (out++[r3]) (Af i 1)
 else some out
 partial_fixpoint
end
def N2 (l:List A0):Option (List A0):=
 DM l [] 0
mutual
def Ij (c:A7) (in1:List A2) (most:Int):Option (A0×A7×Int):=
 Dy c [⟨#[97]⟩,⟨#[98]⟩,⟨#[99]⟩,⟨#[105,116,101,109]⟩]>>=fun r=>FR r.2 4>>=fun r1=>if r1.1 then RU r1.2>>=fun r2=>PE in1 r2.2 most r r2.1
 else PE in1 r1.2 most r []
 partial_fixpoint
def PE (in1:List A2) (c1:A7) (most:Int) (r:ByteArray×A7) (nDecls:List (A2)):Option (A0×A7×Int):=
 Fn in1 nDecls>>=fun r3=>FR c1 4>>=fun r4=>if r4.1 then Dy r4.2 [⟨#[112]⟩,⟨#[113]⟩]>>=fun r5=>M0 r3 r5.2 most r5.1 r nDecls
 else M0 r3 r4.2 most (⟨#[]⟩) r nDecls
 partial_fixpoint
def M0 (r3:List A2) (c2:A7) (most:Int) (nPre:ByteArray) (r:ByteArray×A7) (nDecls:List (A2)):Option (A0×A7×Int):=
 C9 r3 nPre>>=fun r6=>if r6.2 then M1 r3 r6.1 c2 most nPre r nDecls
 else C9 r3 (⟨#[]⟩)>>=fun r7=>M1 r3 r7.1 c2 most (⟨#[]⟩) r nDecls
 partial_fixpoint
def M1 (r3:List A2) (u:ByteArray) (c2:A7) (most:Int) (nPre1:ByteArray) (r:ByteArray×A7) (nDecls:List (A2)):Option (A0×A7×Int):=
 Cz c2 3>>=fun r8=>G8 r3 r8.1 r8.2 most nPre1 r u nDecls []
 partial_fixpoint
def Jm (r3:List A2) (i1:Int) (r31:ByteArray×A7) (most:Int) (nPre1:ByteArray) (r:ByteArray×A7) (u:ByteArray) (nDecls:List (A2)) (nAttrs:List (A5)) (a1:A5):Option (A0×A7×Int):=
 if(Ag (AD nAttrs) 0)then room (nAttrs.length+1) 64>>=fun x_10=>G8 r3 (Cq i1 1) r31.2 most nPre1 r u nDecls (nAttrs++[a1])
 else getI nAttrs (Cq (AD nAttrs) 1)>>=fun x3=>J2 x3 a1>>=fun r33=>if r33 then room (nAttrs.length+1) 64>>=fun x_11=>G8 r3 (Cq i1 1) r31.2 most nPre1 r u nDecls (nAttrs++[a1])
  else G8 r3 (Cq i1 1) r31.2 most nPre1 r u nDecls nAttrs
 partial_fixpoint
def M2 (r3:List A2) (i2:Int) (r42:Int×A7) (x5:Bool) (most2:Int) (nPre1:ByteArray) (r:ByteArray×A7) (u:ByteArray) (nDecls:List (A2)) (nAttrs:List (A5)) (nKids1:List (A0)):Option (A0×A7×Int):=
 if x5 then Dy r42.2 [⟨#[120]⟩,⟨#[121]⟩,⟨#[32]⟩,⟨#[10,32,32]⟩,⟨#[49]⟩,⟨#[226,130,172,60]⟩]>>=fun r43=>room (nKids1.length+1) 144>>=fun x_16=>ED r3 (Cq i2 1) r43.2 (Cq most2 1) nPre1 r u nDecls nAttrs (nKids1++[(A0.mk 2 (⟨#[]⟩) (⟨#[]⟩) (⟨#[]⟩) [] [] [] r43.1)])
 else if(Ag r42.1 2)then Dy r42.2 [⟨#[]⟩,⟨#[110]⟩,⟨#[32,109,32]⟩]>>=fun r44=>room (nKids1.length+1) 144>>=fun x_17=>ED r3 (Cq i2 1) r44.2 (Cq most2 1) nPre1 r u nDecls nAttrs (nKids1++[(A0.mk 3 (⟨#[]⟩) (⟨#[]⟩) (⟨#[]⟩) [] [] [] r44.1)])
  else if(Ag r42.1 3)then Dy r42.2 [⟨#[]⟩,⟨#[103,111]⟩]>>=fun r45=>room (nKids1.length+1) 144>>=fun x_18=>ED r3 (Cq i2 1) r45.2 (Cq most2 1) nPre1 r u nDecls nAttrs (nKids1++[(A0.mk 4 (⟨#[]⟩) (⟨#[116]⟩) (⟨#[]⟩) [] [] [] r45.1)])
   else Ij r42.2 r3 (Cq most2 1)>>=fun r46=>room (nKids1.length+1) 144>>=fun x_19=>ED r3 (Cq i2 1) r46.2.1 r46.2.2 nPre1 r u nDecls nAttrs (nKids1++[r46.1])
 partial_fixpoint
def ED (r3:List A2) (i2:Int) (c5:A7) (most2:Int) (nPre1:ByteArray) (r:ByteArray×A7) (u:ByteArray) (nDecls:List (A2)) (nAttrs:List (A5)) (nKids1:List (A0)):Option (A0×A7×Int):=
 if(Pj i2 0)then if(Pj most2 0)then Cz c5 6>>=fun r42=>if(Ag r42.1 0)then M2 r3 i2 r42 true most2 nPre1 r u nDecls nAttrs nKids1
   else M2 r3 i2 r42 (Ag r42.1 1) most2 nPre1 r u nDecls nAttrs nKids1
  else N2 nKids1>>=fun r47=>some ((A0.mk 1 nPre1 r.1 u nDecls nAttrs r47 (⟨#[]⟩)),c5,most2)
 else N2 nKids1>>=fun r48=>some ((A0.mk 1 nPre1 r.1 u nDecls nAttrs r48 (⟨#[]⟩)),c5,most2)
 partial_fixpoint
def G8 (r3:List A2) (i1:Int) (c4:A7) (most:Int) (nPre1:ByteArray) (r:ByteArray×A7) (u:ByteArray) (nDecls:List (A2)) (nAttrs:List (A5)):Option (A0×A7×Int):=
 if(Pj i1 0)then Dy c4 [⟨#[105,100]⟩,⟨#[107]⟩,⟨#[118]⟩]>>=fun r29=>U4 r29.2>>=fun r30=>Dy r30.2 [⟨#[]⟩,⟨#[]⟩,⟨#[112]⟩]>>=fun r31=>C9 r3 r31.1>>=fun r32=>if(UV r31.1 (⟨#[]⟩))then if r32.2 then Jm r3 i1 r31 most nPre1 r u nDecls nAttrs (A5.mk r31.1 r29.1 r32.1 r30.1)
   else Jm r3 i1 r31 most nPre1 r u nDecls nAttrs (A5.mk (⟨#[]⟩) r29.1 (⟨#[]⟩) r30.1)
  else Jm r3 i1 r31 most nPre1 r u nDecls nAttrs (A5.mk (⟨#[]⟩) r29.1 (⟨#[]⟩) r30.1)
 else Cz c4 4>>=fun r34=>ED r3 r34.1 r34.2 most nPre1 r u nDecls nAttrs []
 partial_fixpoint
end
def A8N := @Ij.mutual_partial_correctness
mutual
def CX (n:A0):Option (Int):=
 BM (Af 1 (AD n.Attrs)) 0 n
 partial_fixpoint
def BM (k i:Int) (n:A0):Option (Int):=
 if(H5 i (AD n.Kids))then getI n.Kids i>>=fun x1=>CX x1>>=fun r1=>BM (Af k r1) (Af i 1) n
 else some k
 partial_fixpoint
end
def CH (a0 least most:Int):Option (Bool):=
 if(geI a0 least)then some (leI a0 most)
 else some false
def BX (s:ByteArray) (at1 n least v1 i:Int):Option (Int×Int×Bool):=
 if(leI i n)then atS s (Af at1 i)>>=fun x4=>if(H5 (wr .i64 x4) 128)then some (0,0,false)
  else if(Pj (wr .i64 x4) 191)then some (0,0,false)
   else BX s at1 n least (Cq (Af (cy v1 64) (wr .i64 x4)) 128) (Af i 1)
 else if(H5 v1 least)then some (0,0,false)
  else if(Pj v1 1114111)then some (0,0,false)
   else CH v1 55296 57343>>=fun r1=>if r1 then some (0,0,false)
    else some (v1,(Af (Af at1 1) n),true)
 partial_fixpoint
def yx := @BX.partial_correctness
def Ds (s:ByteArray) (at1 n least v:Int):Option (Int×Int×Bool):=
 if(Pj at1 (Cq (Cq (B7 s) 1) n))then some (0,0,false)
 else BX s at1 n least v 1
def Eb (s:ByteArray) (at1 x:Int) (x2:Bool):Option (Int×Int×Bool):=
 if x2 then Ds s at1 2 2048 (XW .i64 (wr .i64 x) 15)
 else if(geI (wr .i64 x) 240)then if(H5 (wr .i64 x) 248)then Ds s at1 3 65536 (XW .i64 (wr .i64 x) 7)
   else some (0,0,false)
  else some (0,0,false)
def Ec (s:ByteArray) (at1 x:Int) (x1:Bool):Option (Int×Int×Bool):=
 if x1 then Ds s at1 1 128 (XW .i64 (wr .i64 x) 31)
 else if(geI (wr .i64 x) 224)then Eb s at1 x (H5 (wr .i64 x) 240)
  else Eb s at1 x false
def G9 (s:ByteArray) (at1:Int):Option (Int×Int×Bool):=
 if(H5 at1 0)then some (0,0,false)
 else if(geI at1 (B7 s))then some (0,0,false)
  else atS s at1>>=fun x=>if(H5 (wr .i64 x) 128)then some ((wr .i64 x),(Af at1 1),true)
   else if(geI (wr .i64 x) 192)then Ec s at1 x (H5 (wr .i64 x) 224)
    else Ec s at1 x false
def BE (n:Int) (l:List Int) (i:Int):Option (Bool):=
 if(H5 (Af i 1) (AD l))then getI l i>>=fun x2=>getI l (Af i 1)>>=fun x3=>CH n x2 x3>>=fun r1=>if r1 then some true
  else BE n l (Af i 2)
 else some false
 partial_fixpoint
def FI (n:Int) (l:List Int):Option (Bool):=
 BE n l 0
def EP (n:Int):Option (Bool):=
 FI n [65,90,95,95,97,122,192,214,216,246,248,767,880,893,895,8191,8204,8205,8304,8591,11264,12271,12289,55295,63744,64975,65008,65533,65536,983039]>>=fun r=>some r
def FS (n:Int):Option (Bool):=
 EP n>>=fun r=>if r then some true
 else FI n [45,46,48,57,183,183,768,879,8255,8256]>>=fun r1=>some r1
def B6 (s:ByteArray) (at1:Int):Option (Bool):=
 if(H5 at1 (B7 s))then G9 s at1>>=fun r5=>if r5.2.2 then if(Ag at1 0)then EP r5.1>>=fun r6=>if r6 then FS r5.1>>=fun r7=>if r7 then B6 s r5.2.1
     else some false
    else some false
   else FS r5.1>>=fun r8=>if r8 then B6 s r5.2.1
    else some false
  else some false
 else some true
 partial_fixpoint
def BQ (s:ByteArray):Option (Bool):=
 CH (B7 s) 1 16>>=fun r=>if r then B6 s 0
 else some false
def Ke (s:ByteArray):Option (Bool):=
 if(geI (B7 s) 3)then Pk s 0 3>>=fun x=>some (C6 x (⟨#[120,109,108]⟩))
 else some false
def EQ (s:ByteArray):Option (Bool):=
 if(C6 s (⟨#[]⟩))then some true
 else BQ s>>=fun r=>if r then Ke s>>=fun r1=>some (!r1)
  else some false
def Kf (n:Int):Option (Bool):=
 if(Ag n 9)then some true
 else if(Ag n 10)then some true
  else if(Ag n 13)then some true
   else CH n 32 55295>>=fun r=>if r then some true
    else CH n 57344 65533>>=fun r1=>if r1 then some true
     else CH n 65536 1114111>>=fun r2=>some r2
def CC (s:ByteArray) (at1:Int):Option (Bool):=
 if(H5 at1 (B7 s))then G9 s at1>>=fun r2=>if r2.2.2 then Kf r2.1>>=fun r3=>if r3 then CC s r2.2.1
   else some false
  else some false
 else some (leI (B7 s) 1500)
 partial_fixpoint
def HU (s:ByteArray):Option (Bool):=
 CC s 0
def Bv (s:ByteArray):Option (Bool):=
 if(leI (B7 s) 600)then HU s>>=fun r=>some r
 else some false
def Ge (d:A2):Option (Bool):=
 Bv d.Uri>>=fun r2=>if r2 then some (leI (B7 d.Uri) 40)
 else some false
def Kg (d:A2):Option (Bool):=
 if(UV d.Pre (⟨#[]⟩))then BQ d.Pre>>=fun r=>if r then Ke d.Pre>>=fun r1=>if r1 then some false
   else if(C6 d.Uri (⟨#[]⟩))then some false
    else Ge d
  else some false
 else Ge d
def CD (l:List A2) (i:Int):Option (Bool):=
 if(H5 i (AD l))then getI l i>>=fun x2=>Kg x2>>=fun r1=>if r1 then if(Pj i 0)then getI l (Cq i 1)>>=fun x3=>if(geS x3.Pre x2.Pre)then some false
    else CD l (Af i 1)
   else CD l (Af i 1)
  else some false
 else some (leI (AD l) 4)
 partial_fixpoint
def Dt (l:List A2):Option (Bool):=
 CD l 0
def J3 (n:A0):Option (Bool):=
 if(C6 n.Pre (⟨#[]⟩))then if(C6 n.Uri (⟨#[]⟩))then if(Ag (AD n.Decls) 0)then if(Ag (AD n.Attrs) 0)then some (Ag (AD n.Kids) 0)
    else some false
   else some false
  else some false
 else some false
def DN (s t:ByteArray) (i:Int):Option (Bool):=
 if(leI (Af i (B7 t)) (B7 s))then Pk s i (Af i (B7 t))>>=fun x1=>if(C6 x1 t)then some true
  else DN s t (Af i 1)
 else some false
 partial_fixpoint
def Dz (s t:ByteArray):Option (Bool):=
 DN s t 0
def N3 (s:ByteArray):Option (Bool):=
 if(neI (B7 s) 3)then some false
 else atS s 0>>=fun x=>if(Ag x 120)then atS s 1>>=fun x1=>if(Ag x1 109)then atS s 2>>=fun x2=>if(Ag x2 108)then some true
    else atS s 2>>=fun x3=>some (Ag x3 76)
   else atS s 1>>=fun x4=>if(Ag x4 77)then atS s 2>>=fun x5=>if(Ag x5 108)then some true
     else atS s 2>>=fun x6=>some (Ag x6 76)
    else some false
  else atS s 0>>=fun x7=>if(Ag x7 88)then atS s 1>>=fun x8=>if(Ag x8 109)then atS s 2>>=fun x9=>if(Ag x9 108)then some true
     else atS s 2>>=fun x10=>some (Ag x10 76)
    else atS s 1>>=fun x11=>if(Ag x11 77)then atS s 2>>=fun x12=>if(Ag x12 108)then some true
      else atS s 2>>=fun x13=>some (Ag x13 76)
     else some false
   else some false
def HV (n:Int):Option (Bool):=
 if(Ag n 9)then some true
 else if(Ag n 10)then some true
  else if(Ag n 13)then some true
   else some (Ag n 32)
def Ey (a:A5):Option (Bool):=
 Bv a.Val>>=fun r2=>if r2 then Bv a.Uri>>=fun r3=>if r3 then some (leI (B7 a.Uri) 40)
  else some false
 else some false
def GA (a:A5):Option (Bool):=
 EQ a.Pre>>=fun r=>if r then if(neB (C6 a.Pre (⟨#[]⟩)) (C6 a.Uri (⟨#[]⟩)))then some false
  else BQ a.Local>>=fun r1=>if r1 then if(C6 a.Pre (⟨#[]⟩))then if(C6 a.Local (⟨#[120,109,108,110,115]⟩))then some false
     else Ey a
    else Ey a
   else some false
 else some false
def C1 (i:Int) (n:A0):Option (Bool):=
 if(H5 i (AD n.Attrs))then getI n.Attrs i>>=fun x2=>GA x2>>=fun r8=>if r8 then if(Pj i 0)then getI n.Attrs (Cq i 1)>>=fun x3=>J2 x3 x2>>=fun r9=>if r9 then C1 (Af i 1) n
    else some false
   else C1 (Af i 1) n
  else some false
 else some true
 partial_fixpoint
def EE (n:A0):Option (Bool):=
 C1 0 n
def Dc (n:A0):Option (Bool):=
 if(Ag n.Kind 1)then EQ n.Pre>>=fun r=>if r then BQ n.Local>>=fun r1=>if r1 then if(UV n.Text (⟨#[]⟩))then some false
    else if(UV n.Pre (⟨#[]⟩))then if(C6 n.Uri (⟨#[]⟩))then some false
      else Bv n.Uri>>=fun r2=>if r2 then if(Pj (B7 n.Uri) 40)then some false
        else Dt n.Decls>>=fun r3=>if r3 then if(Pj (AD n.Attrs) 5)then some false
          else EE n
         else some false
       else some false
     else Bv n.Uri>>=fun r4=>if r4 then if(Pj (B7 n.Uri) 40)then some false
       else Dt n.Decls>>=fun r5=>if r5 then if(Pj (AD n.Attrs) 5)then some false
         else EE n
        else some false
      else some false
   else some false
  else some false
 else if(Ag n.Kind 2)then J3 n>>=fun r10=>if r10 then if(C6 n.Local (⟨#[]⟩))then if(UV n.Text (⟨#[]⟩))then Bv n.Text>>=fun r11=>some r11
     else some false
    else some false
   else some false
  else if(Ag n.Kind 3)then J3 n>>=fun r12=>if r12 then if(C6 n.Local (⟨#[]⟩))then Bv n.Text>>=fun r13=>if r13 then Dz n.Text (⟨#[45,45]⟩)>>=fun r14=>if r14 then some false
       else Dz n.Text (⟨#[13]⟩)>>=fun r15=>if r15 then some false
        else if(C6 n.Text (⟨#[]⟩))then some true
         else atS n.Text (Cq (B7 n.Text) 1)>>=fun x4=>some (neI x4 45)
      else some false
     else some false
    else some false
   else if(Ag n.Kind 4)then J3 n>>=fun r16=>if r16 then BQ n.Local>>=fun r17=>if r17 then N3 n.Local>>=fun r18=>if r18 then some false
       else Bv n.Text>>=fun r19=>if r19 then Dz n.Text (⟨#[63,62]⟩)>>=fun r20=>if r20 then some false
         else Dz n.Text (⟨#[13]⟩)>>=fun r21=>if r21 then some false
          else if(C6 n.Text (⟨#[]⟩))then some true
           else atS n.Text 0>>=fun x5=>HV (wr .i64 x5)>>=fun r22=>some (!r22)
        else some false
      else some false
     else some false
    else some false
mutual
def Bi (l:List A0) (deep:Int):Option (Bool):=
 Bd l deep 0
 partial_fixpoint
def DO (l:List A0) (deep i:Int) (x2:A0):Option (Bool):=
 if(Ag x2.Kind 1)then if(Ag deep 7)then some false
  else Bi x2.Kids (Af deep 1)>>=fun r3=>if r3 then Bd l deep (Af i 1)
   else some false
 else Bd l deep (Af i 1)
 partial_fixpoint
def Bd (l:List A0) (deep i:Int):Option (Bool):=
 if(H5 i (AD l))then getI l i>>=fun x2=>Dc x2>>=fun r2=>if r2 then if(Ag x2.Kind 2)then if(Pj i 0)then getI l (Cq i 1)>>=fun x3=>if(Ag x3.Kind 2)then some false
     else DO l deep i x2
    else DO l deep i x2
   else DO l deep i x2
  else some false
 else some true
 partial_fixpoint
end
mutual
def DP (k2 i:Int) (n:A0):Option (Bool):=
 getI n.Kids i>>=fun x3=>if(Ag x3.Kind 2)then some false
 else BN k2 (Af i 1) n
 partial_fixpoint
def BN (k1 i:Int) (n:A0):Option (Bool):=
 if(H5 i (AD n.Kids))then getI n.Kids i>>=fun x2=>if(Ag x2.Kind 1)then DP (Af k1 1) i n
  else DP k1 i n
 else if(Ag k1 1)then if(C6 n.Pre (⟨#[]⟩))then if(C6 n.Local (⟨#[]⟩))then if(C6 n.Uri (⟨#[]⟩))then if(C6 n.Text (⟨#[]⟩))then if(Ag (AD n.Decls) 0)then if(Ag (AD n.Attrs) 0)then Bi n.Kids 0>>=fun r3=>some r3
        else some false
       else some false
      else some false
     else some false
    else some false
   else some false
  else some false
 partial_fixpoint
end
def FU (n:A0):Option (Bool):=
 CX n>>=fun r=>if(Pj r 60)then some false
 else if(neI n.Kind 0)then Bi [n] 0>>=fun r1=>some r1
  else BN 0 0 n
mutual
def CN (n:A0) (l:List A2):Option (Bool):=
 Fn l n.Decls>>=fun r=>if(Ag n.Kind 1)then C9 r n.Pre>>=fun r1=>if r1.2 then if(UV r1.1 n.Uri)then some false
   else Ch r n
  else some false
 else Ch r n
 partial_fixpoint
def Ch (r:List A2) (n:A0):Option (Bool):=
 Bj r 0 n
 partial_fixpoint
def Ay (r:List A2) (i2:Int) (n:A0):Option (Bool):=
 if(H5 i2 (AD n.Kids))then getI n.Kids i2>>=fun x5=>CN x5 r>>=fun r7=>if r7 then Ay r (Af i2 1) n
  else some false
 else some true
 partial_fixpoint
def Bj (r:List A2) (i1:Int) (n:A0):Option (Bool):=
 if(H5 i1 (AD n.Attrs))then getI n.Attrs i1>>=fun x3=>C9 r x3.Pre>>=fun r5=>if(UV x3.Pre (⟨#[]⟩))then if r5.2 then if(UV r5.1 x3.Uri)then some false
    else Bj r (Af i1 1) n
   else some false
  else Bj r (Af i1 1) n
 else Ay r 0 n
 partial_fixpoint
end
def FV (n:A0):Option (Bool):=
 if(Ag n.Kind 0)then FU n>>=fun r=>if r then CN n []>>=fun r1=>some r1
  else some false
 else some false
def HA (r3:Bool×A7) (nKids1:List (A0)):Option (A0×A7):=
 FV (A0.mk 0 (⟨#[]⟩) (⟨#[]⟩) (⟨#[]⟩) [] [] nKids1 (⟨#[]⟩))>>=fun r4=>if r4 then some ((A0.mk 0 (⟨#[]⟩) (⟨#[]⟩) (⟨#[]⟩) [] [] nKids1 (⟨#[]⟩)),r3.2)
 else some ((A0.mk 0 (⟨#[]⟩) (⟨#[]⟩) (⟨#[]⟩) [] [] [(A0.mk 1 (⟨#[]⟩) (⟨#[97]⟩) (⟨#[]⟩) [] [] [] (⟨#[]⟩))] (⟨#[]⟩)),r3.2)
def Ik (r1:Bool×A7) (r:Int×A7) (nKids:List (A0)):Option (A0×A7):=
 Ij r1.2 [] (Af 3 r.1)>>=fun r2=>room (nKids.length+1) 144>>=fun x_1=>FR r2.2.1 4>>=fun r3=>if r3.1 then room ((nKids++[r2.1]).length+1) 144>>=fun x_2=>HA r3 ((nKids++[r2.1])++[(A0.mk 4 (⟨#[]⟩) (⟨#[116]⟩) (⟨#[]⟩) [] [] [] (⟨#[101,110,100]⟩))])
 else HA r3 (nKids++[r2.1])
def J4 (c:A7):Option (A0×A7):=
 Cz c 8>>=fun r=>FR r.2 4>>=fun r1=>if r1.1 then room 1 144>>=fun x_=>Ik r1 r ([]++[(A0.mk 3 (⟨#[]⟩) (⟨#[]⟩) (⟨#[]⟩) [] [] [] (⟨#[104]⟩))])
 else Ik r1 r []
def U6 (c:A7) (list:List Int):Option (Int×A7):=
 Cz c (AD list)>>=fun r=>getI list r.1>>=fun x=>some (x,r.2)
def HC (p:List (Int)) (c2:A7):Option (List Int×A7):=
 FR c2 8>>=fun r4=>if r4.1 then U6 r4.2 [(-1),0,7]>>=fun r5=>room (p.length+1) 8>>=fun x_2=>some ((p++[r5.1]),r5.2)
 else some (p,r4.2)
def HD (p:List (Int)) (c1:A7) (x1:A0):Option (List Int×A7):=
 if(Pj (AD x1.Kids) 0)then FR c1 4>>=fun r2=>if r2.1 then HC p r2.2
  else Cz r2.2 (AD x1.Kids)>>=fun r3=>room (p.length+1) 8>>=fun x_1=>getI x1.Kids r3.1>>=fun x2=>HD (p++[r3.1]) r3.2 x2
 else HC p c1
 partial_fixpoint
def LL (c:A7) (n:A0):Option (List Int×A7):=
 HD [] c n
def Jh (code:List Int):Option (A0×List Int):=
 QA code>>=fun r=>J4 r>>=fun r1=>LL r1.2 r1.1>>=fun r2=>some (r1.1,r2.1)
def HW (n lo hi:Int):Option (Bool):=
 if(geI n lo)then some (leI n hi)
 else some false
def HX (s:List (A2)):Option (List A2):=
 room s.length 32>>=fun _=>some s
def HY (s:List (A5)):Option (List A5):=
 room s.length 64>>=fun _=>some s
mutual
def FW (n:A0):Option (A0):=
 HX n.Decls>>=fun r=>HY n.Attrs>>=fun r1=>Mh n.Kids>>=fun r2=>some (A0.mk n.Kind n.Pre n.Local n.Uri r r1 r2 n.Text)
 partial_fixpoint
def Mh (l:List A0):Option (List A0):=
 Gf [] l 0
 partial_fixpoint
def Gf (out:List (A0)) (l:List A0) (x1:Int):Option (List A0):=
 if(H5 x1 (AD l))then getI l x1>>=fun x2=>FW x2>>=fun r1=>room (out.length+1) 144>>=fun x_1=>Gf (out++[r1]) l (Af x1 1)
 else some out
 partial_fixpoint
end
def Gg (path:List Int) (x2:Int) (n1:A0):Option (A0×Bool):=
 if(H5 x2 (AD path))then getI path x2>>=fun x3=>HW x3 0 (Cq (AD n1.Kids) 1)>>=fun r2=>if r2 then getI n1.Kids x3>>=fun x4=>Gg path (Af x2 1) x4
  else some ((A0.mk 0 (⟨#[]⟩) (⟨#[]⟩) (⟨#[]⟩) [] [] [] (⟨#[]⟩)),false)
 else FW n1>>=fun r3=>some (r3,true)
 partial_fixpoint
def GB (n:A0) (path:List Int):Option (A0×Bool):=
 Gg path 0 n
def Ci (kind n:Int) (l:List A0) (x1:Int):Option (Int):=
 if(H5 x1 (AD l))then getI l x1>>=fun x2=>if(Ag x2.Kind kind)then Ci kind (Af n 1) l (Af x1 1)
  else Ci kind n l (Af x1 1)
 else some n
 partial_fixpoint
def HZ (l:List A0) (kind:Int):Option (Int):=
 Ci kind 0 l 0
def M3 (kind:Int):Option (Int):=
 if(Ag kind 2)then some 3
 else if(Ag kind 3)then some 4
  else if(Ag kind 4)then some 5
   else some 2
def Fo (path:List Int) (x3:Int) (t1:A0) (outSteps:List (AE)):Option (B8×Bool):=
 if(H5 x3 (AD path))then getI path x3>>=fun x4=>getI t1.Kids x4>>=fun x5=>slL t1.Kids 0 (Af x4 1)>>=fun x6=>HZ x6 x5.Kind>>=fun r4=>M3 x5.Kind>>=fun r5=>room (outSteps.length+1) 72>>=fun x_1=>Fo path (Af x3 1) x5 (outSteps++[(AE.mk false r5 (⟨#[]⟩) (⟨#[]⟩) [(AH.mk 1 r4 (⟨#[]⟩) (⟨#[]⟩) (⟨#[]⟩))])])
 else some ((B8.mk (⟨#[]⟩) outSteps),true)
 partial_fixpoint
def Kh (t:A0) (path:List Int):Option (B8×Bool):=
 GB t path>>=fun r=>if r.2 then HW (AD path) 1 8>>=fun r1=>if r1 then Fo path 0 t []
  else some ((B8.mk (⟨#[]⟩) []),false)
 else some ((B8.mk (⟨#[]⟩) []),false)
def Gh (path:List Int) (i:Int) (x2:A0):Option (A0×Bool):=
 if(H5 i (AD path))then getI path i>>=fun x3=>CH x3 0 (Cq (AD x2.Kids) 1)>>=fun r2=>if r2 then getI x2.Kids x3>>=fun x4=>Gh path (Af i 1) x4
  else some ((A0.mk 0 (⟨#[]⟩) (⟨#[]⟩) (⟨#[]⟩) [] [] [] (⟨#[]⟩)),false)
 else HS x2>>=fun r3=>some (r3,true)
 partial_fixpoint
def NS (n:A0) (path:List Int):Option (A0×Bool):=
 Gh path 0 n
def CI (i nth k:Int) (up x:A0):Option (AE):=
 if(H5 k (AD up.Kids))then getI up.Kids k>>=fun x2=>if(Ag x2.Kind x.Kind)then if(leI k i)then CI i (Af nth 1) (Af k 1) up x
   else CI i nth (Af k 1) up x
  else CI i nth (Af k 1) up x
 else if(Ag x.Kind 2)then some (AE.mk false 3 (⟨#[]⟩) (⟨#[]⟩) [(AH.mk 1 nth (⟨#[]⟩) (⟨#[]⟩) (⟨#[]⟩))])
  else if(Ag x.Kind 3)then some (AE.mk false 4 (⟨#[]⟩) (⟨#[]⟩) [(AH.mk 1 nth (⟨#[]⟩) (⟨#[]⟩) (⟨#[]⟩))])
   else if(Ag x.Kind 4)then some (AE.mk false 5 (⟨#[]⟩) (⟨#[]⟩) [(AH.mk 1 nth (⟨#[]⟩) (⟨#[]⟩) (⟨#[]⟩))])
    else some (AE.mk false 2 (⟨#[]⟩) (⟨#[]⟩) [(AH.mk 1 nth (⟨#[]⟩) (⟨#[]⟩) (⟨#[]⟩))])
 partial_fixpoint
def PF (up:A0) (i:Int):Option (AE):=
 getI up.Kids i>>=fun x=>CI i 0 0 up x
def Fp (path:List Int) (i:Int) (outSteps:List (AE)) (x2:A0):Option (B8×Bool):=
 if(H5 i (AD path))then getI path i>>=fun x3=>PF x2 x3>>=fun r3=>room (outSteps.length+1) 72>>=fun x_1=>getI x2.Kids x3>>=fun x4=>Fp path (Af i 1) (outSteps++[r3]) x4
 else some ((B8.mk (⟨#[]⟩) outSteps),true)
 partial_fixpoint
def Ki (t:A0) (path:List Int):Option (B8×Bool):=
 NS t path>>=fun r=>if r.2 then CH (AD path) 1 8>>=fun r1=>if r1 then Fp path 0 [] t
  else some ((B8.mk (⟨#[]⟩) []),false)
 else some ((B8.mk (⟨#[]⟩) []),false)
def Il (code:List Int):Option (A0×List Int×A5):=
 QA code>>=fun r=>J4 r>>=fun r1=>LL r1.2 r1.1>>=fun r2=>NS r1.1 r2.1>>=fun r3=>Dy r2.2 [⟨#[107]⟩,⟨#[118]⟩,⟨#[97,58,98]⟩]>>=fun r4=>if(Pj (AD r3.1.Attrs) 0)then Cz r4.2 (AD r3.1.Attrs)>>=fun r5=>getI r3.1.Attrs r5.1>>=fun x=>some (r1.1,r2.1,x)
 else some (r1.1,r2.1,(A5.mk (⟨#[]⟩) r4.1 (⟨#[]⟩) (⟨#[49]⟩)))
def Ej (s:ByteArray):Option (Int×Int):=
 some (je s)
def NT (s:ByteArray) (at1:Int):Option (Int×Int×Bool):=
 HW at1 0 (Cq (B7 s) 1)>>=fun r=>if r then Pk s at1 (B7 s)>>=fun x=>Ej x>>=fun r1=>if(Ag r1.1 65533)then if(leI r1.2 1)then some (0,0,false)
   else some ((wr .i64 r1.1),(Af at1 r1.2),true)
  else some ((wr .i64 r1.1),(Af at1 r1.2),true)
 else some (0,0,false)
def TR (r:AG) (a1:Int):Option (Bool×Int):=
 HW a1 r.xa0 r.xa1>>=fun r1=>some (r1,a1)
def Ar (s:List AG) (x1 f:Int):Option (Int×Int):=
 if(H5 x1 (AD s))then getI s x1>>=fun x2=>TR x2 f>>=fun r1=>if r1.1 then some (x1,r1.2)
  else Ar s (Af x1 1) r1.2
 else some ((-1),f)
 partial_fixpoint
def DS (s:List AG) (fc0:Int):Option (Int×Int):=
 Ar s 0 fc0
def Cl (s:List AG) (fc0:Int):Option (Bool×Int):=
 DS s fc0>>=fun r=>some ((geI r.1 0),r.2)
def N4 (n:Int) (ranges:List AG):Option (Bool):=
 Cl ranges n>>=fun r=>some r.1
def LM (n:Int):Option (Bool):=
 N4 n [(AG.mk 65 90),(AG.mk 95 95),(AG.mk 97 122),(AG.mk 192 214),(AG.mk 216 246),(AG.mk 248 767),(AG.mk 880 893),(AG.mk 895 8191),(AG.mk 8204 8205),(AG.mk 8304 8591),(AG.mk 11264 12271),(AG.mk 12289 55295),(AG.mk 63744 64975),(AG.mk 65008 65533),(AG.mk 65536 983039)]>>=fun r=>some r
def NU (n:Int):Option (Bool):=
 LM n>>=fun r=>if r then some true
 else N4 n [(AG.mk 45 46),(AG.mk 48 57),(AG.mk 183 183),(AG.mk 768 879),(AG.mk 8255 8256)]>>=fun r1=>some r1
def Du (s:ByteArray) (at1:Int):Option (Bool):=
 if(H5 at1 (B7 s))then NT s at1>>=fun r5=>if r5.2.2 then if(Ag at1 0)then LM r5.1>>=fun r6=>if r6 then NU r5.1>>=fun r7=>if r7 then Du s r5.2.1
     else some false
    else some false
   else NU r5.1>>=fun r8=>if r8 then Du s r5.2.1
    else some false
  else some false
 else HW (B7 s) 1 16>>=fun r9=>some r9
 partial_fixpoint
def CA (s:ByteArray):Option (Bool):=
 Du s 0
def Kj (pre local1:ByteArray):Option (Bool):=
 if(C6 pre (⟨#[]⟩))then CA local1>>=fun r=>some r
 else CA pre>>=fun r1=>if r1 then CA local1>>=fun r2=>some r2
  else some false
def RW (n:Int):Option (Bool):=
 N4 n [(AG.mk 9 10),(AG.mk 13 13),(AG.mk 32 55295),(AG.mk 57344 65533),(AG.mk 65536 1114111)]>>=fun r=>some r
def Dv (s:ByteArray) (at1:Int):Option (Bool):=
 if(H5 at1 (B7 s))then NT s at1>>=fun r2=>if r2.2.2 then RW r2.1>>=fun r3=>if r3 then Dv s r2.2.1
   else some false
  else some false
 else some true
 partial_fixpoint
def LN (s:ByteArray):Option (Bool):=
 Dv s 0
def E3 (s:ByteArray):Option (Bool):=
 if(leI (B7 s) 600)then LN s>>=fun r=>some r
 else some false
def strings_Contains (s t:ByteArray):Option (Bool):=
 if s.size<4294967281 then some (GL s t)else none
def JS (s:ByteArray):Option (Bool):=
 E3 s>>=fun r=>if r then strings_Contains s (⟨#[39]⟩)>>=fun r1=>if r1 then strings_Contains s (⟨#[34]⟩)>>=fun r2=>some (!r2)
  else some true
 else some false
def Ji (named element:Bool) (p:AH) (x:Bool):Option (Bool):=
 if x then if element then if(Ag p.N 0)then Kj p.Pre p.Local>>=fun r1=>if r1 then JS p.Val>>=fun r2=>some r2
    else some false
   else some false
  else some false
 else if(Ag p.Kind 4)then if element then if(Ag p.N 0)then if named then some false
     else JS p.Val>>=fun r3=>some r3
    else some false
   else some false
  else some false
def Gi (named element:Bool) (p:AH):Option (Bool):=
 if(Ag p.Kind 1)then HW p.N 1 999>>=fun r=>if r then if named then some false
   else some (C6 p.Val (⟨#[]⟩))
  else some false
 else if(Ag p.Kind 2)then Ji named element p true
  else Ji named element p (Ag p.Kind 3)
def Gj (kind:Int) (named:Bool) (p:AH):Option (Bool):=
 if(Ag kind 1)then Gi named true p
 else Gi named (Ag kind 2) p
def GC (p:AH) (kind:Int):Option (Bool):=
 if(UV p.Pre (⟨#[]⟩))then Gj kind true p
 else Gj kind (UV p.Local (⟨#[]⟩)) p
def I6 (p:AH) (a1:AE):Option (Bool×AE):=
 GC p a1.Kind>>=fun r=>some ((!r),a1)
def AU (s:List AH) (x1:Int) (f:AE):Option (Int×AE):=
 if(H5 x1 (AD s))then getI s x1>>=fun x2=>I6 x2 f>>=fun r1=>if r1.1 then some (x1,r1.2)
  else AU s (Af x1 1) r1.2
 else some ((-1),f)
 partial_fixpoint
def CJ (s:List AH) (fc0:AE):Option (Int×AE):=
 AU s 0 fc0
def As (s:List AH) (fc0:AE):Option (Bool×AE):=
 CJ s fc0>>=fun r=>some ((geI r.1 0),r.2)
def CE (end1:Bool) (r:Bool×AE) (x sDeep:Bool):Option (Bool):=
 if x then if(C6 r.2.Pre (⟨#[]⟩))then some (C6 r.2.Local (⟨#[]⟩))
  else some false
 else if(Ag r.2.Kind 5)then if(C6 r.2.Pre (⟨#[]⟩))then if(C6 r.2.Local (⟨#[]⟩))then some true
    else CA r.2.Local>>=fun r2=>some r2
   else some false
  else if(Ag r.2.Kind 6)then if end1 then Kj r.2.Pre r.2.Local>>=fun r3=>some r3
    else some false
   else if(Ag r.2.Kind 7)then if end1 then if(C6 r.2.Pre (⟨#[]⟩))then CA r.2.Local>>=fun r4=>some r4
      else some false
     else some false
    else some false
def Ed (end1 sDeep:Bool) (r:Bool×AE):Option (Bool):=
 if(Ag r.2.Kind 1)then Kj r.2.Pre r.2.Local>>=fun r1=>some r1
 else if(Ag r.2.Kind 2)then CE end1 r true sDeep
  else if(Ag r.2.Kind 3)then CE end1 r true sDeep
   else CE end1 r (Ag r.2.Kind 4) sDeep
def Kk (s:AE) (last:Bool):Option (Bool):=
 if(Pj (AD s.Preds) 3)then some false
 else As s.Preds s>>=fun r=>if r.1 then some false
  else if last then if r.2.Deep then Ed false true r
    else Ed (Ag (AD r.2.Preds) 0) false r
   else Ed false r.2.Deep r
def EF (s:B8) (x1:Int):Option (Bool):=
 if(H5 x1 (AD s.Steps))then getI s.Steps x1>>=fun x2=>Kk x2 (Ag x1 (Cq (AD s.Steps) 1))>>=fun r2=>if r2 then EF s (Af x1 1)
  else some false
 else JS s.Id>>=fun r3=>if r3 then if(leI (AD s.Steps) 8)then if(Pj (AD s.Steps) 0)then some true
    else some (UV s.Id (⟨#[]⟩))
   else some false
  else some false
 partial_fixpoint
def I7 (s:B8):Option (Bool):=
 EF s 0
def PG (t:A0) (path:List Int) (a:A5):Option (B8×Bool):=
 Kh t path>>=fun r=>if r.2 then if(Ag (AD r.1.Steps) 8)then some ((B8.mk (⟨#[]⟩) []),false)
  else room (r.1.Steps.length+1) 72>>=fun x_=>I7 (B8.mk r.1.Id (r.1.Steps++[(AE.mk false 6 a.Pre a.Local [])]))>>=fun r1=>if r1 then some ((B8.mk r.1.Id (r.1.Steps++[(AE.mk false 6 a.Pre a.Local [])])),true)
   else some ((B8.mk (⟨#[]⟩) []),false)
 else some ((B8.mk (⟨#[]⟩) []),false)
def BY (s:ByteArray) (i:Int):Option (ByteArray×ByteArray×Bool):=
 if(H5 i (B7 s))then atS s i>>=fun x5=>if(Ag x5 58)then Pk s 0 i>>=fun x6=>BQ x6>>=fun r3=>if r3 then Pk s (Af i 1) (B7 s)>>=fun x7=>BQ x7>>=fun r4=>if r4 then Pk s 0 i>>=fun x8=>Pk s (Af i 1) (B7 s)>>=fun x9=>some (x8,x9,true)
    else some (⟨#[]⟩,⟨#[]⟩,false)
   else some (⟨#[]⟩,⟨#[]⟩,false)
  else BY s (Af i 1)
 else some (⟨#[]⟩,⟨#[]⟩,false)
 partial_fixpoint
def FX (s:ByteArray):Option (ByteArray×ByteArray×Bool):=
 BQ s>>=fun r=>if r then some (⟨#[]⟩,s,true)
 else BY s 0
def GM (pre local1 s:ByteArray):Option (ByteArray):=
 FX s>>=fun r=>if r.2.2 then if(UV r.1 pre)then some (⟨#[]⟩)
  else if(UV r.2.1 local1)then some (⟨#[]⟩)
   else some s
 else some (⟨#[]⟩)
def I8 (pre local1:ByteArray):Option (ByteArray):=
 if(UV pre (⟨#[]⟩))then I1 pre (⟨#[58]⟩)>>=fun x=>I1 x local1>>=fun x1=>GM pre local1 x1
 else GM pre local1 local1
def Kl (s:ByteArray):Option (Bool):=
 Bv s>>=fun r=>if r then Dz s (⟨#[39]⟩)>>=fun r1=>if r1 then Dz s (⟨#[34]⟩)>>=fun r2=>some (!r2)
  else some true
 else some false
def Gk (kind:Int) (p:AH) (x:Bool):Option (Bool):=
 if x then CH kind 1 2>>=fun r1=>if r1 then if(Ag p.N 0)then I8 p.Pre p.Local>>=fun r2=>if(UV r2 (⟨#[]⟩))then Kl p.Val>>=fun r3=>some r3
    else some false
   else some false
  else some false
 else if(Ag p.Kind 4)then CH kind 1 2>>=fun r4=>if r4 then if(Ag p.N 0)then if(C6 p.Pre (⟨#[]⟩))then if(C6 p.Local (⟨#[]⟩))then Kl p.Val>>=fun r5=>some r5
      else some false
     else some false
    else some false
   else some false
  else some false
def Im (p:AH) (kind:Int):Option (Bool):=
 if(Ag p.Kind 1)then CH p.N 1 999>>=fun r=>if r then if(C6 p.Pre (⟨#[]⟩))then if(C6 p.Local (⟨#[]⟩))then some (C6 p.Val (⟨#[]⟩))
    else some false
   else some false
  else some false
 else if(Ag p.Kind 2)then Gk kind p true
  else Gk kind p (Ag p.Kind 3)
def Ez (a0:AE) (x5 xDeep:Bool):Option (Bool):=
 if x5 then if(C6 a0.Pre (⟨#[]⟩))then some (C6 a0.Local (⟨#[]⟩))
  else some false
 else if(Ag a0.Kind 5)then if(C6 a0.Pre (⟨#[]⟩))then if(C6 a0.Local (⟨#[]⟩))then some true
    else BQ a0.Local>>=fun r6=>some r6
   else some false
  else if(Ag a0.Kind 7)then if(C6 a0.Pre (⟨#[]⟩))then BQ a0.Local>>=fun r7=>some r7
    else some false
   else some false
def CY (a0:AE) (x4 xDeep:Bool):Option (Bool):=
 if x4 then I8 a0.Pre a0.Local>>=fun r5=>some (UV r5 (⟨#[]⟩))
 else if(Ag a0.Kind 2)then Ez a0 true xDeep
  else if(Ag a0.Kind 3)then Ez a0 true xDeep
   else Ez a0 (Ag a0.Kind 4) xDeep
def DK (i:Int) (xDeep:Bool) (a0:AE):Option (Bool):=
 if(H5 i (AD a0.Preds))then getI a0.Preds i>>=fun x3=>Im x3 a0.Kind>>=fun r4=>if r4 then DK (Af i 1) xDeep a0
  else some false
 else if(Ag a0.Kind 1)then CY a0 true xDeep
  else CY a0 (Ag a0.Kind 6) xDeep
 partial_fixpoint
def Ha (xDeep:Bool) (a0:AE):Option (Bool):=
 DK 0 xDeep a0
def Km (a0:AE) (last:Bool):Option (Bool):=
 if(Pj (AD a0.Preds) 3)then some false
 else if(geI a0.Kind 6)then if last then if a0.Deep then some false
    else if(Pj (AD a0.Preds) 0)then some false
     else Ha false a0
   else some false
  else Ha a0.Deep a0
def EG (i:Int) (s:B8):Option (Bool):=
 if(H5 i (AD s.Steps))then getI s.Steps i>>=fun x1=>Km x1 (Ag i (Cq (AD s.Steps) 1))>>=fun r2=>if r2 then EG (Af i 1) s
  else some false
 else Kl s.Id>>=fun r3=>if r3 then if(leI (AD s.Steps) 8)then if(UV s.Id (⟨#[]⟩))then some true
    else some (Pj (AD s.Steps) 0)
   else some false
  else some false
 partial_fixpoint
def N5 (s:B8):Option (Bool):=
 EG 0 s
def PH (t:A0) (path:List Int) (a:A5):Option (B8×Bool):=
 Ki t path>>=fun r=>room (r.1.Steps.length+1) 72>>=fun x_=>if r.2 then N5 (B8.mk r.1.Id (r.1.Steps++[(AE.mk false 6 a.Pre a.Local [])]))>>=fun r1=>if r1 then some ((B8.mk r.1.Id (r.1.Steps++[(AE.mk false 6 a.Pre a.Local [])])),true)
  else some ((B8.mk (⟨#[]⟩) []),false)
 else some ((B8.mk (⟨#[]⟩) []),false)
def Cr (s1 s2:List AH) (x2:Int):Option (Bool):=
 if(H5 x2 (AD s1))then getI s1 x2>>=fun x3=>getI s2 x2>>=fun x4=>if(Ag x3.Kind x4.Kind&&(Ag x3.N x4.N&&(C6 x3.Pre x4.Pre&&(C6 x3.Local x4.Local&&C6 x3.Val x4.Val))))then Cr s1 s2 (Af x2 1)
  else some false
 else some true
 partial_fixpoint
def Hc (s1 s2:List AH):Option (Bool):=
 if(neI (AD s1) (AD s2))then some false
 else Cr s1 s2 0
def Kn (a0 y:AE):Option (Bool):=
 if(eqB a0.Deep y.Deep)then if(Ag a0.Kind y.Kind)then if(C6 a0.Pre y.Pre)then if(C6 a0.Local y.Local)then Hc a0.Preds y.Preds>>=fun r=>some r
    else some false
   else some false
  else some false
 else some false
def An (s2 s1:List AE) (x2:Int):Option (Bool):=
 if(H5 x2 (AD s1))then getI s1 x2>>=fun x3=>getI s2 x2>>=fun x4=>Kn x3 x4>>=fun r1=>if r1 then An s2 s1 (Af x2 1)
  else some false
 else some true
 partial_fixpoint
def D7 (s1 s2:List AE):Option (Bool):=
 if(neI (AD s1) (AD s2))then some false
 else An s2 s1 0
def JT (a b:B8):Option (Bool):=
 if(C6 a.Id b.Id)then D7 a.Steps b.Steps>>=fun r=>some r
 else some false
mutual
def FJ (n:A0):Option (Int):=
 HE (Af 1 (AD n.Attrs)) n 0
 partial_fixpoint
def HE (out:Int) (n:A0) (x1:Int):Option (Int):=
 if(H5 x1 (AD n.Kids))then getI n.Kids x1>>=fun x2=>FJ x2>>=fun r1=>HE (Af out r1) n (Af x1 1)
 else some out
 partial_fixpoint
end
def DT (s suffix:ByteArray):Option (Bool):=
 if(geI (B7 s) (B7 suffix))then Pk s (Cq (B7 s) (B7 suffix)) (B7 s)>>=fun x=>some (C6 x suffix)
 else some false
def Hd (s suffix:ByteArray):Option (Bool):=
 DT s suffix>>=fun r=>some r
def Uk (s:ByteArray):Option (Bool):=
 E3 s>>=fun r=>if r then strings_Contains s (⟨#[45,45]⟩)>>=fun r1=>if r1 then some false
  else Hd s (⟨#[45]⟩)>>=fun r2=>if r2 then some false
   else strings_Contains s (⟨#[13]⟩)>>=fun r3=>some (!r3)
 else some false
def strings_EqualFold (s t:ByteArray):Option (Bool):=
 if s.size<4294967281∧AB5 t=true then some (aA s t)else none
def LO (n:Int):Option (Bool):=
 if(Ag n 9)then some true
 else if(Ag n 10)then some true
  else if(Ag n 13)then some true
   else some (Ag n 32)
def Ul (local1 s:ByteArray):Option (Bool):=
 CA local1>>=fun r=>if r then strings_EqualFold local1 (⟨#[120,109,108]⟩)>>=fun r1=>if r1 then some false
  else E3 s>>=fun r2=>if r2 then strings_Contains s (⟨#[63,62]⟩)>>=fun r3=>if r3 then some false
    else strings_Contains s (⟨#[13]⟩)>>=fun r4=>if r4 then some false
     else if(C6 s (⟨#[]⟩))then some true
      else atS s 0>>=fun x=>LO (wr .i64 x)>>=fun r5=>some (!r5)
   else some false
 else some false
def Gl (n:A0):Option (Bool):=
 if(Ag n.Kind 2)then if(UV n.Text (⟨#[]⟩))then E3 n.Text>>=fun r=>some r
  else some false
 else if(Ag n.Kind 3)then Uk n.Text>>=fun r1=>some r1
  else if(Ag n.Kind 4)then Ul n.Local n.Text>>=fun r2=>some r2
   else some false
def He (n:A0):Option (Bool):=
 if(UV n.Pre (⟨#[]⟩))then some false
 else if(UV n.Uri (⟨#[]⟩))then some false
  else if(Pj (AD n.Decls) 0)then some false
   else if(Pj (AD n.Attrs) 0)then some false
    else if(Pj (AD n.Kids) 0)then some false
     else if(UV n.Local (⟨#[]⟩))then if(neI n.Kind 4)then some false
       else Gl n
      else Gl n
def DU (s prefix1:ByteArray):Option (Bool):=
 if(geI (B7 s) (B7 prefix1))then Pk s 0 (B7 prefix1)>>=fun x=>some (C6 x prefix1)
 else some false
def Hf (s prefix1:ByteArray):Option (Bool):=
 DU s prefix1>>=fun r=>some r
def Ko (s:ByteArray):Option (Bool):=
 if(C6 s (⟨#[]⟩))then some true
 else CA s>>=fun r=>if r then Hf s (⟨#[120,109,108]⟩)>>=fun r1=>some (!r1)
  else some false
def N6 (uri pre:ByteArray):Option (Bool):=
 E3 uri>>=fun r=>if r then if(leI (B7 uri) 40)then if(UV uri (⟨#[]⟩))then some true
   else some (C6 pre (⟨#[]⟩))
  else some false
 else some false
def RX (d:A2):Option (Bool):=
 Ko d.Pre>>=fun r=>if r then N6 d.Uri d.Pre>>=fun r1=>some r1
 else some false
def Ee (l:List A2) (x2:Int):Option (Bool):=
 if(H5 x2 (AD l))then getI l x2>>=fun x3=>RX x3>>=fun r1=>if r1 then if(Pj x2 0)then getI l (Cq x2 1)>>=fun x4=>if(geS x4.Pre x3.Pre)then some false
    else Ee l (Af x2 1)
   else Ee l (Af x2 1)
  else some false
 else some (leI (AD l) 4)
 partial_fixpoint
def TS (l:List A2):Option (Bool):=
 Ee l 0
def Kp (a:A5):Option (Bool):=
 Ko a.Pre>>=fun r=>if r then if(neB (C6 a.Pre (⟨#[]⟩)) (C6 a.Uri (⟨#[]⟩)))then some false
  else N6 a.Uri a.Pre>>=fun r1=>if r1 then CA a.Local>>=fun r2=>if r2 then E3 a.Val>>=fun r3=>if r3 then if(UV a.Pre (⟨#[]⟩))then some true
      else some (UV a.Local (⟨#[120,109,108,110,115]⟩))
     else some false
    else some false
   else some false
 else some false
def strings_Compare (s t:ByteArray):Option (Int):=
 some (RN s t)
def Hg (a b:A5):Option (Int):=
 strings_Compare a.Uri b.Uri>>=fun r=>if(neI r 0)then some r
 else strings_Compare a.Local b.Local>>=fun r1=>some r1
def Ef (l:List A5) (x2:Int):Option (Bool):=
 if(H5 x2 (AD l))then getI l x2>>=fun x3=>Kp x3>>=fun r2=>if r2 then if(Pj x2 0)then getI l (Cq x2 1)>>=fun x4=>Hg x4 x3>>=fun r3=>if(geI r3 0)then some false
    else Ef l (Af x2 1)
   else Ef l (Af x2 1)
  else some false
 else some (leI (AD l) 5)
 partial_fixpoint
def PI (l:List A5):Option (Bool):=
 Ef l 0
def CZ (l:List A0) (x2:Int):Option (Bool):=
 if(H5 x2 (AD l))then getI l x2>>=fun x3=>if(Pj x2 0)then if(Ag x3.Kind 2)then getI l (Cq x2 1)>>=fun x4=>if(Ag x4.Kind 2)then some false
    else CZ l (Af x2 1)
   else CZ l (Af x2 1)
  else CZ l (Af x2 1)
 else some true
 partial_fixpoint
def Jj (l:List A0):Option (Bool):=
 CZ l 0
mutual
def FY (n:A0) (deep:Int):Option (Bool):=
 Jj n.Kids>>=fun r=>if r then Cm n.Kids deep>>=fun r1=>some (!r1.1)
 else some false
 partial_fixpoint
def R5 (k:A0) (a1:Int):Option (Bool×Int):=
 CO k a1>>=fun r=>some ((!r),a1)
 partial_fixpoint
def CO (n:A0) (deep:Int):Option (Bool):=
 if(neI n.Kind 1)then He n>>=fun r=>some r
 else if(geI deep 7)then some false
  else if(UV n.Text (⟨#[]⟩))then some false
   else Ko n.Pre>>=fun r1=>if r1 then N6 n.Uri n.Pre>>=fun r2=>if r2 then CA n.Local>>=fun r3=>if r3 then TS n.Decls>>=fun r4=>if r4 then PI n.Attrs>>=fun r5=>if r5 then FY n (Af deep 1)>>=fun r6=>some r6
        else some false
       else some false
      else some false
     else some false
    else some false
 partial_fixpoint
def Cm (s:List A0) (fc0:Int):Option (Bool×Int):=
 DV s fc0>>=fun r=>some ((geI r.1 0),r.2)
 partial_fixpoint
def DV (s:List A0) (fc0:Int):Option (Int×Int):=
 BB s 0 fc0
 partial_fixpoint
def BB (s:List A0) (x1 f:Int):Option (Int×Int):=
 if(H5 x1 (AD s))then getI s x1>>=fun x2=>R5 x2 f>>=fun r1=>if r1.1 then some (x1,r1.2)
  else BB s (Af x1 1) r1.2
 else some ((-1),f)
 partial_fixpoint
end
def CF (bare:Bool) (n:A0):Option (Bool):=
 if bare then HZ n.Kids 1>>=fun r2=>if(Ag r2 1)then HZ n.Kids 2>>=fun r3=>if(Ag r3 0)then FY n 0>>=fun r4=>some r4
   else some false
  else some false
 else some false
def Hh (n:A0):Option (Bool):=
 FJ n>>=fun r=>if(Pj r 60)then some false
 else if(neI n.Kind 0)then CO n 0>>=fun r1=>some r1
  else if(C6 n.Pre (⟨#[]⟩))then if(C6 n.Local (⟨#[]⟩))then if(C6 n.Uri (⟨#[]⟩))then if(C6 n.Text (⟨#[]⟩))then if(Ag (AD n.Decls) 0)then CF (Ag (AD n.Attrs) 0) n
       else CF false n
      else CF false n
     else CF false n
    else CF false n
   else CF false n
def Um (n:A0) (l:List (A2)):Option (Bool):=
 RO ((A0.row false) n) (l.map fun x=>(x.Pre,x.Uri))
def Kq (n:A0):Option (Bool):=
 if(Ag n.Kind 0)then Hh n>>=fun r=>if r then Um n []>>=fun r1=>some r1
  else some false
 else some false
def LP (l:List (A2)) (p:ByteArray):Option (ByteArray×Bool):=
 if l.length≤1000000000000 then some (I2 (l.map fun x=>(x.Pre,x.Uri)) p)else none
def In (pre:ByteArray) (a1:List A2):Option (Bool):=
 LP a1 pre>>=fun r=>some r.2
def LQ (p:AH) (a1c0:List A2):Option (Bool):=
 In p.Pre a1c0>>=fun r=>some (!r)
def Ap (s:List AH) (fc0c0:List A2) (x1:Int):Option (Int):=
 if(H5 x1 (AD s))then getI s x1>>=fun x2=>LQ x2 fc0c0>>=fun r1=>if r1 then some x1
  else Ap s fc0c0 (Af x1 1)
 else some (-1)
 partial_fixpoint
def D8 (s:List AH) (fc0c0:List A2):Option (Int):=
 Ap s fc0c0 0
def Ca (s:List AH) (fc0c0:List A2):Option (Bool):=
 D8 s fc0c0>>=fun r=>some (geI r 0)
def PJ (a0:AE) (a1c0:List A2):Option (Bool):=
 In a0.Pre a1c0>>=fun r=>if r then Ca a0.Preds a1c0>>=fun r1=>some r1
 else some true
def B4 (s:List AE) (fc0c0:List A2) (x1:Int):Option (Int):=
 if(H5 x1 (AD s))then getI s x1>>=fun x2=>PJ x2 fc0c0>>=fun r1=>if r1 then some x1
  else B4 s fc0c0 (Af x1 1)
 else some (-1)
 partial_fixpoint
def Dg (s:List AE) (fc0c0:List A2):Option (Int):=
 B4 s fc0c0 0
def D0 (s:List AE) (fc0c0:List A2):Option (Bool):=
 Dg s fc0c0>>=fun r=>some (geI r 0)
def QB (s:B8) (l:List A2):Option (Bool):=
 D0 s.Steps l>>=fun r=>some (!r)
def LR (s:List (Int)):Option (List Int):=
 room s.length 8>>=fun _=>some s
def Fh (s:List (List (Int))):Option (List Int):=
 match s with| [l,m]=>if(l.length+m.length)*8≤140737488351232∧l.length+m.length≤1000000000000 then some (l++m)else none| [l,m,q]=>if(l.length+m.length+q.length)*8≤140737488351232∧l.length+m.length+q.length≤1000000000000 then some (l++m++q)else none|_=>none
mutual
def M4 (n:A0) (path:List Int) (out:List (List Int)):Option (List (List Int)):=
 LR path>>=fun r=>room (out.length+1) 24>>=fun x_=>QC path (out++[r]) n 0
 partial_fixpoint
def QC (path:List Int) (out1:List (List Int)) (n:A0) (x1:Int):Option (List (List Int)):=
 if(H5 x1 (AD n.Kids))then getI n.Kids x1>>=fun x2=>Fh [path,[x1]]>>=fun r3=>M4 x2 r3 out1>>=fun r4=>QC path r4 n (Af x1 1)
 else some out1
 partial_fixpoint
end
def RY (n:A0):Option (List (List Int)):=
 M4 n [] []>>=fun r=>some r
def strings_Cut (s t:ByteArray):Option (ByteArray×ByteArray×Bool):=
 if s.size<4294967281 then some (vX s t)else none
def U7 (s:ByteArray):Option (ByteArray×ByteArray×Bool):=
 CA s>>=fun r=>if r then some (⟨#[]⟩,s,true)
 else strings_Cut s (⟨#[58]⟩)>>=fun r1=>if r1.2.2 then CA r1.1>>=fun r2=>if r2 then CA r1.2.1>>=fun r3=>if r3 then some (r1.1,r1.2.1,true)
    else some (⟨#[]⟩,⟨#[]⟩,false)
   else some (⟨#[]⟩,⟨#[]⟩,false)
  else some (⟨#[]⟩,⟨#[]⟩,false)
def LS (pre local1 s:ByteArray):Option (ByteArray):=
 U7 s>>=fun r=>if r.2.2 then if(UV r.1 pre)then some (⟨#[]⟩)
  else if(UV r.2.1 local1)then some (⟨#[]⟩)
   else some s
 else some (⟨#[]⟩)
def GD (pre local1:ByteArray):Option (ByteArray):=
 if(UV pre (⟨#[]⟩))then I1 pre (⟨#[58]⟩)>>=fun x=>I1 x local1>>=fun x1=>LS pre local1 x1
 else LS pre local1 local1
def Wj (d:CU) (a1 a2:ByteArray):Option (Bool×ByteArray×ByteArray):=
 if(C6 d.El a1)then some ((C6 d.At a2),a1,a2)
 else some (false,a1,a2)
def D9 (s:List CU) (x1:Int) (f f1:ByteArray):Option (Int×ByteArray×ByteArray):=
 if(H5 x1 (AD s))then getI s x1>>=fun x2=>Wj x2 f f1>>=fun r1=>if r1.1 then some (x1,r1.2.1,r1.2.2)
  else D9 s (Af x1 1) r1.2.1 r1.2.2
 else some ((-1),f,f1)
 partial_fixpoint
def Fq (s:List CU) (fc0 fc1:ByteArray):Option (Int×ByteArray×ByteArray):=
 D9 s 0 fc0 fc1
def bX (l:List CU) (el at1:ByteArray):Option (CU×Bool):=
 Fq l el at1>>=fun r=>if(H5 r.1 0)then some ((CU.mk (⟨#[]⟩) (⟨#[]⟩) false false (⟨#[]⟩)),false)
 else getI l r.1>>=fun x=>some (x,true)
def I9 (out:List (A5)) (n:A0) (x1:Int) (h:Dm):Option (List A5):=
 if(H5 x1 (AD n.Attrs))then getI n.Attrs x1>>=fun x2=>GD n.Pre n.Local>>=fun r3=>GD x2.Pre x2.Local>>=fun r4=>bX h.Defs r3 r4>>=fun r5=>if r5.2 then if r5.1.Id then if(Ag n.Kind 1)then room (out.length+1) 64>>=fun x_1=>I9 (out++[x2]) n (Af x1 1) h
    else I9 out n (Af x1 1) h
   else I9 out n (Af x1 1) h
  else I9 out n (Af x1 1) h
 else some out
 partial_fixpoint
def bY (n:A0) (h:Dm):Option (List A5):=
 I9 [] n 0 h
def Jy (a:A5) (a1:ByteArray):Option (Bool):=
 some (C6 a.Val a1)
def Bw (s:List A5) (fc0:ByteArray) (x1:Int):Option (Int):=
 if(H5 x1 (AD s))then getI s x1>>=fun x2=>Jy x2 fc0>>=fun r1=>if r1 then some x1
  else Bw s fc0 (Af x1 1)
 else some (-1)
 partial_fixpoint
def Dd (s:List A5) (fc0:ByteArray):Option (Int):=
 Bw s fc0 0
def D3 (s:List A5) (fc0:ByteArray):Option (Bool):=
 Dd s fc0>>=fun r=>some (geI r 0)
def Fi (f:Ah) (id:ByteArray) (r:List (List Int)) (x1:Int):Option (List (List Int)):=
 if(H5 x1 (AD r))then getI r x1>>=fun x2=>GB f.xt x2>>=fun r4=>bY r4.1 f.xh>>=fun r5=>D3 r5 id>>=fun r6=>if r6 then some [x2]
  else Fi f id r (Af x1 1)
 else some []
 partial_fixpoint
def IQ (f:Ah) (id:ByteArray):Option (List (List Int)):=
 if(C6 id (⟨#[]⟩))then some [[]]
 else RY f.xt>>=fun r=>Fi f id r 0
def IR (x3 n1:Int):Option (Int):=
 if(geI x3 256)then nu .u64 x3 8>>=fun x4=>atS (⟨#[0,1,2,2,3,3,3,3,4,4,4,4,4,4,4,4,5,5,5,5,5,5,5,5,5,5,5,5,5,5,5,5,6,6,6,6,6,6,6,6,6,6,6,6,6,6,6,6,6,6,6,6,6,6,6,6,6,6,6,6,6,6,6,6,7,7,7,7,7,7,7,7,7,7,7,7,7,7,7,7,7,7,7,7,7,7,7,7,7,7,7,7,7,7,7,7,7,7,7,7,7,7,7,7,7,7,7,7,7,7,7,7,7,7,7,7,7,7,7,7,7,7,7,7,7,7,7,7,8,8,8,8,8,8,8,8,8,8,8,8,8,8,8,8,8,8,8,8,8,8,8,8,8,8,8,8,8,8,8,8,8,8,8,8,8,8,8,8,8,8,8,8,8,8,8,8,8,8,8,8,8,8,8,8,8,8,8,8,8,8,8,8,8,8,8,8,8,8,8,8,8,8,8,8,8,8,8,8,8,8,8,8,8,8,8,8,8,8,8,8,8,8,8,8,8,8,8,8,8,8,8,8,8,8,8,8,8,8,8,8,8,8,8,8,8,8,8,8,8,8,8,8,8,8,8,8]⟩) (wr .u8 x4)>>=fun x5=>some (Af (Af n1 8) (wr .i64 x5))
 else atS (⟨#[0,1,2,2,3,3,3,3,4,4,4,4,4,4,4,4,5,5,5,5,5,5,5,5,5,5,5,5,5,5,5,5,6,6,6,6,6,6,6,6,6,6,6,6,6,6,6,6,6,6,6,6,6,6,6,6,6,6,6,6,6,6,6,6,7,7,7,7,7,7,7,7,7,7,7,7,7,7,7,7,7,7,7,7,7,7,7,7,7,7,7,7,7,7,7,7,7,7,7,7,7,7,7,7,7,7,7,7,7,7,7,7,7,7,7,7,7,7,7,7,7,7,7,7,7,7,7,7,8,8,8,8,8,8,8,8,8,8,8,8,8,8,8,8,8,8,8,8,8,8,8,8,8,8,8,8,8,8,8,8,8,8,8,8,8,8,8,8,8,8,8,8,8,8,8,8,8,8,8,8,8,8,8,8,8,8,8,8,8,8,8,8,8,8,8,8,8,8,8,8,8,8,8,8,8,8,8,8,8,8,8,8,8,8,8,8,8,8,8,8,8,8,8,8,8,8,8,8,8,8,8,8,8,8,8,8,8,8,8,8,8,8,8,8,8,8,8,8,8,8,8,8,8,8,8,8]⟩) (wr .u8 x3)>>=fun x6=>some (Af n1 (wr .i64 x6))
def JU (x1 n:Int):Option (Int):=
 if(geI x1 65536)then nu .u64 x1 16>>=fun x2=>IR x2 (Af n 16)
 else IR x1 n
def SM (a0:Int):Option (Int):=
 if(geI a0 4294967296)then nu .u64 a0 32>>=fun x=>JU x 32
 else JU a0 0
def R6 (a0:Int):Option (Int):=
 SM a0>>=fun r=>some r
def M5 (a0:Int):Option (Bool):=
 some (neI a0 a0)
def Jk (a0 y:Int):Option (Int):=
 M5 a0>>=fun r=>M5 y>>=fun r1=>if r then if r1 then some 0
  else some (-1)
 else if r1 then some 1
  else if(H5 a0 y)then some (-1)
   else if(Pj a0 y)then some 1
    else some 0
def C7 (s1 s2:List Int) (x2:Int):Option (Int):=
 if(H5 x2 (AD s1))then getI s1 x2>>=fun x3=>if(geI x2 (AD s2))then some 1
  else getI s2 x2>>=fun x4=>Jk x3 x4>>=fun r1=>if(neI r1 0)then some r1
   else C7 s1 s2 (Af x2 1)
 else if(H5 (AD s1) (AD s2))then some (-1)
  else some 0
 partial_fixpoint
def JV (s1 s2:List Int):Option (Int):=
 C7 s1 s2 0
def Gm (a b:List Int):Option (Int):=
 JV a b>>=fun r=>some r
mutual
def AM (data3:List (List Int)) (a b i j1:Int):Option (List (List Int)):=
 if(Pj j1 a)then getI data3 j1>>=fun x18=>getI data3 (Cq j1 1)>>=fun x19=>Gm x18 x19>>=fun r3=>if(H5 r3 0)then getI data3 (Cq j1 1)>>=fun x20=>getI data3 j1>>=fun x21=>getI data3 j1>>=fun x22=>getI (data3.set (Int.toNat j1) x20) (Cq j1 1)>>=fun x23=>AM ((data3.set (Int.toNat j1) x20).set (Int.toNat (Cq j1 1)) x21) a b i (Cq j1 1)
  else AQ data3 a b (Af i 1)
 else AQ data3 a b (Af i 1)
 partial_fixpoint
def AQ (data2:List (List Int)) (a b i:Int):Option (List (List Int)):=
 if(H5 i b)then AM data2 a b i i
 else some data2
 partial_fixpoint
end
def BR (data:List (List Int)) (a b:Int):Option (List (List Int)):=
 AQ data a b (Af a 1)
def Ba (data:List (List Int)) (a b limit:Int):Option (List (List Int)):=
 if(leI (Cq b a) 12)then BR data a b>>=fun r=>cz r data>>=fun _=>some r
 else if(Ag limit 0)then none
  else none
def Bt (data:List (List Int)) (a b limit:Int):Option (List (List Int)):=
 Ba data a b limit
def Bq (a0:List (List Int)):Option (List (List Int)):=
 R6 (wr .u64 (AD a0))>>=fun r=>Bt a0 0 (AD a0) r>>=fun r1=>cz r1 a0>>=fun _=>some r1
def CP (s1 s2:List Int) (x2:Int):Option (Bool):=
 if(H5 x2 (AD s1))then getI s1 x2>>=fun x3=>getI s2 x2>>=fun x4=>if(neI x3 x4)then some false
  else CP s1 s2 (Af x2 1)
 else some true
 partial_fixpoint
def Io (s1 s2:List Int):Option (Bool):=
 if(neI (AD s1) (AD s2))then some false
 else CP s1 s2 0
def GE (a b:List Int):Option (Bool):=
 Io a b>>=fun r=>some r
def Ak (s:List (List Int)) (k:Int):Option (List (List Int)):=
 if(H5 k (AD s))then getI s k>>=fun x2=>getI s (Cq k 1)>>=fun x3=>GE x2 x3>>=fun r1=>if r1 then none
  else Ak s (Af k 1)
 else some s
 partial_fixpoint
def B5 (s:List (List Int)):Option (List (List Int)):=
 if(H5 (AD s) 2)then some s
 else Ak s 1
def N7 (f:Ah) (n:A0) (pre local1:ByteArray):Option (Bool):=
 LP f.xl pre>>=fun r=>if(Ag n.Kind 1)then if(C6 n.Local local1)then some (C6 n.Uri r.1)
  else some false
 else some false
def Gn (f:Ah) (n:A0) (s:AE):Option (Bool):=
 if(Ag s.Kind 1)then N7 f n s.Pre s.Local>>=fun r=>some r
 else if(Ag s.Kind 2)then some (Ag n.Kind 1)
  else if(Ag s.Kind 3)then some (Ag n.Kind 2)
   else if(Ag s.Kind 4)then some (Ag n.Kind 3)
    else if(Ag n.Kind 4)then if(C6 s.Local (⟨#[]⟩))then some true
      else some (C6 n.Local s.Local)
     else some false
def Bg (out2:List (Int)) (s:AE) (x10:Int) (f:Ah) (n:A0):Option (List Int):=
 if(H5 x10 (AD s.Preds))then getI s.Preds x10>>=fun x11=>if(neI x11.Kind 1)then none
  else if(leI x11.N (AD out2))then slL out2 (Cq x11.N 1) x11.N>>=fun x12=>Bg x12 s (Af x10 1) f n
   else Bg [] s (Af x10 1) f n
 else some out2
 partial_fixpoint
def C8 (out1:List (Int)) (n:A0) (x6:Int) (f:Ah) (s:AE):Option (List Int):=
 if(H5 x6 (AD n.Kids))then getI n.Kids x6>>=fun x7=>Gn f x7 s>>=fun r1=>if r1 then room (out1.length+1) 8>>=fun x_1=>C8 (out1++[x6]) n (Af x6 1) f s
  else C8 out1 n (Af x6 1) f s
 else Bg out1 s 0 f n
 partial_fixpoint
def BJ (f:Ah) (n:A0) (s:AE):Option (List Int):=
 C8 [] n 0 f s
mutual
def Cb (f:Ah) (out3:List (List Int)) (x11:List Int) (below1 from1:List (List Int)) (x10:Int) (sDeep2:Bool) (s:AE) (r12:A0×Bool):Option (List (List Int)):=
 C2 f out3 x11 from1 x10 below1 0 sDeep2 s r12
 partial_fixpoint
def Cc (f:Ah) (out6:List (List Int)) (x11 x17:List Int) (from1:List (List Int)) (x10:Int) (below1:List (List Int)) (x16:Int) (r19:List Int) (x19:Int) (sDeep2:Bool) (s:AE) (r12:A0×Bool):Option (List (List Int)):=
 if(H5 x19 (AD r19))then getI r19 x19>>=fun x20=>Fh [x11,x17,[x20]]>>=fun r21=>room (out6.length+1) 24>>=fun x_7=>Cc f (out6++[r21]) x11 x17 from1 x10 below1 x16 r19 (Af x19 1) sDeep2 s r12
 else C2 f out6 x11 from1 x10 below1 (Af x16 1) sDeep2 s r12
 partial_fixpoint
def C2 (f:Ah) (out5:List (List Int)) (x11:List Int) (from1:List (List Int)) (x10:Int) (below1:List (List Int)) (x16:Int) (sDeep2:Bool) (s:AE) (r12:A0×Bool):Option (List (List Int)):=
 if(H5 x16 (AD below1))then getI below1 x16>>=fun x17=>GB r12.1 x17>>=fun r18=>BJ f r18.1 (AE.mk sDeep2 s.Kind s.Pre s.Local s.Preds)>>=fun r19=>Cc f out5 x11 x17 from1 x10 below1 x16 r19 0 sDeep2 s r12
 else Cs f out5 from1 (Af x10 1) sDeep2 s
 partial_fixpoint
def Cs (f:Ah) (out3 from1:List (List Int)) (x10:Int) (sDeep1:Bool) (s:AE):Option (List (List Int)):=
 if(H5 x10 (AD from1))then getI from1 x10>>=fun x11=>GB f.xt x11>>=fun r12=>if sDeep1 then RY r12.1>>=fun r13=>Cb f out3 x11 r13 from1 x10 true s r12
  else Cb f out3 x11 [[]] from1 x10 false s r12
 else Bq out3>>=fun r22=>cz r22 out3>>=fun _=>B5 r22>>=fun r23=>some r23
 partial_fixpoint
end
def ng := @Cb.mutual_partial_correctness
def E0 (f:Ah) (from1:List (List Int)) (s:AE):Option (List (List Int)):=
 Cs f [] from1 0 s.Deep s
def Fj (local1 uri:ByteArray) (a:A5):Option (Bool):=
 if(C6 a.Local local1)then some (C6 a.Uri uri)
 else some false
def Kr (f:Ah) (a:A5) (pre local1:ByteArray):Option (Bool):=
 if(UV pre (⟨#[]⟩))then LP f.xl pre>>=fun r=>Fj local1 r.1 a
 else Fj local1 (⟨#[]⟩) a
def DW (path:List Int) (out2:List (Am)) (r:A0×Bool) (x7:Int) (s:AE):Option (List Am):=
 if(H5 x7 (AD r.1.Decls))then getI r.1.Decls x7>>=fun x8=>if(Ag s.Kind 7)then if(C6 x8.Pre s.Local)then room (out2.length+1) 40>>=fun x_5=>DW path (out2++[(Am.mk path 7 x7)]) r (Af x7 1) s
   else DW path out2 r (Af x7 1) s
  else DW path out2 r (Af x7 1) s
 else some out2
 partial_fixpoint
def Cd (f:Ah) (path:List Int) (out1:List (Am)) (r:A0×Bool) (x4:Int) (s:AE):Option (List Am):=
 if(H5 x4 (AD r.1.Attrs))then getI r.1.Attrs x4>>=fun x5=>if(Ag s.Kind 6)then Kr f x5 s.Pre s.Local>>=fun r2=>if r2 then room (out1.length+1) 40>>=fun x_3=>Cd f path (out1++[(Am.mk path 6 x4)]) r (Af x4 1) s
   else Cd f path out1 r (Af x4 1) s
  else Cd f path out1 r (Af x4 1) s
 else DW path out1 r 0 s
 partial_fixpoint
def nh := @Cd.partial_correctness
def N8 (f:Ah) (path:List Int) (s:AE):Option (List Am):=
 GB f.xt path>>=fun r=>Cd f path [] r 0 s
def M6 (t:A0) (h:Dm) (l:List A2) (out2:List (Am)) (paths:List (List Int)) (x12:Int) (x9:AE):Option (List Am×Bool):=
 if(H5 x12 (AD paths))then getI paths x12>>=fun x13=>N8 (Ah.mk t h l) x13 x9>>=fun r8=>room (out2.length+r8.length) 40>>=fun x_5=>M6 t h l (out2++r8) paths (Af x12 1) x9
 else some (out2,true)
 partial_fixpoint
def A1e := @M6.partial_correctness
def IA (out3:List (Am)) (paths:List (List Int)) (x15:Int):Option (List Am×Bool):=
 if(H5 x15 (AD paths))then getI paths x15>>=fun x16=>room (out3.length+1) 40>>=fun x_7=>IA (out3++[(Am.mk x16 0 0)]) paths (Af x15 1)
 else some (out3,true)
 partial_fixpoint
mutual
def Jn (t:A0) (h:Dm) (l:List A2) (paths:List (List Int)) (s:B8) (x8:Int) (x10:Bool) (x9:AE):Option (List Am×Bool):=
 if x10 then M6 t h l [] paths 0 x9
 else E0 (Ah.mk t h l) paths x9>>=fun r9=>EH t h l r9 s (Af x8 1)
 partial_fixpoint
def EH (t:A0) (h:Dm) (l:List A2) (paths:List (List Int)) (s:B8) (x8:Int):Option (List Am×Bool):=
 if(H5 x8 (AD s.Steps))then getI s.Steps x8>>=fun x9=>if(Ag x9.Kind 6)then Jn t h l paths s x8 true x9
  else Jn t h l paths s x8 (Ag x9.Kind 7) x9
 else IA [] paths 0
 partial_fixpoint
end
def A1f := @Jn.mutual_partial_correctness
def Te (t:A0) (h:Dm) (s:B8) (l:List A2):Option (List Am×Bool):=
 Kq t>>=fun r=>if r then I7 s>>=fun r1=>if r1 then QB s l>>=fun r2=>if r2 then IQ (Ah.mk t h l) s.Id>>=fun r3=>EH t h l r3 s 0
   else some ([],false)
  else some ([],false)
 else some ([],false)
def Ip (s:ByteArray):Option (ByteArray):=
 strings_Contains s (⟨#[39]⟩)>>=fun r=>if r then I1 (⟨#[34]⟩) s>>=fun x=>I1 x (⟨#[34]⟩)>>=fun x1=>some x1
 else I1 (⟨#[39]⟩) s>>=fun x2=>I1 x2 (⟨#[39]⟩)>>=fun x3=>some x3
def Jo (s:AE):Option (ByteArray):=
 if(Ag s.Kind 2)then some (⟨#[42]⟩)
 else if(Ag s.Kind 3)then some (⟨#[116,101,120,116,40,41]⟩)
  else if(Ag s.Kind 4)then some (⟨#[99,111,109,109,101,110,116,40,41]⟩)
   else if(Ag s.Kind 5)then if(C6 s.Local (⟨#[]⟩))then some (⟨#[112,114,111,99,101,115,115,105,110,103,45,105,110,115,116,114,117,99,116,105,111,110,40,41]⟩)
     else I1 (⟨#[112,114,111,99,101,115,115,105,110,103,45,105,110,115,116,114,117,99,116,105,111,110,40,39]⟩) s.Local>>=fun x=>I1 x (⟨#[39,41]⟩)>>=fun x1=>some x1
    else if(Ag s.Kind 6)then GD s.Pre s.Local>>=fun r=>I1 (⟨#[64]⟩) r>>=fun x2=>some x2
     else if(Ag s.Kind 7)then I1 (⟨#[110,97,109,101,115,112,97,99,101,58,58]⟩) s.Local>>=fun x3=>some x3
      else GD s.Pre s.Local>>=fun r1=>some r1
def strconv_Itoa (s:Int):Option (ByteArray):=
 if-9223372036854775808≤s∧s≤9223372036854775807 then some (ka s)else none
def Jp (p:AH):Option (ByteArray):=
 if(Ag p.Kind 1)then strconv_Itoa p.N>>=fun r=>I1 (⟨#[91]⟩) r>>=fun x=>I1 x (⟨#[93]⟩)>>=fun x1=>some x1
 else if(Ag p.Kind 2)then GD p.Pre p.Local>>=fun r1=>I1 (⟨#[91,64]⟩) r1>>=fun x2=>I1 x2 (⟨#[61]⟩)>>=fun x3=>Ip p.Val>>=fun r2=>I1 x3 r2>>=fun x4=>I1 x4 (⟨#[93]⟩)>>=fun x5=>some x5
  else if(Ag p.Kind 3)then GD p.Pre p.Local>>=fun r3=>I1 (⟨#[91]⟩) r3>>=fun x6=>I1 x6 (⟨#[61]⟩)>>=fun x7=>Ip p.Val>>=fun r4=>I1 x7 r4>>=fun x8=>I1 x8 (⟨#[93]⟩)>>=fun x9=>some x9
   else Ip p.Val>>=fun r5=>I1 (⟨#[91,46,61]⟩) r5>>=fun x10=>I1 x10 (⟨#[93]⟩)>>=fun x11=>some x11
mutual
def DX (out4:ByteArray) (s:B8) (x12:Int) (xDeep1:Bool) (x13:AE):Option (ByteArray):=
 Jo (AE.mk xDeep1 x13.Kind x13.Pre x13.Local x13.Preds)>>=fun r5=>I1 out4 r5>>=fun x17=>Iq x17 s x12 x13 0
 partial_fixpoint
def Iq (out5:ByteArray) (s:B8) (x12:Int) (x13:AE) (x20:Int):Option (ByteArray):=
 if(H5 x20 (AD x13.Preds))then getI x13.Preds x20>>=fun x21=>Jp x21>>=fun r7=>I1 out5 r7>>=fun x22=>Iq x22 s x12 x13 (Af x20 1)
 else F8 out5 s (Af x12 1)
 partial_fixpoint
def F8 (out3:ByteArray) (s:B8) (x12:Int):Option (ByteArray):=
 if(H5 x12 (AD s.Steps))then getI s.Steps x12>>=fun x13=>if x13.Deep then I1 out3 (⟨#[47,47]⟩)>>=fun x14=>DX x14 s x12 true x13
  else if(Pj x12 0)then I1 out3 (⟨#[47]⟩)>>=fun x15=>DX x15 s x12 false x13
   else if(UV s.Id (⟨#[]⟩))then I1 out3 (⟨#[47]⟩)>>=fun x16=>DX x16 s x12 false x13
    else DX out3 s x12 false x13
 else if(Pj (B7 out3) 200)then some (⟨#[]⟩)
  else some out3
 partial_fixpoint
end
def Ir (out:ByteArray) (s:B8):Option (ByteArray):=
 F8 out s 0
def LU (s:B8):Option (ByteArray):=
 I7 s>>=fun r=>if r then if(UV s.Id (⟨#[]⟩))then Ip s.Id>>=fun r1=>I1 (⟨#[105,100,40]⟩) r1>>=fun x=>I1 x (⟨#[41]⟩)>>=fun x1=>Ir x1 s
  else Ir (⟨#[]⟩) s
 else some (⟨#[]⟩)
def TU (code:List Int):Option (Bool):=
 dM code>>=fun r=>if r then some true
 else Jh code>>=fun r1=>Kh r1.1 r1.2>>=fun r2=>Ki r1.1 r1.2>>=fun r3=>Il code>>=fun r4=>PG r4.1 r4.2.1 r4.2.2>>=fun r5=>PH r4.1 r4.2.1 r4.2.2>>=fun r6=>if(neB r2.2 r3.2)then some false
  else JT r2.1 r3.1>>=fun r7=>if r7 then if(neB r5.2 r6.2)then some false
    else JT r5.1 r6.1>>=fun r8=>if r8 then GB r1.1 r1.2>>=fun r9=>if r2.2 then Te r1.1 (Dm.mk (⟨#[]⟩) [] []) r2.1 []>>=fun r10=>if r10.2 then if(Ag (AD r10.1) 1)then getI r10.1 0>>=fun x=>GE x.Path r1.2>>=fun r11=>if r11 then if(Ag x.Kind 0)then LU r2.1>>=fun r12=>some (UV r12 (⟨#[]⟩))
          else some false
         else some false
        else some false
       else some false
      else if r9.2 then if(Ag (AD r1.2) 0)then some true
        else some (Pj (AD r1.2) 8)
       else some true
     else some false
   else some false
end TT
