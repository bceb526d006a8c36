import Derived.Test.YtpmnlfgdicmiiaaGreatDoorTP0
import Derived.Test.YtpmnlfgdicmiiaaGreatDoorTDefs
import Derived.Lib.IndexAny
import Derived.Lib.IndexMore
import Derived.Lib.Fold
set_option linter.unusedVariables false
set_option linter.unusedSimpArgs false
namespace TT
open Go
theorem A8X (s:ByteArray) (i k:Nat):(s.extract i s.size).get! k=s.get! (i+k):=by
 have e:(s.extract i s.size).data=s.data.extract i s.data.size:=by
  first|rfl|simp
 show(s.extract i s.size).data[k]! =s.data[i+k]!
 rw[e]
 simp only[getElem!_def]
 rw[Array.getElem?_extract]
 have hz:s.size=s.data.size:=rfl
 by_cases h:k<s.data.size-i
 ·rw[if_pos (by omega)]
 ·have:s.data[i+k]? =none:=Array.getElem?_eq_none (by omega)
  rw[if_neg (by omega),this]
theorem tf (s:ByteArray) (i:Nat) (h:i<s.size):Lib.decodeGo (s.extract i s.size)=Utf8.decode s i:=by
 have hz:(s.extract i s.size).size=s.size-i:=by simp
 unfold Lib.decodeGo
 rw[if_neg (by omega),Lib.decode_at,Lib.decode_at,hz]
 simp only[A8X,Nat.sub_zero,Nat.add_zero,Nat.zero_add]
def Ri (s:ByteArray) (i:Nat):Nat:=(s.get! i).toNat
theorem mJ (s:ByteArray) (i:Nat):Ri s i<256:=(s.get! i).toNat_lt
theorem X1 {s:ByteArray} {i:Int} {k:Nat} (hi:i=k) (h:k<s.size):atS s i=some ((Ri s k:Nat):Int):=by
 subst hi
 unfold atS
 rw[dif_pos ⟨by omega,by simpa using h⟩]
 have h':k<s.data.size:=h
 have e:s.get! k=s[k]'h:=by
  show s.data[k]! =s.data[k]
  rw[getElem!_pos s.data k h']
 simp only[Ri,e,Int.toNat_natCast]
theorem ACC {x:Nat} (h:x<256):XW .i64 (x:Int) 31=((x%32:Nat):Int):=(show∀n:Fin 256,XW .i64 ((n.val:Nat):Int) 31=((n.val%32:Nat):Int) by decide+kernel) ⟨x,h⟩
theorem ACD {x:Nat} (h:x<256):XW .i64 (x:Int) 15=((x%16:Nat):Int):=(show∀n:Fin 256,XW .i64 ((n.val:Nat):Int) 15=((n.val%16:Nat):Int) by decide+kernel) ⟨x,h⟩
theorem ACZ {x:Nat} (h:x<256):XW .i64 (x:Int) 7=((x%8:Nat):Int):=(show∀n:Fin 256,XW .i64 ((n.val:Nat):Int) 7=((n.val%8:Nat):Int) by decide+kernel) ⟨x,h⟩
theorem A5P {x:Int} (h1:-9223372036854775808≤x) (h2:x<9223372036854775808):wr .i64 x=x:=Wu h1 h2
def sg (s:ByteArray) (i:Nat):Int×Int×Bool:=
 if(Utf8.decode s i).1=65533∧(Utf8.decode s i).2≤1 then(0,0,false)else(((Utf8.decode s i).1:Nat),((i+(Utf8.decode s i).2:Nat):Int),true)
theorem wR {n b0 b1 b2 b3:Nat} (hn:1≤n) (h0:b0<256):(Lib.decodeN n b0 b1 b2 b3).1≤1114111∧1≤(Lib.decodeN n b0 b1 b2 b3).2∧(Lib.decodeN n b0 b1 b2 b3).2≤n:=by
 unfold Lib.decodeN
 repeat' split
 all_goals simp only
 all_goals omega
theorem mK {s:ByteArray} {i:Nat} (h:i<s.size):(Utf8.decode s i).1≤1114111∧1≤(Utf8.decode s i).2∧i+(Utf8.decode s i).2≤s.size:=by
 rw[Lib.decode_at]
 have:=wR (n:=s.size-i) (b0:=(s.get! i).toNat) (b1:=(s.get! (i+1)).toNat) (b2:=(s.get! (i+2)).toNat) (b3:=(s.get! (i+3)).toNat) (by omega) (mJ s i)
 omega
theorem A03 {s:ByteArray} {i:Nat} (h:i<s.size) (hs:s.size≤4000000):NT s i=some (sg s i):=by
 obtain⟨b1,b2,b3⟩:=mK h
 have e1:HW (i:Int) 0 (Cq (B7 s) 1)=some true:=by
  rw[HW,PV (by omega),E7 (by simp only[B7];omega) (by simp only[B7];omega),Ss (by simp only[B7];omega)];rfl
 have e2:Pk s i (B7 s)=some (s.extract i s.size):=by
  unfold Pk B7
  rw[if_pos ⟨by omega,by omega,by omega⟩]
  simp
 have e3:je (s.extract i s.size)=((((Utf8.decode s i).1:Nat):Int),(((Utf8.decode s i).2:Nat):Int)):=by
  rw[je,tf s i h]
 rw[NT,e1]
 simp only[A3,if_true,e2,Ej,e3]
 rw[A5P (by omega) (by omega),Bk (by omega) (by omega)]
 unfold sg
 by_cases c1:(Utf8.decode s i).1=65533
 ·rw[WK (by omega)]
  by_cases c2:(Utf8.decode s i).2≤1
  ·rw[Ss (by omega)];simp only[if_true,bf,if_false];rw[if_pos ⟨c1,c2⟩]
  ·rw[Z5 (by omega)];simp only[if_true,bf,if_false];rw[if_neg (fun h=>c2 h.2)]
   simp
 ·rw[H0 (by omega)];simp only[if_true,bf,if_false];rw[if_neg (fun h=>c1 h.1)]
  simp
def sgN (n b0 b1 b2 b3 i:Nat):Int×Int×Bool:=
 if(Lib.decodeN n b0 b1 b2 b3).1=65533∧(Lib.decodeN n b0 b1 b2 b3).2≤1 then(0,0,false)else(((Lib.decodeN n b0 b1 b2 b3).1:Nat),((i+(Lib.decodeN n b0 b1 b2 b3).2:Nat):Int),true)
theorem ACa (s:ByteArray) (i:Nat):sg s i=sgN (s.size-i) (Ri s i) (Ri s (i+1)) (Ri s (i+2)) (Ri s (i+3)) i:=by
 unfold sg sgN Ri
 rw[Lib.decode_at]
theorem ZY (a lo hi:Int):CH a lo hi=some (decide (lo≤a∧a≤hi)):=by
 rw[CH]
 by_cases h:lo≤a
 ·rw[PV h]
  by_cases h2:a≤hi
  ·rw[Ss h2];simp[h,h2]
  ·rw[Z5 h2];simp[h2]
 ·rw[Ut h];simp[h]
theorem A04 (a lo hi:Int):HW a lo hi=some (decide (lo≤a∧a≤hi)):=by
 rw[←ZY,HW,CH]
section
variable {s:ByteArray} {i:Nat}
def wS (i n least v:Nat):Int×Int×Bool:=if v<least∨v>1114111∨(55296≤v∧v≤57343)then(0,0,false)else((v:Nat),((i+1+n:Nat):Int),true)
theorem tg (hs:s.size≤4000000) (h:i<s.size) {n least v k:Nat} (hn:n≤3) (hk:k=n+1) (hv:v<100000000):BX s i n least v k=some (wS i n least v):=by
 rw[BX,Z5 (by omega)]
 simp only[bf,if_false,ZY,A3]
 unfold wS
 by_cases c1:v<least
 ·rw[Sq (by omega)];simp only[if_true,bf,if_false];rw[if_pos (.inl c1)]
 ·rw[Hr (by omega)]
  by_cases c2:v>1114111
  ·rw[Rf (by omega)];simp only[if_true,bf,if_false];rw[if_pos (.inr (.inl c2))]
  ·rw[WJ (by omega)]
   simp only[bf,if_false]
   by_cases c3:55296≤v∧v≤57343
   ·have:decide ((55296:Int)≤(v:Int)∧(v:Int)≤57343)=true:=by simp;omega
    rw[this,if_pos (show v<least∨v>1114111∨(55296≤v∧v≤57343)from .inr (.inr c3))];rfl
   ·have:decide ((55296:Int)≤(v:Int)∧(v:Int)≤57343)=false:=by simp;omega
    rw[this,Bk (a:=(i:Int)) (b:=1) (by omega) (by omega),Bk (a:=(i:Int)+1) (b:=(n:Int)) (by omega) (by omega),if_neg (show¬(v<least∨v>1114111∨(55296≤v∧v≤57343)) by omega)]
    simp only[bf,if_false]
    congr 3
theorem WN (hs:s.size≤4000000) {n least v k:Nat} (hk:k≤n) (hn:n≤3) (h:i+k<s.size) (hv:v<1000000):
  BX s i n least v k=if Ri s (i+k)<128∨191<Ri s (i+k)then some (0,0,false)else BX s i n least ((v*64+Ri s (i+k)-128:Nat):Int) ((k+1:Nat):Int):=by
 have hb:=mJ s (i+k)
 have ea:Af (i:Int) (k:Int)=((i+k:Nat):Int):=by rw[Bk (by omega) (by omega)];omega
 rw[BX,Ss (by omega),ea,X1 rfl h]
 simp only[if_true,A3]
 rw[A5P (by omega) (by omega)]
 by_cases c1:Ri s (i+k)<128
 ·rw[Sq (by omega)];simp only[if_true,bf,if_false];rw[if_pos (.inl c1)]
 ·rw[Hr (by omega)]
  by_cases c2:191<Ri s (i+k)
  ·rw[Rf (by omega)];simp only[if_true,bf,if_false];rw[if_pos (.inr c2)]
  ·rw[WJ (by omega)];simp only[if_true,bf,if_false];rw[if_neg (by omega)]
   have em:cy (v:Int) 64=((v*64:Nat):Int):=by
    show IntKind.i64.wrap _=_
    rw[Wu (by omega) (by omega)];omega
   rw[em,Bk (by omega) (by omega),E7 (by omega) (by omega),Bk (by omega) (by omega)]
   congr 1
   omega
theorem zM (hs:s.size≤4000000) (h:i<s.size) (n least v:Nat) (hn:1≤n∧n≤3):Ds s i n least v=if i+n<s.size then BX s i n least v ((1:Nat):Int)else some (0,0,false):=by
 rw[Ds,E7 (a:=B7 s) (b:=1) (by simp only[B7];omega) (by simp only[B7];omega),E7 (a:=B7 s-1) (b:=(n:Int)) (by simp only[B7];omega) (by simp only[B7];omega)]
 by_cases c:i+n<s.size
 ·rw[WJ (by simp only[B7];omega)];simp only[if_true,bf,if_false];rw[if_pos c];rfl
 ·rw[Rf (by simp only[B7];omega)];simp only[if_true,bf,if_false];rw[if_neg c]
end
def A5Q (n b0 b1 b2 b3 i:Nat):Int×Int×Bool:=
 if b0<128 then((b0:Nat),((i+1:Nat):Int),true)
 else if b0<192 then(0,0,false)
 else if b0<224 then(if 1<n then(if b1<128∨191<b1 then(0,0,false)else wS i 1 128 (b0%32*64+b1-128))else(0,0,false))
 else if b0<240 then(if 2<n then(if b1<128∨191<b1 then(0,0,false)else if b2<128∨191<b2 then(0,0,false)else wS i 2 2048 ((b0%16*64+b1-128)*64+b2-128))else(0,0,false))
 else if b0<248 then(if 3<n then(if b1<128∨191<b1 then(0,0,false)else if b2<128∨191<b2 then(0,0,false)else if b3<128∨191<b3 then(0,0,false)else wS i 3 65536 (((b0%8*64+b1-128)*64+b2-128)*64+b3-128))else(0,0,false))
 else(0,0,false)
set_option maxRecDepth 100000 in
set_option maxHeartbeats 2000000 in
theorem A5R (n b0 b1 b2 b3 i:Nat) (hn:1≤n) (h0:b0<256) (h1:b1<256) (h2:b2<256) (h3:b3<256):A5Q n b0 b1 b2 b3 i=sgN n b0 b1 b2 b3 i:=by
 unfold A5Q sgN Lib.decodeN
 by_cases c0:b0<128
 ·simp only[if_pos c0]
  rw[if_neg (by omega)]
 ·simp only[if_neg c0]
  by_cases c1:b0<192
  ·rw[if_pos c1]
   repeat' split
   all_goals first|rfl|(exfalso;omega)
  ·rw[if_neg c1]
   by_cases c2:b0<224
   ·rw[if_pos c2]
    have e:b0%32*64+b1%64=b0%32*64+b1%64:=rfl
    unfold wS
    repeat' split
    all_goals first|rfl|(exfalso;omega)|(refine Prod.ext ?_ (Prod.ext ?_ rfl)<;>simp only<;>omega)
   ·rw[if_neg c2]
    by_cases c3:b0<240
    ·rw[if_pos c3]
     unfold wS
     repeat' split
     all_goals first|rfl|(exfalso;omega)|(refine Prod.ext ?_ (Prod.ext ?_ rfl)<;>simp only<;>omega)
    ·rw[if_neg c3]
     unfold wS
     repeat' split
     all_goals first|rfl|(exfalso;omega)|(refine Prod.ext ?_ (Prod.ext ?_ rfl)<;>simp only<;>omega)
theorem A05 {s:ByteArray} {i:Nat} (h:i<s.size) (hs:s.size≤4000000):G9 s i=some (sg s i):=by
 have h0:=mJ s i
 have h1:=mJ s (i+1)
 have h2:=mJ s (i+2)
 have h3:=mJ s (i+3)
 rw[ACa,←A5R _ _ _ _ _ _ (by omega) h0 h1 h2 h3]
 have hx:wr .i64 ((Ri s i:Nat):Int)=((Ri s i:Nat):Int):=A5P (by omega) (by omega)
 have n1:(1<s.size-i)=(i+1<s.size):=propext ⟨fun h=>by omega,fun h=>by omega⟩
 have n2:(2<s.size-i)=(i+2<s.size):=propext ⟨fun h=>by omega,fun h=>by omega⟩
 have n3:(3<s.size-i)=(i+3<s.size):=propext ⟨fun h=>by omega,fun h=>by omega⟩
 unfold A5Q
 simp only[n1,n2,n3]
 rw[G9,Hr (by omega),Ut (by simp only[B7];omega),X1 rfl h]
 simp only[bf,if_false,A3,hx]
 rw[Bk (by omega) (by omega)]
 generalize hb0:Ri s i=b0 at*
 by_cases c0:b0<128
 ·rw[Sq (by omega),if_pos c0];rfl
 ·rw[Hr (by omega),if_neg c0]
  simp only[bf,if_false]
  by_cases c1:b0<192
  ·rw[Ut (by omega),if_pos c1]
   simp only[bf,if_false,Ec,Eb,hx]
   rw[Ut (by omega),Ut (by omega)]
   rfl
  ·rw[PV (by omega),if_neg c1]
   simp only[if_true,Ec]
   by_cases c2:b0<224
   ·rw[Sq (by omega),if_pos c2]
    simp only[if_true,hx,ACC h0]
    refine Eq.trans (zM hs h 1 128 (b0%32) (by omega)) ?_
    by_cases d1:i+1<s.size
    ·rw[if_pos d1,if_pos d1,WN hs (by omega) (by omega) d1 (by omega)]
     split
     ·rfl
     ·exact tg hs h (by omega) (by omega) (by omega)
    ·rw[if_neg d1,if_neg d1]
   ·rw[Hr (by omega),if_neg c2]
    simp only[bf,if_false,hx]
    rw[PV (by omega)]
    simp only[if_true,Eb]
    by_cases c3:b0<240
    ·rw[Sq (by omega),if_pos c3]
     simp only[if_true,hx,ACD h0]
     refine Eq.trans (zM hs h 2 2048 (b0%16) (by omega)) ?_
     by_cases d1:i+2<s.size
     ·rw[if_pos d1,if_pos d1,WN hs (by omega) (by omega) (by omega) (by omega)]
      split
      ·rfl
      ·rw[WN hs (by omega) (by omega) d1 (by omega)]
       split
       ·rfl
       ·exact tg hs h (by omega) (by omega) (by omega)
     ·rw[if_neg d1,if_neg d1]
    ·rw[Hr (by omega),if_neg c3]
     simp only[bf,if_false,hx]
     rw[PV (by omega)]
     simp only[if_true]
     by_cases c4:b0<248
     ·rw[Sq (by omega),if_pos c4]
      simp only[if_true,ACZ h0]
      refine Eq.trans (zM hs h 3 65536 (b0%8) (by omega)) ?_
      by_cases d1:i+3<s.size
      ·rw[if_pos d1,if_pos d1,WN hs (by omega) (by omega) (by omega) (by omega)]
       split
       ·rfl
       ·rw[WN hs (by omega) (by omega) (by omega) (by omega)]
        split
        ·rfl
        ·rw[WN hs (by omega) (by omega) d1 (by omega)]
         split
         ·rfl
         ·exact tg hs h (by omega) (by omega) (by omega)
      ·rw[if_neg d1,if_neg d1]
     ·rw[Hr (by omega),if_neg c4];rfl
end TT
namespace TT
open Go
def isR (n:Int) (l:List (Int×Int)):Bool:=l.any fun p=>decide (p.1≤n∧n≤p.2)
def WO : List (Int×Int)→List Int
 | []=>[]
 |p::l=>p.1::p.2::WO l
theorem A1s (l:List (Int×Int)):(WO l).length=2*l.length:=by
 induction l with
 |nil=>rfl
 |cons p l ih=>simp[WO,ih];omega
theorem iA (n:Int) (L:List Int) (hL:L.length≤4000000):∀(rest:List (Int×Int)) (pre:List Int),pre++WO rest=L→BE n L pre.length=some (isR n rest)
 | [],pre,hp=>by
  have hl:pre.length=L.length:=by rw[←hp];simp[WO]
  rw[BE,Bk (by omega) (by omega),Hr (by simp only[AD];omega)];rfl
 |p::rest,pre,hp=>by
  have hl:pre.length+2≤L.length:=by rw[←hp];simp[WO]
  have e1:getI L (pre.length:Int)=some p.1:=BS (rest:=p.2::WO rest) hp
  have e2:getI L ((pre.length:Int)+1)=some p.2:=by
   have:=BS (pre:=pre++[p.1]) (rest:=WO rest) (x:=p.2) (l:=L) (by rw[←hp];simp[WO])
   simpa using this
  have ih:=iA n L hL rest (pre++[p.1,p.2]) (by rw[←hp];simp[WO])
  rw[BE,Bk (a:=(pre.length:Int)) (b:=1) (by omega) (by omega),Sq (by simp only[AD];omega),Bk (a:=(pre.length:Int)) (b:=2) (by omega) (by omega)]
  simp only[if_true,e1,e2,A3,ZY]
  have e3:((pre.length:Int)+2)=(((pre++[p.1,p.2]).length:Nat):Int):=by simp
  rw[e3,ih]
  simp only[isR,List.any_cons]
  cases decide (p.1≤n∧n≤p.2)<;>simp
theorem iB (n:Int) (L:List AG) (hL:L.length≤4000000):∀(rest:List (Int×Int)) (pre:List AG),pre++rest.map (fun p=>AG.mk p.1 p.2)=L→∃k,Ar L pre.length n=some (k,n)∧geI k 0=isR n rest
 | [],pre,hp=>by
  refine⟨-1, ?_,rfl⟩
  rw[Ar,Cj (by simpa using hp)];rfl
 |p::rest,pre,hp=>by
  obtain⟨k,h1,h2⟩:=iB n L hL rest (pre++[AG.mk p.1 p.2]) (by rw[←hp];simp)
  have hp':pre++AG.mk p.1 p.2::rest.map (fun p=>AG.mk p.1 p.2)=L:=by rw[←hp];rfl
  rw[Ar,Bx hp',BS hp',Bm hp' (by rw[Aq];omega)]
  simp only[if_true,A3,TR,A04,isR,List.any_cons]
  cases hd:decide (p.1≤n∧n≤p.2)with
  |true=>exact⟨pre.length,by simp,by rw[PV (by omega)];rfl⟩
  |false=>exact⟨k,by simpa using h1,by rw[h2];rfl⟩
theorem mL (n:Int) (l:List (Int×Int)) (hl:l.length≤1000):N4 n (l.map fun p=>AG.mk p.1 p.2)=some (isR n l):=by
 obtain⟨k,h1,h2⟩:=iB n _ (by simp;omega) l [] rfl
 rw[N4,Cl,DS]
 have h1':Ar (l.map fun p=>AG.mk p.1 p.2) 0 n=some (k,n):=h1
 rw[h1']
 simp only[A3,h2]
theorem qf (n:Int) (l:List (Int×Int)) (hl:l.length≤1000):FI n (WO l)=some (isR n l):=by
 rw[FI]
 exact iA n _ (by rw[A1s];omega) l [] rfl
def mM : List (Int×Int):=[(65,90),(95,95),(97,122),(192,214),(216,246),(248,767),(880,893),(895,8191),(8204,8205),(8304,8591),(11264,12271),(12289,55295),(63744,64975),(65008,65533),(65536,983039)]
def wT : List (Int×Int):=[(45,46),(48,57),(183,183),(768,879),(8255,8256)]
def A06 : List (Int×Int):=[(9,10),(13,13),(32,55295),(57344,65533),(65536,1114111)]
def Z9 (n:Int):Bool:=isR n mM
def wU (n:Int):Bool:=Z9 n||isR n wT
theorem mN (n:Int):EP n=some (Z9 n):=by
 have e:=qf n mM (by decide)
 simp only[mM,WO]at e
 rw[EP,e];rfl
theorem mO (n:Int):LM n=some (Z9 n):=by
 have e:=mL n mM (by decide)
 simp only[mM,List.map_cons,List.map_nil]at e
 rw[LM,e];rfl
theorem A1t (n:Int):FS n=some (wU n):=by
 have e:=qf n wT (by decide)
 simp only[wT,WO]at e
 rw[FS,mN,e]
 simp only[A3,wU]
 cases Z9 n<;>rfl
theorem A1u (n:Int):NU n=some (wU n):=by
 have e:=mL n wT (by decide)
 simp only[wT,List.map_cons,List.map_nil]at e
 rw[NU,mO,e]
 simp only[A3,wU]
 cases Z9 n<;>rfl
def wV (n:Int):Bool:=isR n A06
theorem A1v (n:Int):RW n=some (wV n):=by
 have e:=mL n A06 (by decide)
 simp only[A06,List.map_cons,List.map_nil]at e
 rw[RW,e];rfl
theorem A1w (n:Int):Kf n=some (wV n):=by
 have hb:wV n=(decide (n=9)||(decide (n=10)||(decide (n=13)||(decide (32≤n∧n≤55295)||(decide (57344≤n∧n≤65533)||decide (65536≤n∧n≤1114111)))))):=by
  rw[Bool.eq_iff_iff]
  simp[wV,isR,A06]
  omega
 have e (m:Int):Ag n m=decide (n=m):=by
  by_cases h:n=m
  ·rw[WK h];simp[h]
  ·rw[H0 h];simp[h]
 rw[Kf,hb]
 simp only[e,ZY,A3]
 cases decide (n=9)<;>cases decide (n=10)<;>cases decide (n=13)<;>cases decide (32≤n∧n≤55295)<;>cases decide (57344≤n∧n≤65533)<;>simp
theorem A99 {s:ByteArray} {i:Nat} (h:i<s.size):(sg s i).2.2=true→∃k,(sg s i).2.1=((i+k:Nat):Int)∧1≤k∧i+k≤s.size∧((k=1∧(sg s i).1=Ri s i)∨∀j,i≤j→j<i+k→128≤Ri s j):=by
 obtain⟨b1,b2,b3⟩:=mK h
 unfold sg
 split
 ·intro h;cases h
 ·intro _
  refine⟨(Utf8.decode s i).2,rfl,b2,b3, ?_⟩
  rename_i hne
  have h0:=mJ s i
  simp only
  rw[Lib.decode_at]at hne ⊢
  simp only[show(s.get! i).toNat=Ri s i from rfl,show(s.get! (i+1)).toNat=Ri s (i+1)from rfl,show(s.get! (i+2)).toNat=Ri s (i+2)from rfl,show(s.get! (i+3)).toNat=Ri s (i+3)from rfl]at hne ⊢
  revert hne
  unfold Lib.decodeN
  by_cases c0:Ri s i<128
  ·simp only[if_pos c0];intro _;left;simp
  ·simp only[if_neg c0]
   have hj:∀j,j=i∨j=i+1∨j=i+2∨j=i+3→(j=i+1→128≤Ri s (i+1))→(j=i+2→128≤Ri s (i+2))→(j=i+3→128≤Ri s (i+3))→128≤Ri s j:=by
    rintro j (rfl|rfl|rfl|rfl) a b c
    ·omega
    ·exact a rfl
    ·exact b rfl
    ·exact c rfl
   repeat' split
   all_goals intro hne
   all_goals first
    |(exfalso;exact hne ⟨rfl,Nat.le_refl _⟩)
    |(refine .inr fun j h1 h2=>hj j (by omega) (fun _=>by omega) (fun _=>by omega) (fun _=>by omega))
def A5S (s:ByteArray):Bool:=decide ((1:Int)≤B7 s∧B7 s≤16)
theorem mP (s:ByteArray) (hs:s.size≤4000000):∀(m i:Nat),i≤s.size→s.size-i≤m→∃b,B6 s i=some b∧Du s i=some (b&&A5S s)∧(b=true→∀j,i≤j→j<s.size→Ri s j≠58)
 |0,i,h,hm=>⟨true,by rw[B6,Hr (by simp only[B7];omega)];rfl,by rw[Du,Hr (by simp only[B7];omega),A04];rfl,fun _ j h1 h2=>by omega⟩
 |m+1,i,h,hm=>by
  by_cases hi:i<s.size
  ·rw[B6,Du,Sq (by simp only[B7];omega),A05 hi hs,A03 hi hs]
   simp only[if_true,A3,mN,mO,A1t,A1u]
   cases hok:(sg s i).2.2 with
   |false=>exact⟨false,by simp,by simp,by simp⟩
   |true=>
    obtain⟨k,e1,e2,e3,e4⟩:=A99 hi hok
    obtain⟨b,f1,f2,f3⟩:=mP s hs m (i+k) e3 (by omega)
    rw[e1]
    simp only[if_true,f1,f2]
    by_cases hp:wU (sg s i).1=true
    ·have hc:b=true→∀j,i≤j→j<s.size→Ri s j≠58:=fun hb j h1 h2 h3=>by
      by_cases hj:j<i+k
      ·rcases e4 with ⟨r1,r2⟩|r
       ·have:j=i:=by omega
        subst this
        rw[r2,h3]at hp
        revert hp;decide
       ·have:=r j h1 hj;omega
      ·exact f3 hb j (by omega) h2 h3
     by_cases h0:Ag (i:Int) 0=true
     ·by_cases hst:Z9 (sg s i).1=true
      ·exact⟨b,by simp[h0,hst,hp],by simp[h0,hst,hp],hc⟩
      ·exact⟨false,by simp[h0,hst],by simp[h0,hst],by simp⟩
     ·exact⟨b,by simp[h0,hp],by simp[h0,hp],hc⟩
    ·refine⟨false, ?_, ?_,by simp⟩
     ·by_cases h0:Ag (i:Int) 0=true<;>by_cases hst:Z9 (sg s i).1=true<;>simp[h0,hst,hp]
     ·by_cases h0:Ag (i:Int) 0=true<;>by_cases hst:Z9 (sg s i).1=true<;>simp[h0,hst,hp]
  ·exact⟨true,by rw[B6,Hr (by simp only[B7];omega)];rfl,by rw[Du,Hr (by simp only[B7];omega),A04];rfl,fun _ j h1 h2=>by omega⟩
def Ct (s:ByteArray):Bool:=(BQ s).getD false
theorem DY (s:ByteArray) (hs:s.size≤4000000):BQ s=some (Ct s)∧CA s=some (Ct s)∧(Ct s=true→1≤s.size∧∀j,j<s.size→Ri s j≠58):=by
 obtain⟨b,h1,h2,h3⟩:=mP s hs s.size 0 (Nat.zero_le _) (by omega)
 have e1:BQ s=some (b&&A5S s):=by
  rw[BQ,ZY]
  simp only[A3]
  have h1':B6 s 0=some b:=h1
  have:A5S s=decide ((1:Int)≤B7 s∧B7 s≤16):=rfl
  rw[←this,h1']
  cases A5S s<;>cases b<;>rfl
 have e2:Ct s=(b&&A5S s):=by rw[Ct,e1];rfl
 refine⟨by rw[e1,e2],by rw[CA,e2];exact h2,fun h=> ?_⟩
 rw[e2,bz]at h
 refine⟨?_,fun j hj=>h3 h.1 j (Nat.zero_le _) hj⟩
 obtain⟨t1,_⟩:=of_decide_eq_true h.2
 simp only[B7]at t1
 omega
theorem mQ (s:ByteArray) (hs:s.size≤1500):∀(m i:Nat),i≤s.size→s.size-i≤m→∃b,CC s i=some b∧Dv s i=some b
 |0,i,h,hm=>⟨true,by rw[CC,Hr (by simp only[B7];omega),Ss (by simp only[B7];omega)];rfl,by rw[Dv,Hr (by simp only[B7];omega)];rfl⟩
 |m+1,i,h,hm=>by
  by_cases hi:i<s.size
  ·rw[CC,Dv,Sq (by simp only[B7];omega),A05 hi (by omega),A03 hi (by omega)]
   simp only[if_true,A3,A1w,A1v]
   cases hok:(sg s i).2.2 with
   |false=>exact⟨false,by simp,by simp⟩
   |true=>
    obtain⟨k,e1,e2,e3,e4⟩:=A99 hi hok
    obtain⟨b,f1,f2⟩:=mQ s hs m (i+k) e3 (by omega)
    rw[e1]
    simp only[if_true,f1,f2]
    cases wV (sg s i).1
    ·exact⟨false,by simp,by simp⟩
    ·exact⟨b,by simp,by simp⟩
  ·exact⟨true,by rw[CC,Hr (by simp only[B7];omega),Ss (by simp only[B7];omega)];rfl,by rw[Dv,Hr (by simp only[B7];omega)];rfl⟩
theorem wW (s:ByteArray) (hs:s.size≤4000000):∃b,Bv s=some b∧E3 s=some b:=by
 rw[Bv,E3]
 by_cases h:s.size≤600
 ·obtain⟨b,h1,h2⟩:=mQ s (by omega) s.size 0 (Nat.zero_le _) (by omega)
  have h1':HU s=some b:=by rw[HU];exact h1
  have h2':LN s=some b:=by rw[LN];exact h2
  rw[Ss (by simp only[B7];omega)]
  exact⟨b,by simp[h1',A3],by simp[h2',A3]⟩
 ·rw[Z5 (by simp only[B7];omega)]
  exact⟨false,rfl,rfl⟩
end TT
namespace TT
open Go
theorem wX (s:ByteArray) (i k:Nat):(s.extract i k).toList=(s.data.toList.drop i).take (k-i):=by
 rw[Lib.toList_data,Lib.extract_data]
theorem X2 (s:ByteArray):s.data.toList.length=s.size:=Array.length_toList
theorem A5T (s t:ByteArray) (ht:1≤t.size) (hs:s.size≤4000000) (hts:t.size≤4000000):∀(m i:Nat),i≤s.size→s.size-i≤m→
  ∃b,DN s t i=some b∧(b=true↔∃j,i≤j∧j≤s.size∧Lib.occAt s.data.toList t.data.toList j=true):=by
 intro m
 have hz:∀i,s.size<i+t.size→∀j,i≤j→j≤s.size→Lib.occAt s.data.toList t.data.toList j=false:=fun i hi j h1 h2=>by
  rw[Bool.eq_false_iff]
  intro h
  rcases Lib.occAt_room h with h'|h'
  ·rw[X2,X2]at h';omega
  ·have:=X2 t;rw[h']at this;simp at this;omega
 have hend:∀i,i≤s.size→s.size<i+t.size→∃b,DN s t i=some b∧(b=true↔∃j,i≤j∧j≤s.size∧Lib.occAt s.data.toList t.data.toList j=true):=fun i hi h=>by
  refine⟨false, ?_, ?_⟩
  ·rw[DN,Bk (by simp only[B7];omega) (by simp only[B7];omega),Z5 (by simp only[B7];omega)];rfl
  ·constructor
   ·intro h;cases h
   ·rintro ⟨j,h1,h2,h3⟩
    rw[hz i h j h1 h2]at h3;cases h3
 induction m with
 |zero=>intro i h hm;exact hend i h (by omega)
 |succ m ih=>
  intro i h hm
  by_cases hi:i+t.size≤s.size
  ·obtain⟨b,h1,h2⟩:=ih (i+1) (by omega) (by omega)
   have hsub:Pk s i ((i:Int)+t.size)=some (s.extract i (i+t.size)):=by
    unfold Pk
    rw[if_pos ⟨by omega,by omega,by omega⟩]
    congr 1
   have hocc:Lib.occAt s.data.toList t.data.toList i=((s.extract i (i+t.size)).toList==t.toList):=by
    rw[Lib.occAt_iff_take _ _ _ (by rw[X2,X2];exact hi),wX,X2,Lib.toList_data,show i+t.size-i=t.size by omega]
   have e1:Af (i:Int) (B7 t)=(i:Int)+t.size:=Bk (by simp only[B7];omega) (by simp only[B7];omega)
   rw[DN,e1,Ss (by simp only[B7];omega)]
   have he:C6 (s.extract i (i+t.size)) t=Lib.occAt s.data.toList t.data.toList i:=by rw[C6];exact hocc.symm
   simp only[if_true,hsub,A3,he]
   cases ho:Lib.occAt s.data.toList t.data.toList i with
   |true=>exact⟨true,rfl,fun _=>⟨i,Nat.le_refl _,by omega,ho⟩,fun _=>rfl⟩
   |false=>
    refine⟨b, ?_,h2.trans ⟨fun⟨j,g1,g2,g3⟩=>⟨j,by omega,g2,g3⟩,fun⟨j,g1,g2,g3⟩=>⟨j, ?_,g2,g3⟩⟩⟩
    ·simp only[bf,if_false]
     rw[Bk (by omega) (by omega)]
     exact h1
    ·by_cases e:j=i
     ·subst e;rw[ho]at g3;cases g3
     ·omega
  ·exact hend i h (by omega)
theorem eP (s t:ByteArray) (ht:1≤t.size) (hs:s.size≤4000000) (hts:t.size≤4000000):Dz s t=some (GL s t)∧strings_Contains s t=some (GL s t):=by
 refine⟨?_,by rw[strings_Contains,if_pos (by omega)]⟩
 obtain⟨b,h1,h2⟩:=A5T s t ht hs hts s.size 0 (Nat.zero_le _) (by omega)
 have h1':DN s t 0=some b:=h1
 rw[Dz,h1']
 congr 1
 rw[Bool.eq_iff_iff,h2,GL,Lib.contains,decide_eq_true_iff]
 rcases Lib.index_spec s.data.toList t.data.toList with ⟨g1,g2⟩|⟨i,g1,g2,g3,_⟩
 ·rw[g1]
  constructor
  ·rintro ⟨j,_,a,b⟩
   rw[g2 j (by rw[X2];exact a)]at b;cases b
  ·intro h;omega
 ·rw[g1]
  exact⟨fun _=>by omega,fun _=>⟨i,Nat.zero_le _,by rw[X2]at g2;exact g2,g3⟩⟩
theorem mR (x y:UInt8) (h:97≤y.toNat∧y.toNat≤122):Lib.foldEq x y=(decide (x.toNat=y.toNat)||decide (x.toNat+32=y.toNat)):=by
 rw[Bool.eq_iff_iff,Lib.foldEq,Bool.or_eq_true,decide_eq_true_iff,decide_eq_true_iff,decide_eq_true_iff]
 have:=x.toNat_lt
 omega
theorem A8Y (s:ByteArray) (hs:s.size≤4000000):N3 s=some (aA s ⟨#[120,109,108]⟩)∧strings_EqualFold s ⟨#[120,109,108]⟩=some (aA s ⟨#[120,109,108]⟩):=by
 refine⟨?_,by rw[strings_EqualFold,if_pos ⟨by omega,by decide⟩]⟩
 rw[N3]
 by_cases h:s.size=3
 ·have hl:=X2 s
  rw[h]at hl
  match hd:s.data.toList,hl with
  | [a,b,c],_=>
   have g0:s.get! 0=a:=by
    show s.data[0]! =a
    rw[←Array.getElem!_toList,hd];rfl
   have g1:s.get! 1=b:=by
    show s.data[1]! =b
    rw[←Array.getElem!_toList,hd];rfl
   have g2:s.get! 2=c:=by
    show s.data[2]! =c
    rw[←Array.getElem!_toList,hd];rfl
   have e0:atS s 0=some ((a.toNat:Nat):Int):=(X1 (i:=0) (k:=0) rfl (by omega)).trans (by rw[Ri,g0])
   have e1:atS s 1=some ((b.toNat:Nat):Int):=(X1 (i:=1) (k:=1) rfl (by omega)).trans (by rw[Ri,g1])
   have e2:atS s 2=some ((c.toNat:Nat):Int):=(X1 (i:=2) (k:=2) rfl (by omega)).trans (by rw[Ri,g2])
   have hf:aA s ⟨#[120,109,108]⟩=((decide (a.toNat=120)||decide (a.toNat=88))&&((decide (b.toNat=109)||decide (b.toNat=77))&&(decide (c.toNat=108)||decide (c.toNat=76)))):=by
    rw[aA,hd]
    show(Lib.foldEq a 120&&(Lib.foldEq b 109&&(Lib.foldEq c 108&&true)))=_
    rw[mR a 120 (by decide),mR b 109 (by decide),mR c 108 (by decide),Bool.and_true]
    congr 1
    ·congr 1;rw[decide_eq_decide];show a.toNat+32=120↔_;omega
    ·congr 1
     ·congr 1;rw[decide_eq_decide];show b.toNat+32=109↔_;omega
     ·congr 1;rw[decide_eq_decide];show c.toNat+32=108↔_;omega
   have ei:∀(x k:Nat),Ag (x:Int) (k:Int)=decide (x=k):=fun x k=>by
    rw[Ag,Bool.eq_iff_iff,beq_iff_eq,decide_eq_true_iff];omega
   have q1:=ei a.toNat 120;have q2:=ei a.toNat 88;have q3:=ei b.toNat 109;have q4:=ei b.toNat 77;have q5:=ei c.toNat 108;have q6:=ei c.toNat 76
   rw[Z7,WK (by simp only[B7];omega)]
   simp only[Bool.not_true,bf,if_false,e0,e1,e2,A3,hf]
   simp only[Int.cast_ofNat_Int]at q1 q2 q3 q4 q5 q6
   rw[q1,q2,q3,q4,q5,q6]
   cases decide (a.toNat=120)<;>cases decide (a.toNat=88)<;>cases decide (b.toNat=109)<;>cases decide (b.toNat=77)<;>cases decide (c.toNat=108)<;>cases decide (c.toNat=76)<;>rfl
 ·rw[Z7,H0 (by simp only[B7];omega)]
  simp only[Bool.not_false,if_true]
  congr 1
  symm
  rw[aA,Bool.eq_false_iff]
  intro hh
  have hlen:∀(x y:List UInt8),Lib.equalFold x y=true→x.length=y.length:=by
   intro x
   induction x with
   |nil=>intro y h;cases y with
    |nil=>rfl
    |cons _ _=>cases h
   |cons a x ih=>intro y h;cases y with
    |nil=>cases h
    |cons b y=>
     rw[Lib.equalFold,bz]at h
     simp[ih y h.2]
  have:=hlen _ _ hh
  rw[X2]at this
  exact h this
theorem mS : ∀ (a b:List UInt8),((Lib.compareBytes a b<0)↔Op.bytesLess a b=true)∧(Lib.compareBytes a b=0↔a=b)
 | [],[]=>by simp[Lib.compareBytes,Op.bytesLess]
 | [],_::_=>by simp[Lib.compareBytes,Op.bytesLess]
 |_::_,[]=>by simp[Lib.compareBytes,Op.bytesLess]
 |x::a,y::b=>by
  obtain⟨h1,h2⟩:=mS a b
  unfold Lib.compareBytes Op.bytesLess
  by_cases hxy:x<y
  ·rw[if_pos hxy]
   refine⟨by simp[hxy], ?_⟩
   constructor
   ·intro h;cases h
   ·intro h;injection h with e;subst e;exact absurd hxy (UInt8.lt_irrefl x)
  ·rw[if_neg hxy]
   by_cases hyx:y<x
   ·rw[if_pos hyx]
    have hne:x≠y:=fun e=>by subst e;exact UInt8.lt_irrefl x hyx
    refine⟨by simp[hxy,hne], ?_⟩
    constructor
    ·intro h;cases h
    ·intro h;injection h with e;exact absurd e hne
   ·rw[if_neg hyx]
    have e:x=y:=UInt8.le_antisymm (UInt8.not_lt.1 hyx) (UInt8.not_lt.1 hxy)
    subst e
    refine⟨by rw[h1];simp[UInt8.lt_irrefl],by rw[h2];simp⟩
theorem A5U (s t:ByteArray):H5 (RN s t) 0=ltS s t:=by
 rw[H5,RN,ltS,Bool.eq_iff_iff,decide_eq_true_iff,(mS _ _).1,Lib.toList_data,Lib.toList_data]
theorem A5V (s t:ByteArray):Ag (RN s t) 0=C6 s t:=by
 rw[Ag,RN,C6,Bool.eq_iff_iff,beq_iff_eq,(mS _ _).2,beq_iff_eq,Lib.toList_data,Lib.toList_data]
end TT
