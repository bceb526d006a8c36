import Derived.Test.YtpmnlfgdicmiiaaGreatDoorTP0
import Derived.Test.YtpmnlfgdicmiiaaGreatDoorTDefs
import Derived.Lib.IndexAny
set_option linter.unusedVariables false
set_option linter.unusedSimpArgs false
namespace TT
open Go
theorem A2t (s:ByteArray) (i k:Nat):(s.extract i s.size).get! k=s.get! (i+k):=by
 have e:(s.extract i s.size).data=s.data.extract i s.data.size:=by
  first|rfl|simp
 show(s.extract i s.size).data[k]! =s.data[i+k]!
 rw[e]
 simp only[getElem!_def]
 rw[Array.getElem?_extract]
 have hz:s.size=s.data.size:=rfl
 by_cases h:k<s.data.size-i
 ·rw[if_pos (by omega)]
 ·have:s.data[i+k]? =none:=Array.getElem?_eq_none (by omega)
  rw[if_neg (by omega),this]
theorem mH (s:ByteArray) (i:Nat) (h:i<s.size):Lib.decodeGo (s.extract i s.size)=Utf8.decode s i:=by
 have hz:(s.extract i s.size).size=s.size-i:=by simp
 unfold Lib.decodeGo
 rw[if_neg (by omega),Lib.decode_at,Lib.decode_at,hz]
 simp only[A2t,Nat.sub_zero,Nat.add_zero,Nat.zero_add]
def UH (s:ByteArray) (i:Nat):Nat:=(s.get! i).toNat
theorem eN (s:ByteArray) (i:Nat):UH s i<256:=(s.get! i).toNat_lt
theorem Xb {s:ByteArray} {i:Int} {k:Nat} (hi:i=k) (h:k<s.size):SZ s i=some ((UH s k:Nat):Int):=by
 subst hi
 unfold SZ
 rw[dif_pos ⟨by omega,by simpa using h⟩]
 have h':k<s.data.size:=h
 have e:s.get! k=s[k]'h:=by
  show s.data[k]! =s.data[k]
  rw[getElem!_pos s.data k h']
 simp only[UH,e,Int.toNat_natCast]
theorem A6Y {x:Nat} (h:x<256):U2 .i64 (x:Int) 31=((x%32:Nat):Int):=(show∀n:Fin 256,U2 .i64 ((n.val:Nat):Int) 31=((n.val%32:Nat):Int) by decide+kernel) ⟨x,h⟩
theorem A6Z {x:Nat} (h:x<256):U2 .i64 (x:Int) 15=((x%16:Nat):Int):=(show∀n:Fin 256,U2 .i64 ((n.val:Nat):Int) 15=((n.val%16:Nat):Int) by decide+kernel) ⟨x,h⟩
theorem A6u {x:Nat} (h:x<256):U2 .i64 (x:Int) 7=((x%8:Nat):Int):=(show∀n:Fin 256,U2 .i64 ((n.val:Nat):Int) 7=((n.val%8:Nat):Int) by decide+kernel) ⟨x,h⟩
theorem zr {x:Int} (h1: -9223372036854775808≤x) (h2:x<9223372036854775808):wr .i64 x=x:=TW h1 h2
def sg (s:ByteArray) (i:Nat):Int×Int×Bool:=
 if(Utf8.decode s i).1=65533∧(Utf8.decode s i).2≤1 then(0,0,false)else(((Utf8.decode s i).1:Nat),((i+(Utf8.decode s i).2:Nat):Int),true)
theorem pF {n b0 b1 b2 b3:Nat} (hn:1≤n) (h0:b0<256):(Lib.decodeN n b0 b1 b2 b3).1≤1114111∧1≤(Lib.decodeN n b0 b1 b2 b3).2∧(Lib.decodeN n b0 b1 b2 b3).2≤n:=by
 unfold Lib.decodeN
 repeat' split
 all_goals simp only
 all_goals omega
theorem eO {s:ByteArray} {i:Nat} (h:i<s.size):(Utf8.decode s i).1≤1114111∧1≤(Utf8.decode s i).2∧i+(Utf8.decode s i).2≤s.size:=by
 rw[Lib.decode_at]
 have:=pF (n:=s.size-i) (b0:=(s.get! i).toNat) (b1:=(s.get! (i+1)).toNat) (b2:=(s.get! (i+2)).toNat) (b3:=(s.get! (i+3)).toNat) (by omega) (eN s i)
 omega
theorem se {s:ByteArray} {i:Nat} (h:i<s.size) (hs:s.size≤4000000):Kv s i=some (sg s i):=by
 obtain⟨b1,b2,b3⟩:=eO h
 have e1:J9 (i:Int) 0 (CH (Ag s) 1)=some true:=by
  rw[J9,RW (by omega),DC (by simp only[Ag];omega) (by simp only[Ag];omega),VH (by simp only[Ag];omega)];rfl
 have e2:TC s i (Ag s)=some (s.extract i s.size):=by
  unfold TC Ag
  rw[if_pos ⟨by omega,by omega,by omega⟩]
  simp
 have e3:bm (s.extract i s.size)=((((Utf8.decode s i).1:Nat):Int),(((Utf8.decode s i).2:Nat):Int)):=by
  rw[bm,mH s i h]
 rw[Kv,e1]
 simp only[A6,if_true,e2,Dm,e3]
 rw[zr (by omega) (by omega),BK (by omega) (by omega)]
 unfold sg
 by_cases c1:(Utf8.decode s i).1=65533
 ·rw[U0 (by omega)]
  by_cases c2:(Utf8.decode s i).2≤1
  ·rw[VH (by omega)];simp only[if_true,Bool.false_eq_true,if_false];rw[if_pos ⟨c1,c2⟩]
  ·rw[aT (by omega)];simp only[if_true,Bool.false_eq_true,if_false];rw[if_neg (fun h=>c2 h.2)]
   simp
 ·rw[Og (by omega)];simp only[if_true,Bool.false_eq_true,if_false];rw[if_neg (fun h=>c1 h.1)]
  simp
def sgN (n b0 b1 b2 b3 i:Nat):Int×Int×Bool:=
 if(Lib.decodeN n b0 b1 b2 b3).1=65533∧(Lib.decodeN n b0 b1 b2 b3).2≤1 then(0,0,false)else(((Lib.decodeN n b0 b1 b2 b3).1:Nat),((i+(Lib.decodeN n b0 b1 b2 b3).2:Nat):Int),true)
theorem A6v (s:ByteArray) (i:Nat):sg s i=sgN (s.size-i) (UH s i) (UH s (i+1)) (UH s (i+2)) (UH s (i+3)) i:=by
 unfold sg sgN UH
 rw[Lib.decode_at]
theorem Yv (a lo hi:Int):F8 a lo hi=some (decide (lo≤a∧a≤hi)):=by
 rw[F8]
 by_cases h:lo≤a
 ·rw[RW h]
  by_cases h2:a≤hi
  ·rw[VH h2];simp[h,h2]
  ·rw[aT h2];simp[h2]
 ·rw[Tz h];simp[h]
theorem zt (a lo hi:Int):J9 a lo hi=some (decide (lo≤a∧a≤hi)):=by
 rw[←Yv,J9,F8]
section
variable {s:ByteArray} {i:Nat}
def pG (i n least v:Nat):Int×Int×Bool:=if v<least∨v>1114111∨(55296≤v∧v≤57343)then(0,0,false)else((v:Nat),((i+1+n:Nat):Int),true)
theorem mI (hs:s.size≤4000000) (h:i<s.size) {n least v k:Nat} (hn:n≤3) (hk:k=n+1) (hv:v<100000000):Aq s i n least v k=some (pG i n least v):=by
 rw[Aq,aT (by omega)]
 simp only[Bool.false_eq_true,if_false,Yv,A6]
 unfold pG
 by_cases c1:v<least
 ·rw[R5 (by omega)];simp only[if_true,Bool.false_eq_true,if_false];rw[if_pos (.inl c1)]
 ·rw[GE (by omega)]
  by_cases c2:v>1114111
  ·rw[RX (by omega)];simp only[if_true,Bool.false_eq_true,if_false];rw[if_pos (.inr (.inl c2))]
  ·rw[VI (by omega)]
   simp only[Bool.false_eq_true,if_false]
   by_cases c3:55296≤v∧v≤57343
   ·have:decide ((55296:Int)≤(v:Int)∧(v:Int)≤57343)=true:=by simp;omega
    rw[this,if_pos (show v<least∨v>1114111∨(55296≤v∧v≤57343)from .inr (.inr c3))];rfl
   ·have:decide ((55296:Int)≤(v:Int)∧(v:Int)≤57343)=false:=by simp;omega
    rw[this,BK (a:=(i:Int)) (b:=1) (by omega) (by omega),BK (a:=(i:Int)+1) (b:=(n:Int)) (by omega) (by omega),if_neg (show¬(v<least∨v>1114111∨(55296≤v∧v≤57343)) by omega)]
    simp only[Bool.false_eq_true,if_false]
    congr 3
theorem Sv (hs:s.size≤4000000) {n least v k:Nat} (hk:k≤n) (hn:n≤3) (h:i+k<s.size) (hv:v<1000000):
  Aq s i n least v k=if UH s (i+k)<128∨191<UH s (i+k)then some (0,0,false)else Aq s i n least ((v*64+UH s (i+k)-128:Nat):Int) ((k+1:Nat):Int):=by
 have hb:=eN s (i+k)
 have ea:AV (i:Int) (k:Int)=((i+k:Nat):Int):=by rw[BK (by omega) (by omega)];omega
 rw[Aq,VH (by omega),ea,Xb rfl h]
 simp only[if_true,A6]
 rw[zr (by omega) (by omega)]
 by_cases c1:UH s (i+k)<128
 ·rw[R5 (by omega)];simp only[if_true,Bool.false_eq_true,if_false];rw[if_pos (.inl c1)]
 ·rw[GE (by omega)]
  by_cases c2:191<UH s (i+k)
  ·rw[RX (by omega)];simp only[if_true,Bool.false_eq_true,if_false];rw[if_pos (.inr c2)]
  ·rw[VI (by omega)];simp only[if_true,Bool.false_eq_true,if_false];rw[if_neg (by omega)]
   have em:Y1 (v:Int) 64=((v*64:Nat):Int):=by
    show IntKind.i64.wrap _=_
    rw[TW (by omega) (by omega)];omega
   rw[em,BK (by omega) (by omega),DC (by omega) (by omega),BK (by omega) (by omega)]
   congr 1
   omega
theorem rp (hs:s.size≤4000000) (h:i<s.size) (n least v:Nat) (hn:1≤n∧n≤3):Cy s i n least v=if i+n<s.size then Aq s i n least v ((1:Nat):Int)else some (0,0,false):=by
 rw[Cy,DC (a:=Ag s) (b:=1) (by simp only[Ag];omega) (by simp only[Ag];omega),DC (a:=Ag s-1) (b:=(n:Int)) (by simp only[Ag];omega) (by simp only[Ag];omega)]
 by_cases c:i+n<s.size
 ·rw[VI (by simp only[Ag];omega)];simp only[if_true,Bool.false_eq_true,if_false];rw[if_pos c];rfl
 ·rw[RX (by simp only[Ag];omega)];simp only[if_true,Bool.false_eq_true,if_false];rw[if_neg c]
end
def zu (n b0 b1 b2 b3 i:Nat):Int×Int×Bool:=
 if b0<128 then((b0:Nat),((i+1:Nat):Int),true)
 else if b0<192 then(0,0,false)
 else if b0<224 then(if 1<n then(if b1<128∨191<b1 then(0,0,false)else pG i 1 128 (b0%32*64+b1-128))else(0,0,false))
 else if b0<240 then(if 2<n then(if b1<128∨191<b1 then(0,0,false)else if b2<128∨191<b2 then(0,0,false)else pG i 2 2048 ((b0%16*64+b1-128)*64+b2-128))else(0,0,false))
 else if b0<248 then(if 3<n then(if b1<128∨191<b1 then(0,0,false)else if b2<128∨191<b2 then(0,0,false)else if b3<128∨191<b3 then(0,0,false)else pG i 3 65536 (((b0%8*64+b1-128)*64+b2-128)*64+b3-128))else(0,0,false))
 else(0,0,false)
set_option maxRecDepth 100000 in
set_option maxHeartbeats 2000000 in
theorem zv (n b0 b1 b2 b3 i:Nat) (hn:1≤n) (h0:b0<256) (h1:b1<256) (h2:b2<256) (h3:b3<256):zu n b0 b1 b2 b3 i=sgN n b0 b1 b2 b3 i:=by
 unfold zu sgN Lib.decodeN
 by_cases c0:b0<128
 ·simp only[if_pos c0]
  rw[if_neg (by omega)]
 ·simp only[if_neg c0]
  by_cases c1:b0<192
  ·rw[if_pos c1]
   repeat' split
   all_goals first|rfl|(exfalso;omega)
  ·rw[if_neg c1]
   by_cases c2:b0<224
   ·rw[if_pos c2]
    have e:b0%32*64+b1%64=b0%32*64+b1%64:=rfl
    unfold pG
    repeat' split
    all_goals first|rfl|(exfalso;omega)|(refine Prod.ext ?_ (Prod.ext ?_ rfl)<;>simp only<;>omega)
   ·rw[if_neg c2]
    by_cases c3:b0<240
    ·rw[if_pos c3]
     unfold pG
     repeat' split
     all_goals first|rfl|(exfalso;omega)|(refine Prod.ext ?_ (Prod.ext ?_ rfl)<;>simp only<;>omega)
    ·rw[if_neg c3]
     unfold pG
     repeat' split
     all_goals first|rfl|(exfalso;omega)|(refine Prod.ext ?_ (Prod.ext ?_ rfl)<;>simp only<;>omega)
theorem sf {s:ByteArray} {i:Nat} (h:i<s.size) (hs:s.size≤4000000):Et s i=some (sg s i):=by
 have h0:=eN s i
 have h1:=eN s (i+1)
 have h2:=eN s (i+2)
 have h3:=eN s (i+3)
 rw[A6v,←zv _ _ _ _ _ _ (by omega) h0 h1 h2 h3]
 have hx:wr .i64 ((UH s i:Nat):Int)=((UH s i:Nat):Int):=zr (by omega) (by omega)
 have n1:(1<s.size-i)=(i+1<s.size):=propext ⟨fun h=>by omega,fun h=>by omega⟩
 have n2:(2<s.size-i)=(i+2<s.size):=propext ⟨fun h=>by omega,fun h=>by omega⟩
 have n3:(3<s.size-i)=(i+3<s.size):=propext ⟨fun h=>by omega,fun h=>by omega⟩
 unfold zu
 simp only[n1,n2,n3]
 rw[Et,GE (by omega),Tz (by simp only[Ag];omega),Xb rfl h]
 simp only[Bool.false_eq_true,if_false,A6,hx]
 rw[BK (by omega) (by omega)]
 generalize hb0:UH s i=b0 at*
 by_cases c0:b0<128
 ·rw[R5 (by omega),if_pos c0];rfl
 ·rw[GE (by omega),if_neg c0]
  simp only[Bool.false_eq_true,if_false]
  by_cases c1:b0<192
  ·rw[Tz (by omega),if_pos c1]
   simp only[Bool.false_eq_true,if_false,Dg,Df,hx]
   rw[Tz (by omega),Tz (by omega)]
   rfl
  ·rw[RW (by omega),if_neg c1]
   simp only[if_true,Dg]
   by_cases c2:b0<224
   ·rw[R5 (by omega),if_pos c2]
    simp only[if_true,hx,A6Y h0]
    refine Eq.trans (rp hs h 1 128 (b0%32) (by omega)) ?_
    by_cases d1:i+1<s.size
    ·rw[if_pos d1,if_pos d1,Sv hs (by omega) (by omega) d1 (by omega)]
     split
     ·rfl
     ·exact mI hs h (by omega) (by omega) (by omega)
    ·rw[if_neg d1,if_neg d1]
   ·rw[GE (by omega),if_neg c2]
    simp only[Bool.false_eq_true,if_false,hx]
    rw[RW (by omega)]
    simp only[if_true,Df]
    by_cases c3:b0<240
    ·rw[R5 (by omega),if_pos c3]
     simp only[if_true,hx,A6Z h0]
     refine Eq.trans (rp hs h 2 2048 (b0%16) (by omega)) ?_
     by_cases d1:i+2<s.size
     ·rw[if_pos d1,if_pos d1,Sv hs (by omega) (by omega) (by omega) (by omega)]
      split
      ·rfl
      ·rw[Sv hs (by omega) (by omega) d1 (by omega)]
       split
       ·rfl
       ·exact mI hs h (by omega) (by omega) (by omega)
     ·rw[if_neg d1,if_neg d1]
    ·rw[GE (by omega),if_neg c3]
     simp only[Bool.false_eq_true,if_false,hx]
     rw[RW (by omega)]
     simp only[if_true]
     by_cases c4:b0<248
     ·rw[R5 (by omega),if_pos c4]
      simp only[if_true,A6u h0]
      refine Eq.trans (rp hs h 3 65536 (b0%8) (by omega)) ?_
      by_cases d1:i+3<s.size
      ·rw[if_pos d1,if_pos d1,Sv hs (by omega) (by omega) (by omega) (by omega)]
       split
       ·rfl
       ·rw[Sv hs (by omega) (by omega) (by omega) (by omega)]
        split
        ·rfl
        ·rw[Sv hs (by omega) (by omega) d1 (by omega)]
         split
         ·rfl
         ·exact mI hs h (by omega) (by omega) (by omega)
      ·rw[if_neg d1,if_neg d1]
     ·rw[GE (by omega),if_neg c4];rfl
end TT
namespace TT
open Go
def isR (n:Int) (l:List (Int×Int)):Bool:=l.any fun p=>decide (p.1≤n∧n≤p.2)
def Sw : List (Int×Int)→List Int
 | []=>[]
 |p::l=>p.1::p.2::Sw l
theorem vI (l:List (Int×Int)):(Sw l).length=2*l.length:=by
 induction l with
 |nil=>rfl
 |cons p l ih=>simp[Sw,ih];omega
theorem ac (n:Int) (L:List Int) (hL:L.length≤4000000):∀(rest:List (Int×Int)) (pre:List Int),pre++Sw rest=L→Ae n L pre.length=some (isR n rest)
 | [],pre,hp=>by
  have hl:pre.length=L.length:=by rw[←hp];simp[Sw]
  rw[Ae,BK (by omega) (by omega),GE (by simp only[AD];omega)];rfl
 |p::rest,pre,hp=>by
  have hl:pre.length+2≤L.length:=by rw[←hp];simp[Sw]
  have e1:getI L (pre.length:Int)=some p.1:=BY (rest:=p.2::Sw rest) hp
  have e2:getI L ((pre.length:Int)+1)=some p.2:=by
   have:=BY (pre:=pre++[p.1]) (rest:=Sw rest) (x:=p.2) (l:=L) (by rw[←hp];simp[Sw])
   simpa using this
  have ih:=ac n L hL rest (pre++[p.1,p.2]) (by rw[←hp];simp[Sw])
  rw[Ae,BK (a:=(pre.length:Int)) (b:=1) (by omega) (by omega),R5 (by simp only[AD];omega),BK (a:=(pre.length:Int)) (b:=2) (by omega) (by omega)]
  simp only[if_true,e1,e2,A6,Yv]
  have e3:((pre.length:Int)+2)=(((pre++[p.1,p.2]).length:Nat):Int):=by simp
  rw[e3,ih]
  simp only[isR,List.any_cons]
  cases decide (p.1≤n∧n≤p.2)<;>simp
theorem ae (n:Int) (L:List A8) (hL:L.length≤4000000):∀(rest:List (Int×Int)) (pre:List A8),pre++rest.map (fun p=>A8.mk p.1 p.2)=L→∃k,AW L pre.length n=some (k,n)∧UV k 0=isR n rest
 | [],pre,hp=>by
  refine⟨-1, ?_,rfl⟩
  rw[AW,EO (by simpa using hp)];rfl
 |p::rest,pre,hp=>by
  obtain⟨k,h1,h2⟩:=ae n L hL rest (pre++[A8.mk p.1 p.2]) (by rw[←hp];simp)
  have hp':pre++A8.mk p.1 p.2::rest.map (fun p=>A8.mk p.1 p.2)=L:=by rw[←hp];rfl
  rw[AW,DD hp',BY hp',Ck hp' (by rw[B4];omega)]
  simp only[if_true,A6,QC,zt,isR,List.any_cons]
  cases hd:decide (p.1≤n∧n≤p.2)with
  |true=>exact⟨pre.length,by simp,by rw[RW (by omega)];rfl⟩
  |false=>exact⟨k,by simpa using h1,by rw[h2];rfl⟩
theorem eP (n:Int) (l:List (Int×Int)) (hl:l.length≤1000):Kb n (l.map fun p=>A8.mk p.1 p.2)=some (isR n l):=by
 obtain⟨k,h1,h2⟩:=ae n _ (by simp;omega) l [] rfl
 rw[Kb,C1,CV]
 have h1':AW (l.map fun p=>A8.mk p.1 p.2) 0 n=some (k,n):=h1
 rw[h1']
 simp only[A6,h2]
theorem ja (n:Int) (l:List (Int×Int)) (hl:l.length≤1000):E8 n (Sw l)=some (isR n l):=by
 rw[E8]
 exact ac n _ (by rw[vI];omega) l [] rfl
def eQ : List (Int×Int):=[(65,90),(95,95),(97,122),(192,214),(216,246),(248,767),(880,893),(895,8191),(8204,8205),(8304,8591),(11264,12271),(12289,55295),(63744,64975),(65008,65533),(65536,983039)]
def pH : List (Int×Int):=[(45,46),(48,57),(183,183),(768,879),(8255,8256)]
def si : List (Int×Int):=[(9,10),(13,13),(32,55295),(57344,65533),(65536,1114111)]
def VL (n:Int):Bool:=isR n eQ
def pI (n:Int):Bool:=VL n||isR n pH
theorem eR (n:Int):DV n=some (VL n):=by
 have e:=ja n eQ (by decide)
 simp only[eQ,Sw]at e
 rw[DV,e];rfl
theorem eS (n:Int):JB n=some (VL n):=by
 have e:=eP n eQ (by decide)
 simp only[eQ,List.map_cons,List.map_nil]at e
 rw[JB,e];rfl
theorem vJ (n:Int):EH n=some (pI n):=by
 have e:=ja n pH (by decide)
 simp only[pH,Sw]at e
 rw[EH,eR,e]
 simp only[A6,pI]
 cases VL n<;>rfl
theorem vK (n:Int):Kw n=some (pI n):=by
 have e:=eP n pH (by decide)
 simp only[pH,List.map_cons,List.map_nil]at e
 rw[Kw,eS,e]
 simp only[A6,pI]
 cases VL n<;>rfl
def pJ (n:Int):Bool:=isR n si
theorem vL (n:Int):OX n=some (pJ n):=by
 have e:=eP n si (by decide)
 simp only[si,List.map_cons,List.map_nil]at e
 rw[OX,e];rfl
theorem vM (n:Int):Ik n=some (pJ n):=by
 have hb:pJ n=(decide (n=9)||(decide (n=10)||(decide (n=13)||(decide (32≤n∧n≤55295)||(decide (57344≤n∧n≤65533)||decide (65536≤n∧n≤1114111)))))):=by
  rw[Bool.eq_iff_iff]
  simp[pJ,isR,si]
  omega
 have e (m:Int):Af n m=decide (n=m):=by
  by_cases h:n=m
  ·rw[U0 h];simp[h]
  ·rw[Og h];simp[h]
 rw[Ik,hb]
 simp only[e,Yv,A6]
 cases decide (n=9)<;>cases decide (n=10)<;>cases decide (n=13)<;>cases decide (32≤n∧n≤55295)<;>cases decide (57344≤n∧n≤65533)<;>simp
theorem A3R {s:ByteArray} {i:Nat} (h:i<s.size):(sg s i).2.2=true→∃k,(sg s i).2.1=((i+k:Nat):Int)∧1≤k∧i+k≤s.size∧((k=1∧(sg s i).1=UH s i)∨∀j,i≤j→j<i+k→128≤UH s j):=by
 obtain⟨b1,b2,b3⟩:=eO h
 unfold sg
 split
 ·intro h;cases h
 ·intro _
  refine⟨(Utf8.decode s i).2,rfl,b2,b3, ?_⟩
  rename_i hne
  have h0:=eN s i
  simp only
  rw[Lib.decode_at]at hne ⊢
  simp only[show(s.get! i).toNat=UH s i from rfl,show(s.get! (i+1)).toNat=UH s (i+1)from rfl,show(s.get! (i+2)).toNat=UH s (i+2)from rfl,show(s.get! (i+3)).toNat=UH s (i+3)from rfl]at hne ⊢
  revert hne
  unfold Lib.decodeN
  by_cases c0:UH s i<128
  ·simp only[if_pos c0];intro _;left;simp
  ·simp only[if_neg c0]
   have hj:∀j,j=i∨j=i+1∨j=i+2∨j=i+3→(j=i+1→128≤UH s (i+1))→(j=i+2→128≤UH s (i+2))→(j=i+3→128≤UH s (i+3))→128≤UH s j:=by
    rintro j (rfl|rfl|rfl|rfl) a b c
    ·omega
    ·exact a rfl
    ·exact b rfl
    ·exact c rfl
   repeat' split
   all_goals intro hne
   all_goals first
    |(exfalso;exact hne ⟨rfl,Nat.le_refl _⟩)
    |(refine .inr fun j h1 h2=>hj j (by omega) (fun _=>by omega) (fun _=>by omega) (fun _=>by omega))
def zw (s:ByteArray):Bool:=decide ((1:Int)≤Ag s∧Ag s≤16)
theorem eT (s:ByteArray) (hs:s.size≤4000000):∀(m i:Nat),i≤s.size→s.size-i≤m→∃b,Ab s i=some b∧D1 s i=some (b&&zw s)∧(b=true→∀j,i≤j→j<s.size→UH s j≠58)
 |0,i,h,hm=>⟨true,by rw[Ab,GE (by simp only[Ag];omega)];rfl,by rw[D1,GE (by simp only[Ag];omega),zt];rfl,fun _ j h1 h2=>by omega⟩
 |m+1,i,h,hm=>by
  by_cases hi:i<s.size
  ·rw[Ab,D1,R5 (by simp only[Ag];omega),sf hi hs,se hi hs]
   simp only[if_true,A6,eR,eS,vJ,vK]
   cases hok:(sg s i).2.2 with
   |false=>exact⟨false,by simp,by simp,by simp⟩
   |true=>
    obtain⟨k,e1,e2,e3,e4⟩:=A3R hi hok
    obtain⟨b,f1,f2,f3⟩:=eT s hs m (i+k) e3 (by omega)
    rw[e1]
    simp only[if_true,f1,f2]
    by_cases hp:pI (sg s i).1=true
    ·have hc:b=true→∀j,i≤j→j<s.size→UH s j≠58:=fun hb j h1 h2 h3=>by
      by_cases hj:j<i+k
      ·rcases e4 with ⟨r1,r2⟩|r
       ·have:j=i:=by omega
        subst this
        rw[r2,h3]at hp
        revert hp;decide
       ·have:=r j h1 hj;omega
      ·exact f3 hb j (by omega) h2 h3
     by_cases h0:Af (i:Int) 0=true
     ·by_cases hst:VL (sg s i).1=true
      ·exact⟨b,by simp[h0,hst,hp],by simp[h0,hst,hp],hc⟩
      ·exact⟨false,by simp[h0,hst],by simp[h0,hst],by simp⟩
     ·exact⟨b,by simp[h0,hp],by simp[h0,hp],hc⟩
    ·refine⟨false, ?_, ?_,by simp⟩
     ·by_cases h0:Af (i:Int) 0=true<;>by_cases hst:VL (sg s i).1=true<;>simp[h0,hst,hp]
     ·by_cases h0:Af (i:Int) 0=true<;>by_cases hst:VL (sg s i).1=true<;>simp[h0,hst,hp]
  ·exact⟨true,by rw[Ab,GE (by simp only[Ag];omega)];rfl,by rw[D1,GE (by simp only[Ag];omega),zt];rfl,fun _ j h1 h2=>by omega⟩
def Kl (s:ByteArray):Bool:=(BQ s).getD false
theorem NL (s:ByteArray) (hs:s.size≤4000000):BQ s=some (Kl s)∧BR s=some (Kl s)∧(Kl s=true→1≤s.size∧∀j,j<s.size→UH s j≠58):=by
 obtain⟨b,h1,h2,h3⟩:=eT s hs s.size 0 (Nat.zero_le _) (by omega)
 have e1:BQ s=some (b&&zw s):=by
  rw[BQ,Yv]
  simp only[A6]
  have h1':Ab s 0=some b:=h1
  have:zw s=decide ((1:Int)≤Ag s∧Ag s≤16):=rfl
  rw[←this,h1']
  cases zw s<;>cases b<;>rfl
 have e2:Kl s=(b&&zw s):=by rw[Kl,e1];rfl
 refine⟨by rw[e1,e2],by rw[BR,e2];exact h2,fun h=> ?_⟩
 rw[e2,Bool.and_eq_true]at h
 refine⟨?_,fun j hj=>h3 h.1 j (Nat.zero_le _) hj⟩
 obtain⟨t1,_⟩:=of_decide_eq_true h.2
 simp only[Ag]at t1
 omega
theorem eU (s:ByteArray) (hs:s.size≤1500):∀(m i:Nat),i≤s.size→s.size-i≤m→∃b,BT s i=some b∧D0 s i=some b
 |0,i,h,hm=>⟨true,by rw[BT,GE (by simp only[Ag];omega),VH (by simp only[Ag];omega)];rfl,by rw[D0,GE (by simp only[Ag];omega)];rfl⟩
 |m+1,i,h,hm=>by
  by_cases hi:i<s.size
  ·rw[BT,D0,R5 (by simp only[Ag];omega),sf hi (by omega),se hi (by omega)]
   simp only[if_true,A6,vM,vL]
   cases hok:(sg s i).2.2 with
   |false=>exact⟨false,by simp,by simp⟩
   |true=>
    obtain⟨k,e1,e2,e3,e4⟩:=A3R hi hok
    obtain⟨b,f1,f2⟩:=eU s hs m (i+k) e3 (by omega)
    rw[e1]
    simp only[if_true,f1,f2]
    cases pJ (sg s i).1
    ·exact⟨false,by simp,by simp⟩
    ·exact⟨b,by simp,by simp⟩
  ·exact⟨true,by rw[BT,GE (by simp only[Ag];omega),VH (by simp only[Ag];omega)];rfl,by rw[D0,GE (by simp only[Ag];omega)];rfl⟩
theorem zx (s:ByteArray) (hs:s.size≤4000000):∃b,BG s=some b∧D8 s=some b:=by
 rw[BG,D8]
 by_cases h:s.size≤600
 ·obtain⟨b,h1,h2⟩:=eU s (by omega) s.size 0 (Nat.zero_le _) (by omega)
  have h1':Fy s=some b:=by rw[Fy];exact h1
  have h2':JA s=some b:=by rw[JA];exact h2
  rw[VH (by simp only[Ag];omega)]
  exact⟨b,by simp[h1',A6],by simp[h2',A6]⟩
 ·rw[aT (by simp only[Ag];omega)]
  exact⟨false,rfl,rfl⟩
end TT
