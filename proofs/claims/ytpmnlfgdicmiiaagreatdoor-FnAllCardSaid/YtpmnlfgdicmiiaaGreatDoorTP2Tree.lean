import Derived.Test.YtpmnlfgdicmiiaaGreatDoorTP2Has
import Derived.Test.YtpmnlfgdicmiiaaGreatDoorTP0
import Derived.Test.YtpmnlfgdicmiiaaGreatDoorTP1
set_option linter.unusedVariables false
set_option linter.unusedSimpArgs false
namespace TT
open Go
def Sx (s:ByteArray):Bool:=(BG s).getD false
theorem Xc (s:ByteArray) (hs:s.size≤4000000):BG s=some (Sx s)∧D8 s=some (Sx s):=by
 obtain⟨b,h1,h2⟩:=zx s hs
 have e:Sx s=b:=by rw[Sx,h1];rfl
 exact⟨by rw[h1,e],by rw[h2,e]⟩
theorem OG (x y:ByteArray):neS x y= !D5 x y:=Bool.eq_iff_iff.2 Iff.rfl
theorem Vk (x y:Int):neI x y= !Af x y:=Bool.eq_iff_iff.2 Iff.rfl
theorem A2v (x y:Bool):neB x y= !eqB x y:=Bool.eq_iff_iff.2 Iff.rfl
theorem A2w (x y:Int):UV x y= !HC x y:=by
 rw[UV,HC,Bool.eq_iff_iff];simp
theorem A2x (x y:Int):SH x y= !U1 x y:=by
 rw[SH,U1,Bool.eq_iff_iff];simp
theorem sj (s:ByteArray) (hs:s.size≤4000000):∃b,Ij s=some b∧G2 s ⟨#[120,109,108]⟩=some b:=by
 have e3:Ag (⟨#[120,109,108]⟩:ByteArray)=3:=rfl
 rw[Ij,G2,CX,e3]
 by_cases h:3≤s.size
 ·have e:TC s 0 3=some (s.extract 0 3):=by
   unfold TC
   rw[if_pos ⟨by omega,by omega,by omega⟩];rfl
  rw[RW (by simp only[Ag];omega)]
  simp only[if_true,e,A6]
  exact⟨_,rfl,rfl⟩
 ·rw[Tz (by simp only[Ag];omega)]
  exact⟨false,rfl,rfl⟩
def bM (s:ByteArray):Bool:=(DW s).getD false
theorem jb (s:ByteArray) (hs:s.size≤4000000):DW s=some (bM s)∧Im s=some (bM s):=by
 obtain⟨b,h1,h2⟩:=sj s hs
 obtain⟨p1,p2,_⟩:=NL s hs
 have h:∃c,DW s=some c∧Im s=some c:=by
  rw[DW,Im,p1,p2,h1,h2]
  simp only[A6]
  cases D5 s ⟨#[]⟩<;>cases Kl s<;>exact⟨_,rfl,rfl⟩
 obtain⟨c,h3,h4⟩:=h
 have e:bM s=c:=by rw[bM,h3];rfl
 exact⟨by rw[h3,e],by rw[h4,e]⟩
def mK (u p:ByteArray):Bool:=Sx u&&(U1 (Ag u) 40&&(!D5 u ⟨#[]⟩||D5 p ⟨#[]⟩))
theorem eX (u p:ByteArray) (hu:u.size≤4000000):Kc u p=some (mK u p):=by
 rw[Kc,(Xc u hu).2,mK]
 simp only[A6,OG]
 cases Sx u<;>cases U1 (Ag u) 40<;>cases D5 u ⟨#[]⟩<;>rfl
def pL (d:A1):Bool:=bM d.Pre&&mK d.Uri d.Pre
theorem vN (d:A1) (hs:d.sz≤4000000):OY d=some (pL d):=by
 rw[A1.sz_eq]at hs
 rw[OY,(jb d.Pre (by omega)).2,eX _ _ (by omega),pL]
 simp only[A6]
 cases bM d.Pre<;>rfl
theorem vO (d:A1) (hs:d.sz≤4000000):Il d=some (pL d):=by
 rw[A1.sz_eq]at hs
 obtain⟨b,h1,h2⟩:=sj d.Pre (by omega)
 obtain⟨p1,p2,_⟩:=NL d.Pre (by omega)
 have e:bM d.Pre=(D5 d.Pre ⟨#[]⟩||(Kl d.Pre&& !b)):=by
  have:=(jb d.Pre (by omega)).1
  rw[DW,p1,h1]at this
  simp only[A6]at this
  revert this
  cases D5 d.Pre ⟨#[]⟩<;>cases Kl d.Pre<;>intro this<;>simp_all
 rw[Il,FN,p1,h1,(Xc d.Uri (by omega)).1,pL,e,mK]
 simp only[A6,OG]
 cases D5 d.Pre ⟨#[]⟩<;>cases Kl d.Pre<;>cases b<;>cases D5 d.Uri ⟨#[]⟩<;>cases Sx d.Uri<;>cases U1 (Ag d.Uri) 40<;>rfl
theorem bo {α:Type} {l pre rest:List α} {x y:α} (h:(pre++[y])++x::rest=l) (hl:l.length≤4000000):SH ((pre++[y]).length:Int) 0=true∧getI l (CH ((pre++[y]).length:Int) 1)=some y:=by
 have hlen:(pre++[y]).length=pre.length+1:=by simp
 have hb:pre.length+1≤l.length:=by rw[←h];simp
 refine⟨RX (by rw[hlen];omega), ?_⟩
 have e:CH ((pre++[y]).length:Int) 1=(pre.length:Int):=by
  rw[DC (by omega) (by omega),hlen];omega
 rw[e]
 exact BY (rest:=x::rest) (by rw[←h];simp)
theorem bp {α:Type} (pre:List α):pre=[]∨∃p y,pre=p++[y]:=by
 rcases List.eq_nil_or_concat pre with h|⟨p,y,h⟩
 ·exact .inl h
 ·exact .inr ⟨p,y,by rw[h,List.concat_eq_append]⟩
theorem eY (l:List A1) (hl:l.length≤4000000) (hs:∀d∈l,d.sz≤4000000):∀(rest pre:List A1),pre++rest=l→∃b,BU l pre.length=some b∧Dh l pre.length=some b
 | [],pre,hp=>⟨_,by rw[BU,EO hp];rfl,by rw[Dh,EO hp];rfl⟩
 |x::rest,pre,hp=>by
  have hx:x.sz≤4000000:=hs x (by rw[←hp];simp)
  obtain⟨b,h1,h2⟩:=eY l hl hs rest (pre++[x]) (Cl hp)
  rw[BU,Dh,DD hp,BY hp,Ck hp (by rw[B4];omega)]
  simp only[if_true,A6,vO x hx,vN x hx]
  cases pL x with
  |false=>exact⟨false,rfl,rfl⟩
  |true=>
   simp only[if_true]
   rcases bp pre with rfl|⟨p,y,rfl⟩
   ·have e:SH ((([]:List A1).length:Nat):Int) 0=false:=rfl
    rw[e]
    exact⟨b,h1,h2⟩
   ·obtain⟨e1,e2⟩:=bo hp hl
    rw[e1,e2]
    simp only[if_true,A6]
    cases geS y.Pre x.Pre with
    |true=>exact⟨false,rfl,rfl⟩
    |false=>exact⟨b,h1,h2⟩
def VM (l:List A1):Bool:=(Cz l).getD false
theorem A2y (l:List A1) (hl:l.length≤4000000) (hs:∀d∈l,d.sz≤4000000):Cz l=some (VM l)∧QD l=some (VM l):=by
 obtain⟨b,h1,h2⟩:=eY l hl hs l [] rfl
 have h1':Cz l=some b:=h1
 have e:VM l=b:=by rw[VM,h1'];rfl
 exact⟨by rw[h1',e],by rw[e];exact h2⟩
def pM (a:A3):Bool:=(In a).getD false
theorem A01 (a:A3) (hs:a.sz≤4000000):Eu a=some (pM a)∧In a=some (pM a):=by
 rw[A3.sz_eq]at hs
 have h:∃c,Eu a=some c∧In a=some c:=by
  rw[Eu,Dz,In,(jb a.Pre (by omega)).1,(jb a.Pre (by omega)).2,eX _ _ (by omega),(NL a.Local (by omega)).1,(NL a.Local (by omega)).2.1,(Xc a.Val (by omega)).1,(Xc a.Val (by omega)).2,(Xc a.Uri (by omega)).1,mK]
  simp only[A6,OG,A2v]
  cases bM a.Pre<;>cases D5 a.Pre ⟨#[]⟩<;>cases D5 a.Uri ⟨#[]⟩<;>cases Kl a.Local<;>cases D5 a.Local ⟨#[120,109,108,110,115]⟩<;>cases Sx a.Val<;>cases Sx a.Uri<;>cases U1 (Ag a.Uri) 40<;>exact⟨_,rfl,rfl⟩
 obtain⟨c,h3,h4⟩:=h
 have e:pM a=c:=by rw[pM,h4];rfl
 exact⟨by rw[h3,e],by rw[h4,e]⟩
theorem A02 (a b:A3):∃c,G3 a b=some c∧HE a b=some (!UV c 0):=by
 rw[G3,strings_Compare,strings_Compare,HE]
 simp only[A6,Vk,A00,A2w,Bool.not_not]
 have h1:=zz a.Uri b.Uri
 have h2:=A00 a.Uri b.Uri
 cases he:D5 a.Uri b.Uri with
 |false=>
  refine⟨_,rfl, ?_⟩
  rw[h1]
  cases ltS a.Uri b.Uri<;>rfl
 |true=>
  refine⟨_,rfl, ?_⟩
  rw[zz]
  have:ltS a.Uri b.Uri=false:=by
   rw[←h1,GE]
   rw[he]at h2
   have:=Yt.1 h2
   omega
  rw[this]
  rfl
theorem eZ (n:A0) (hl:n.Attrs.length≤4000000) (hs:∀d∈n.Attrs,d.sz≤4000000):∀(rest pre:List A3),pre++rest=n.Attrs→∃b,BH pre.length n=some b∧Di n.Attrs pre.length=some (b&&U1 (AD n.Attrs) 5)
 | [],pre,hp=>⟨true,by rw[BH,EO hp];rfl,by rw[Di,EO hp];rfl⟩
 |x::rest,pre,hp=>by
  have hx:x.sz≤4000000:=hs x (by rw[←hp];simp)
  obtain⟨b,h1,h2⟩:=eZ n hl hs rest (pre++[x]) (Cl hp)
  rw[BH,Di,DD hp,BY hp,Ck hp (by rw[B4];omega)]
  simp only[if_true,A6,(A01 x hx).1,(A01 x hx).2]
  cases pM x with
  |false=>exact⟨false,rfl,rfl⟩
  |true=>
   simp only[if_true]
   rcases bp pre with rfl|⟨p,y,rfl⟩
   ·have e:SH ((([]:List A3).length:Nat):Int) 0=false:=rfl
    rw[e]
    exact⟨b,h1,h2⟩
   ·obtain⟨e1,e2⟩:=bo hp hl
    obtain⟨c,e3,e4⟩:=A02 y x
    rw[e1,e2]
    simp only[if_true,A6,e3,e4]
    cases UV c 0 with
    |true=>exact⟨false,rfl,rfl⟩
    |false=>exact⟨b,h1,h2⟩
theorem vP (n:A0) (hl:n.Attrs.length≤4000000) (hs:∀d∈n.Attrs,d.sz≤4000000):∃b,DJ n=some b∧MW n.Attrs=some (b&&U1 (AD n.Attrs) 5):=by
 obtain⟨b,h1,h2⟩:=eZ n hl hs n.Attrs [] rfl
 exact⟨b,by rw[DJ];exact h1,by rw[MW];exact h2⟩
end TT
namespace TT
open Go
theorem A5V {α:Type} (l:List α):SH (AD l) 0= !Af (AD l) 0:=by
 cases l with
 |nil=>rfl
 |cons x l=>rw[RX (by simp only[AD,List.length_cons];omega),Og (by simp only[AD,List.length_cons];omega)];rfl
theorem rq (s:ByteArray) (hs:s.size≤4000000):∃b,G0 s ⟨#[45]⟩=some b∧(if(D5 s ⟨#[]⟩)then some true else SZ s (CH (Ag s) 1)>>=fun x4=>some (neI x4 45))=some (!b):=by
 have e1:Ag (⟨#[45]⟩:ByteArray)=1:=rfl
 rw[G0,CW,e1]
 by_cases h:1≤s.size
 ·have e0:D5 s ⟨#[]⟩=false:=by
   cases he:D5 s ⟨#[]⟩with
   |false=>rfl
   |true=>rw[TX.1 he]at h;exact absurd h (by decide)
  have e2:CH (Ag s) 1=((s.size-1:Nat):Int):=by rw[DC (by simp only[Ag];omega) (by simp only[Ag];omega)];simp only[Ag];omega
  have e3:TC s ((s.size-1:Nat):Int) (Ag s)=some (s.extract (s.size-1) s.size):=by
   show TC s ((s.size-1:Nat):Int) ((s.size:Nat):Int)=_
   unfold TC
   rw[if_pos ⟨by omega,by omega,by omega⟩]
   congr 1
  have hd:s.data.toList.drop (s.size-1)=[s.data.toList[s.size-1]'(by rw[Td];omega)]:=by
   rw[List.drop_eq_getElem_cons (by rw[Td];omega)]
   congr 1
   exact List.drop_eq_nil_of_le (by rw[Td];omega)
  have e4:(s.extract (s.size-1) s.size).toList=[s.data.toList[s.size-1]'(by rw[Td];omega)]:=by
   rw[pK,hd]
   have:s.size-(s.size-1)=1:=by omega
   rw[this];rfl
  have e5:UH s (s.size-1)=(s.data.toList[s.size-1]'(by rw[Td];omega)).toNat:=by
   show(s.data[s.size-1]!).toNat=_
   rw[←Array.getElem!_toList,getElem!_pos s.data.toList (s.size-1) (by rw[Td];omega)]
  rw[RW (by simp only[Ag];omega),e0,e2]
  simp only[if_true,e3,A6,Bool.false_eq_true,if_false,Xb (i:=((s.size-1:Nat):Int)) rfl (show s.size-1<s.size by omega),Vk]
  refine⟨_,rfl, ?_⟩
  congr 2
  rw[e5,D5,e4,Bool.eq_iff_iff,Yt,beq_iff_eq,show(⟨#[45]⟩:ByteArray).toList=[45]from by rw[Lib.toList_data]]
  constructor
  ·intro hh
   have:s.data.toList[s.size-1]'(by rw[Td];omega)=45:=UInt8.toNat_inj.1 (by have:((45:UInt8).toNat:Int)=45:=rfl;omega)
   rw[this]
  ·intro hh
   have:=(List.cons.inj hh).1
   rw[this];rfl
 ·have hz:s.size=0:=by omega
  have e0:D5 s ⟨#[]⟩=true:=TX.2 (by
   apply toList_inj
   rw[Lib.toList_data,Lib.toList_data]
   have:=Td s
   rw[hz]at this
   rw[List.eq_nil_of_length_eq_zero this])
  rw[Tz (by simp only[Ag];omega),e0]
  exact⟨false,rfl,rfl⟩
theorem vQ (n:Int):∃b,Fz n=some b∧JC n=some b:=by
 rw[Fz,JC]
 cases Af n 9<;>cases Af n 10<;>cases Af n 13<;>exact⟨_,rfl,rfl⟩
theorem vR (s:ByteArray) (hs:s.size≤4000000):∃b,(if(D5 s ⟨#[]⟩)then some true else SZ s 0>>=fun x5=>Fz (wr .i64 x5)>>=fun r22=>some (!r22))=some b∧(if(D5 s ⟨#[]⟩)then some true else SZ s 0>>=fun x=>JC (wr .i64 x)>>=fun r5=>some (!r5))=some b:=by
 cases he:D5 s ⟨#[]⟩with
 |true=>exact⟨true,rfl,rfl⟩
 |false=>
  have hz:0<s.size:=by
   rcases Nat.eq_zero_or_pos s.size with h|h
   ·have:s=⟨#[]⟩:=by
     apply toList_inj
     rw[Lib.toList_data,Lib.toList_data]
     have:=Td s
     rw[h]at this
     rw[List.eq_nil_of_length_eq_zero this]
    rw[this]at he
    rw[Sq]at he
    cases he
   ·exact h
  obtain⟨b,h1,h2⟩:=vQ (wr .i64 ((UH s 0:Nat):Int))
  have e:SZ s 0=some ((UH s 0:Nat):Int):=Xb (i:=0) (k:=0) rfl hz
  simp only[Bool.false_eq_true,if_false,e,A6,h1,h2]
  exact⟨_,rfl,rfl⟩
def jc (n:A0):Bool:=(G1 n).getD false
theorem A5W (n:A0) (hs:n.sz≤4000000) (hk:Af n.Kind 1=false):Ce n=some (jc n)∧G1 n=some (jc n):=by
 rw[A0.sz_eq]at hs
 have h:∃c,Ce n=some c∧G1 n=some c:=by
  obtain⟨b1,s1,s2⟩:=rq n.Text (by omega)
  obtain⟨b2,f1,f2⟩:=vR n.Text (by omega)
  have c1:=mJ n.Text ⟨#[45,45]⟩ (by decide) (by omega) (by decide)
  have c2:=mJ n.Text ⟨#[13]⟩ (by decide) (by omega) (by decide)
  have c3:=mJ n.Text ⟨#[63,62]⟩ (by decide) (by omega) (by decide)
  have x1:=A2u n.Local (by omega)
  have p1:=NL n.Local (by omega)
  have t1:=Xc n.Text (by omega)
  rw[Ce,G1,FO,RN,RO,HG,hk,s1,s2,f1,f2,c1.1,c1.2,c2.1,c2.2,c3.1,c3.2,x1.1,x1.2,p1.1,p1.2.1,t1.1,t1.2]
  simp only[A6,OG,Vk,A5V,Bool.false_eq_true,if_false]
  have k23:Af n.Kind 2=true→Af n.Kind 3=false∧Af n.Kind 4=false:=fun h=>by
   have:=Yt.1 h;exact⟨Og (by omega),Og (by omega)⟩
  have k34:Af n.Kind 3=true→Af n.Kind 4=false:=fun h=>by
   have:=Yt.1 h;exact Og (by omega)
  cases D5 n.Pre ⟨#[]⟩<;>cases D5 n.Uri ⟨#[]⟩<;>cases Af (AD n.Decls) 0<;>cases Af (AD n.Attrs) 0<;>cases Af (AD n.Kids) 0
  all_goals try (cases h2:Af n.Kind 2<;>cases h3:Af n.Kind 3<;>cases h4:Af n.Kind 4<;>exact⟨false,rfl,rfl⟩)
  cases h2:Af n.Kind 2 with
  |true=>
   obtain⟨h3,h4⟩:=k23 h2
   rw[h4]
   cases D5 n.Local ⟨#[]⟩<;>cases D5 n.Text ⟨#[]⟩<;>cases Sx n.Text<;>exact⟨_,rfl,rfl⟩
  |false=>
   cases h3:Af n.Kind 3 with
   |true=>
    rw[k34 h3]
    cases D5 n.Local ⟨#[]⟩<;>cases Sx n.Text<;>cases Gn n.Text ⟨#[45,45]⟩<;>cases Gn n.Text ⟨#[13]⟩<;>cases b1<;>exact⟨_,rfl,rfl⟩
   |false=>
    cases h4:Af n.Kind 4 with
    |true=>cases D5 n.Local ⟨#[]⟩<;>cases Kl n.Local<;>cases WD n.Local ⟨#[120,109,108]⟩<;>cases Sx n.Text<;>cases Gn n.Text ⟨#[63,62]⟩<;>cases Gn n.Text ⟨#[13]⟩<;>exact⟨_,rfl,rfl⟩
    |false=>cases D5 n.Local ⟨#[]⟩<;>exact⟨_,rfl,rfl⟩
 obtain⟨c,h3,h4⟩:=h
 have e:jc n=c:=by rw[jc,h4];rfl
 exact⟨by rw[h3,e],by rw[h4,e]⟩
end TT
namespace TT
open Go
def elB (n:A0):Bool:=(Ce n).getD false
theorem A6w (n:A0) (hs:n.sz≤4000000) (hk:Af n.Kind 1=true):Ce n=some (elB n)∧∀(d:Int) (b:Bool),UV d 7=false→EJ n (AV d 1)=some b→Bc n d=some (elB n&&b):=by
 have hsz:=hs
 rw[A0.sz_eq]at hs
 obtain⟨ab,a1,a2⟩:=vP n (by omega) (fun x hx=>by have:=Dq A3.sz hx;omega)
 obtain⟨d1,d2⟩:=A2y n.Decls (by omega) (fun x hx=>by have:=Dq A1.sz hx;omega)
 have e1:Ce n=some (bM n.Pre&&(Kl n.Local&&(D5 n.Text ⟨#[]⟩&&(mK n.Uri n.Pre&&(VM n.Decls&&(ab&&U1 (AD n.Attrs) 5)))))):=by
  rw[Ce,hk,(jb n.Pre (by omega)).1,(NL n.Local (by omega)).1,(Xc n.Uri (by omega)).1,d1,a1,mK]
  simp only[A6,OG,if_true,A2x]
  cases bM n.Pre<;>cases Kl n.Local<;>cases D5 n.Text ⟨#[]⟩<;>cases D5 n.Pre ⟨#[]⟩<;>cases D5 n.Uri ⟨#[]⟩<;>cases Sx n.Uri<;>cases U1 (Ag n.Uri) 40<;>cases VM n.Decls<;>cases U1 (AD n.Attrs) 5<;>cases ab<;>rfl
 have e2:elB n=(bM n.Pre&&(Kl n.Local&&(D5 n.Text ⟨#[]⟩&&(mK n.Uri n.Pre&&(VM n.Decls&&(ab&&U1 (AD n.Attrs) 5)))))):=by rw[elB,e1];rfl
 refine⟨by rw[e1,e2],fun d b hd hb=> ?_⟩
 rw[Bc,Vk,hk,hd,(jb n.Pre (by omega)).2,eX _ _ (by omega),(NL n.Local (by omega)).2.1,d2,a2,hb,e2]
 simp only[A6,OG,Bool.not_true,Bool.false_eq_true,if_false]
 cases bM n.Pre<;>cases Kl n.Local<;>cases D5 n.Text ⟨#[]⟩<;>cases mK n.Uri n.Pre<;>cases VM n.Decls<;>cases U1 (AD n.Attrs) 5<;>cases ab<;>rfl
def pN (x:A0) (deep:Int):Option Bool:=Ce x>>=fun r2=>if r2 then(if Af x.Kind 1 then(if Af deep 7 then some false else Az x.Kids (AV deep 1))else some true)else some false
def isT (x:A0):Bool:=Af x.Kind 2
def sm (pre:List A0):Bool:=match pre.getLast? with
 |some y=>isT y
 |none=>false
def VN : Bool→List A0→Bool
 |_,[]=>true
 |p,x::xs=> !(p&&isT x)&&VN (isT x) xs
theorem Vl (pre:List A0) (x:A0):sm (pre++[x])=isT x:=by simp[sm]
def pB (d:Int) (k:A0):Bool:=(Bc k d).getD false
theorem Zf (l:List A0) (hl:l.length≤4000000) (d:Int) (hk:∀k∈l,pN k d=some (pB d k)):∀(rest pre:List A0),pre++rest=l→Ax l d pre.length=some (VN (sm pre) rest&&rest.all (pB d))
 | [],pre,hp=>by rw[Ax,EO hp];rfl
 |x::rest,pre,hp=>by
  have ih:=Zf l hl d hk rest (pre++[x]) (Cl hp)
  have hx:=hk x (by rw[←hp];simp)
  rw[Vl]at ih
  rw[pN]at hx
  obtain⟨r2,h2,hx⟩:=Option.bind_eq_some_iff.1 hx
  have hj:r2=true→CS l d pre.length x=some (pB d x&&(VN (isT x) rest&&rest.all (pB d))):=fun hr=>by
   rw[hr]at hx
   rw[CS,Ck hp (by rw[B4];omega),ih]
   simp only[if_true]at hx
   revert hx
   cases Af x.Kind 1 with
   |false=>
    simp only[Bool.false_eq_true,if_false]
    intro hx
    rw[←Option.some.inj hx];rfl
   |true=>
    simp only[if_true]
    cases Af d 7 with
    |true=>simp only[if_true];intro hx;rw[←Option.some.inj hx];rfl
    |false=>
     simp only[Bool.false_eq_true,if_false]
     intro hx
     rw[hx]
     simp only[A6]
     cases pB d x<;>rfl
  rw[Ax,DD hp,BY hp]
  simp only[if_true,A6,h2]
  cases r2 with
  |false=>
   simp only[Bool.false_eq_true,if_false]at hx ⊢
   have:pB d x=false:=(Option.some.inj hx).symm
   simp only[List.all_cons,this,Bool.false_and,Bool.and_false]
  |true=>
   rw[hj rfl]
   simp only[if_true,VN,List.all_cons]
   show(if isT x=true then _ else _)=_
   cases hx2:isT x with
   |false=>simp only[Bool.false_eq_true,if_false,Bool.and_false,Bool.not_false,Bool.true_and];cases pB d x<;>simp
   |true=>
    simp only[if_true,Bool.and_true]
    rcases bp pre with rfl|⟨p,y,rfl⟩
    ·have e:SH ((([]:List A0).length:Nat):Int) 0=false:=rfl
     rw[e]
     simp only[Bool.false_eq_true,if_false]
     show _=some ((!(false)&&VN true rest)&&_)
     cases pB d x<;>simp
    ·obtain⟨e1,e2⟩:=bo hp hl
     rw[e1,e2,Vl]
     simp only[if_true,A6]
     show(if isT y=true then _ else _)=_
     cases isT y with
     |true=>simp
     |false=>simp only[Bool.false_eq_true,if_false];cases pB d x<;>simp
theorem pO (l:List A0) (hl:l.length≤4000000):∀(rest pre:List A0),pre++rest=l→Bk l pre.length=some (VN (sm pre) rest)
 | [],pre,hp=>by rw[Bk,EO hp];rfl
 |x::rest,pre,hp=>by
  have ih:=pO l hl rest (pre++[x]) (Cl hp)
  rw[Vl]at ih
  rw[Bk,DD hp,BY hp,Ck hp (by rw[B4];omega),ih]
  simp only[if_true,A6,VN]
  rcases bp pre with rfl|⟨p,y,rfl⟩
  ·have e:SH ((([]:List A0).length:Nat):Int) 0=false:=rfl
   rw[e];rfl
  ·obtain⟨e1,e2⟩:=bo hp hl
   rw[e1,e2,Vl]
   simp only[if_true,A6]
   show(if isT x=true then(if isT y=true then _ else _)else _)=_
   cases isT x<;>cases isT y<;>rfl
theorem pP (l:List A0) (hl:l.length≤4000000) (d:Int) (hk:∀k∈l,Bc k d=some (pB d k)):∀(rest pre:List A0),pre++rest=l→∃r,Ac l pre.length d=some (r,d)∧UV r 0= !rest.all (pB d)
 | [],pre,hp=>⟨-1,by rw[Ac,EO hp];rfl,rfl⟩
 |x::rest,pre,hp=>by
  obtain⟨r,h1,h2⟩:=pP l hl d hk rest (pre++[x]) (Cl hp)
  rw[Ac,DD hp,BY hp,Ck hp (by rw[B4];omega)]
  simp only[if_true,A6,List.all_cons,O8,hk x (by rw[←hp];simp)]
  cases pB d x with
  |true=>exact⟨r,h1,by rw[h2];rfl⟩
  |false=>exact⟨pre.length,rfl,by rw[RW (by omega)];rfl⟩
def Oh (d:Int) (l:List A0):Bool:=VN false l&&l.all (pB d)
theorem jd (n:A0) (hl:n.Kids.length≤4000000) (d:Int) (hk:∀k∈n.Kids,Bc k d=some (pB d k)):EJ n d=some (Oh d n.Kids):=by
 have h1:Hs n.Kids=some (VN false n.Kids):=by rw[Hs];exact pO n.Kids hl n.Kids [] rfl
 obtain⟨r,h2,h3⟩:=pP n.Kids hl d hk n.Kids [] rfl
 have h2':Ac n.Kids 0 d=some (r,d):=h2
 rw[EJ,h1,C2,CY,h2']
 simp only[A6,h3,Bool.not_not,Oh]
 cases VN false n.Kids<;>rfl
theorem Yw : ∀ n:A0,n.sz≤1048576→∀d:Nat,d≤7→Bc n d=some (pB d n)∧pN n d=some (pB d n):=by
 refine A0.ind' fun n ih hs d hd=> ?_
 have h:∃b,Bc n d=some b∧pN n d=some b:=by
  have hsz:=hs
  rw[A0.sz_eq]at hs
  cases hk:Af n.Kind 1 with
  |false=>
   obtain⟨l1,l2⟩:=A5W n (by omega) hk
   refine⟨jc n, ?_, ?_⟩
   ·rw[Bc,Vk,hk,l2];rfl
   ·rw[pN,l1,hk]
    cases jc n<;>rfl
  |true=>
   obtain⟨e1,e2⟩:=A6w n (by omega) hk
   by_cases h7:d=7
   ·subst h7
    refine⟨false, ?_, ?_⟩
    ·rw[Bc,Vk,hk];rfl
    ·rw[pN,e1,hk]
     have:Af ((7:Nat):Int) 7=true:=rfl
     rw[this]
     cases elB n<;>rfl
   ·have hadd:AV (d:Int) 1=((d+1:Nat):Int):=by rw[BK (by omega) (by omega)];omega
    have hkid:∀k∈n.Kids,Bc k ((d+1:Nat):Int)=some (pB ((d+1:Nat):Int) k)∧pN k ((d+1:Nat):Int)=some (pB ((d+1:Nat):Int) k):=fun k hk=>ih k hk (by have:=Dq A0.sz hk;omega) (d+1) (by omega)
    have k1:=jd n (by omega) _ fun k hk=>(hkid k hk).1
    have k2:Az n.Kids ((d+1:Nat):Int)=some (Oh ((d+1:Nat):Int) n.Kids):=by
     rw[Az]
     exact Zf n.Kids (by omega) _ (fun k hk=>(hkid k hk).2) n.Kids [] rfl
    refine⟨elB n&&Oh ((d+1:Nat):Int) n.Kids,e2 d _ (Tz (by omega)) (by rw[hadd];exact k1), ?_⟩
    rw[pN,e1,hk,Og (show(d:Int)≠7 by omega),hadd,k2]
    cases elB n<;>rfl
 obtain⟨b,h1,h2⟩:=h
 have e:pB d n=b:=by rw[pB,h1];rfl
 exact⟨by rw[h1,e],by rw[h2,e]⟩
theorem pQ (l:List A0) (hl:l.length≤4000000) (hs:∀k∈l,k.sz≤1048576) (d:Nat) (hd:d≤7):Az l d=some (Oh d l):=by
 rw[Az]
 exact Zf l hl _ (fun k hk=>(Yw k (hs k hk) d hd).2) l [] rfl
theorem Zg (n:A0) (hs:n.sz≤1048576) (d:Nat) (hd:d≤7):EJ n d=some (Oh d n.Kids):=by
 rw[A0.sz_eq]at hs
 exact jd n (by omega) _ fun k hk=>(Yw k (by have:=Dq A0.sz hk;omega) d hd).1
theorem pR (n:A0) (hl:n.Kids.length≤4000000) (hk:∀k∈n.Kids,∃c:Nat,Bj k=some (c:Int)∧E9 k=some (c:Int)∧c≤1+k.sz):∀(rest pre:List A0) (a:Nat),pre++rest=n.Kids→a+rest.length+szs A0.sz rest≤100000000→∃c:Nat,Ak a pre.length n=some (c:Int)∧Fl a n pre.length=some (c:Int)∧c≤a+rest.length+szs A0.sz rest
 | [],pre,a,hp,hb=>⟨a,by rw[Ak,EO hp];rfl,by rw[Fl,EO hp];rfl,by omega⟩
 |x::rest,pre,a,hp,hb=>by
  obtain⟨c,h1,h2,h3⟩:=hk x (by rw[←hp];simp)
  rw[Iv,List.length_cons]at hb
  obtain⟨q,g1,g2,g3⟩:=pR n hl hk rest (pre++[x]) (a+c) (Cl hp) (by omega)
  have e:AV (a:Int) (c:Int)=((a+c:Nat):Int):=by rw[BK (by omega) (by omega)];omega
  refine⟨q, ?_, ?_,by rw[Iv,List.length_cons];omega⟩
  ·rw[Ak,DD hp,BY hp,Ck hp (by rw[B4];omega)]
   simp only[if_true,A6,h1,e]
   exact g1
  ·rw[Fl,DD hp,BY hp,Ck hp (by rw[B4];omega)]
   simp only[if_true,A6,h2,e]
   exact g2
theorem A2z : ∀ n:A0,n.sz≤1048576→∃c:Nat,Bj n=some (c:Int)∧E9 n=some (c:Int)∧c≤1+n.sz:=by
 refine A0.ind' fun n ih hs=> ?_
 have hz:=A0.sz_eq n
 rw[hz]at hs
 obtain⟨c,h1,h2,h3⟩:=pR n (by omega) (fun k hk=>ih k hk (by have:=Dq A0.sz hk;omega)) n.Kids [] (1+n.Attrs.length) rfl (by omega)
 have e:AV 1 (AD n.Attrs)=((1+n.Attrs.length:Nat):Int):=by rw[BK (by simp only[AD];omega) (by simp only[AD];omega)];simp only[AD];omega
 exact⟨c,by rw[Bj,e];exact h1,by rw[E9,e];exact h2,by omega⟩
def ofK (k:Int) (l:List A0):Nat:=l.countP fun x=>Af x.Kind k
theorem VO (l:List A0) (k:Int) (hl:l.length≤4000000):∀(rest pre:List A0) (a:Nat),pre++rest=l→a+rest.length≤8000000→EK k a l pre.length=some ((a+ofK k rest:Nat):Int)
 | [],pre,a,hp,hb=>by rw[EK,EO hp];rfl
 |x::rest,pre,a,hp,hb=>by
  rw[List.length_cons]at hb
  rw[EK,DD hp,BY hp,Ck hp (by rw[B4];omega)]
  simp only[if_true,A6]
  cases hx:Af x.Kind k with
  |true=>
   have e:AV (a:Int) 1=((a+1:Nat):Int):=by rw[BK (by omega) (by omega)];omega
   rw[e,if_pos rfl,VO l k hl rest (pre++[x]) (a+1) (Cl hp) (by omega)]
   simp only[ofK,List.countP_cons,hx,if_true]
   congr 2;omega
  |false=>
   simp only[Bool.false_eq_true,if_false]
   rw[VO l k hl rest (pre++[x]) a (Cl hp) (by omega)]
   simp only[ofK,List.countP_cons,hx,Bool.false_eq_true,if_false,Nat.add_zero]
theorem Te (l:List A0) (k:Int) (hl:l.length≤4000000):Kx l k=some (ofK k l:Int):=by
 rw[Kx]
 have:=VO l k hl l [] 0 rfl (by omega)
 simpa using this
def pS (n:A0):Bool:=D5 n.Pre ⟨#[]⟩&&(D5 n.Local ⟨#[]⟩&&(D5 n.Uri ⟨#[]⟩&&(D5 n.Text ⟨#[]⟩&&(Af (AD n.Decls) 0&&Af (AD n.Attrs) 0))))
theorem je (n:A0) (hs:n.sz≤1048576):∀(rest pre:List A0) (a:Nat),pre++rest=n.Kids→a+rest.length≤8000000→Al a pre.length n=some (Af (ofK 2 rest:Int) 0&&(Af ((a+ofK 1 rest:Nat):Int) 1&&(pS n&&Oh 0 n.Kids)))
 | [],pre,a,hp,hb=>by
  have hk:=pQ n.Kids (by rw[A0.sz_eq]at hs;omega) (fun k hk=>by rw[A0.sz_eq]at hs;have:=Dq A0.sz hk;omega) 0 (by omega)
  have hk':Az n.Kids 0=some (Oh 0 n.Kids):=hk
  rw[Al,EO hp,hk',pS]
  simp only[Bool.false_eq_true,if_false,A6,ofK,List.countP_nil,Nat.add_zero]
  show _=some (true&&_)
  cases Af (a:Int) 1<;>cases D5 n.Pre ⟨#[]⟩<;>cases D5 n.Local ⟨#[]⟩<;>cases D5 n.Uri ⟨#[]⟩<;>cases D5 n.Text ⟨#[]⟩<;>cases Af (AD n.Decls) 0<;>cases Af (AD n.Attrs) 0<;>rfl
 |x::rest,pre,a,hp,hb=>by
  have hl:n.Kids.length≤4000000:=by rw[A0.sz_eq]at hs;omega
  rw[List.length_cons]at hb
  have hj:∀q:Nat,q+rest.length≤8000000→CT q pre.length n=some (!isT x&&(Af (ofK 2 rest:Int) 0&&(Af ((q+ofK 1 rest:Nat):Int) 1&&(pS n&&Oh 0 n.Kids)))):=fun q hq=>by
   rw[CT,BY hp,Ck hp (by rw[B4];omega),je n hs rest (pre++[x]) q (Cl hp) hq]
   simp only[A6]
   show(if isT x=true then _ else _)=_
   cases isT x<;>rfl
  have ht:Af ((ofK 2 (x::rest):Nat):Int) 0=(!isT x&&Af (ofK 2 rest:Int) 0):=by
   simp only[ofK,List.countP_cons]
   show Af ((_+(if isT x=true then 1 else 0):Nat):Int) 0=_
   cases isT x with
   |false=>rfl
   |true=>rw[Og (by simp only[if_true];omega)];rfl
  rw[Al,DD hp,BY hp,ht]
  simp only[if_true,A6]
  cases hx:Af x.Kind 1 with
  |true=>
   have e:AV (a:Int) 1=((a+1:Nat):Int):=by rw[BK (by omega) (by omega)];omega
   rw[if_pos rfl,e,hj (a+1) (by omega)]
   simp only[ofK,List.countP_cons,hx,if_true]
   rw[show a+1+List.countP (fun x=>Af x.Kind 1) rest=a+(List.countP (fun x=>Af x.Kind 1) rest+1) by omega,Bool.and_assoc]
  |false=>
   simp only[Bool.false_eq_true,if_false]
   rw[hj a (by omega)]
   simp only[ofK,List.countP_cons,hx,Bool.false_eq_true,if_false,Nat.add_zero,Bool.and_assoc]
def ed (n:A0):Bool:=(G4 n).getD false
theorem A03 (n:A0) (hs:n.sz≤1048576):EI n=some (ed n)∧G4 n=some (ed n):=by
 have h:∃c,EI n=some c∧G4 n=some c:=by
  obtain⟨c,h1,h2,h3⟩:=A2z n hs
  have hl:n.Kids.length≤4000000:=by rw[A0.sz_eq]at hs;omega
  rw[EI,G4,h1,h2]
  simp only[A6]
  cases SH (c:Int) 60 with
  |true=>exact⟨false,rfl,rfl⟩
  |false=>
   simp only[Bool.false_eq_true,if_false]
   cases neI n.Kind 0 with
   |true=>
    simp only[if_true]
    have h4:=(Yw n hs 0 (by omega)).1
    have h5:=pQ [n] (by simp) (fun k hk=>by rw[List.mem_singleton.1 hk];exact hs) 0 (by omega)
    have h5':Az [n] 0=some (Oh 0 [n]):=h5
    have h4':Bc n 0=some (pB 0 n):=h4
    rw[h4',h5']
    refine⟨_,rfl, ?_⟩
    simp only[A6,Oh,VN,List.all_cons,List.all_nil,Bool.false_and,Bool.not_false,Bool.true_and,Bool.and_true]
   |false=>
    simp only[Bool.false_eq_true,if_false]
    have h6:=je n hs n.Kids [] 0 rfl (by omega)
    have h6':Al 0 0 n=some (Af (ofK 2 n.Kids:Int) 0&&(Af ((0+ofK 1 n.Kids:Nat):Int) 1&&(pS n&&Oh 0 n.Kids))):=h6
    have h7:EJ n 0=some (Oh 0 n.Kids):=Zg n hs 0 (by omega)
    rw[h6',Nat.zero_add,pS,BV,BV,Te _ _ hl,Te _ _ hl,h7]
    simp only[A6,Bool.false_eq_true,if_false]
    cases Af (ofK 2 n.Kids:Int) 0<;>cases Af (ofK 1 n.Kids:Int) 1<;>cases D5 n.Pre ⟨#[]⟩<;>cases D5 n.Local ⟨#[]⟩<;>cases D5 n.Uri ⟨#[]⟩<;>cases D5 n.Text ⟨#[]⟩<;>cases Af (AD n.Decls) 0<;>cases Af (AD n.Attrs) 0<;>exact⟨_,rfl,rfl⟩
 obtain⟨c,h3,h4⟩:=h
 have e:ed n=c:=by rw[ed,h4];rfl
 exact⟨by rw[h3,e],by rw[h4,e]⟩
end TT
