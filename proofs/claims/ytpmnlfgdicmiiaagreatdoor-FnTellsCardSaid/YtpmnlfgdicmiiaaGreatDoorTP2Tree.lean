import Derived.Test.YtpmnlfgdicmiiaaGreatDoorTP2Sign
import Derived.Test.YtpmnlfgdicmiiaaGreatDoorTP0
import Derived.Test.YtpmnlfgdicmiiaaGreatDoorTP1
import Derived.Test.YtpmnlfgdicmiiaaGreatDoorTHX4
set_option linter.unusedVariables false
set_option linter.unusedSimpArgs false
namespace TT
open Go
def WP (s:ByteArray):Bool:=(Bv s).getD false
theorem cK (s:ByteArray) (hs:s.size≤4000000):Bv s=some (WP s)∧E3 s=some (WP s):=by
 obtain⟨b,h1,h2⟩:=wW s hs
 have e:WP s=b:=by rw[WP,h1];rfl
 exact⟨by rw[h1,e],by rw[h2,e]⟩
theorem RE (x y:ByteArray):UV x y= !C6 x y:=Bool.eq_iff_iff.2 Iff.rfl
theorem ZZ (x y:Int):neI x y= !Ag x y:=Bool.eq_iff_iff.2 Iff.rfl
theorem A8Z (x y:Bool):neB x y= !eqB x y:=Bool.eq_iff_iff.2 Iff.rfl
theorem A8a (x y:Int):geI x y= !H5 x y:=by
 rw[geI,H5,Bool.eq_iff_iff];simp
theorem A8b (x y:Int):Pj x y= !leI x y:=by
 rw[Pj,leI,Bool.eq_iff_iff];simp
theorem A07 (s:ByteArray) (hs:s.size≤4000000):∃b,Ke s=some b∧Hf s ⟨#[120,109,108]⟩=some b:=by
 have e3:B7 (⟨#[120,109,108]⟩:ByteArray)=3:=rfl
 rw[Ke,Hf,DU,e3]
 by_cases h:3≤s.size
 ·have e:Pk s 0 3=some (s.extract 0 3):=by
   unfold Pk
   rw[if_pos ⟨by omega,by omega,by omega⟩];rfl
  rw[PV (by simp only[B7];omega)]
  simp only[if_true,e,A3]
  exact⟨_,rfl,rfl⟩
 ·rw[Ut (by simp only[B7];omega)]
  exact⟨false,rfl,rfl⟩
def j8 (s:ByteArray):Bool:=(EQ s).getD false
theorem qg (s:ByteArray) (hs:s.size≤4000000):EQ s=some (j8 s)∧Ko s=some (j8 s):=by
 obtain⟨b,h1,h2⟩:=A07 s hs
 obtain⟨p1,p2,_⟩:=DY s hs
 have h:∃c,EQ s=some c∧Ko s=some c:=by
  rw[EQ,Ko,p1,p2,h1,h2]
  simp only[A3]
  cases C6 s ⟨#[]⟩<;>cases Ct s<;>exact⟨_,rfl,rfl⟩
 obtain⟨c,h3,h4⟩:=h
 have e:j8 s=c:=by rw[j8,h3];rfl
 exact⟨by rw[h3,e],by rw[h4,e]⟩
def tj (u p:ByteArray):Bool:=WP u&&(leI (B7 u) 40&&(!C6 u ⟨#[]⟩||C6 p ⟨#[]⟩))
theorem mT (u p:ByteArray) (hu:u.size≤4000000):N6 u p=some (tj u p):=by
 rw[N6,(cK u hu).2,tj]
 simp only[A3,RE]
 cases WP u<;>cases leI (B7 u) 40<;>cases C6 u ⟨#[]⟩<;>rfl
def wY (d:A2):Bool:=j8 d.Pre&&tj d.Uri d.Pre
theorem A1x (d:A2) (hs:d.sz≤4000000):RX d=some (wY d):=by
 rw[A2.sz_eq]at hs
 rw[RX,(qg d.Pre (by omega)).2,mT _ _ (by omega),wY]
 simp only[A3]
 cases j8 d.Pre<;>rfl
theorem A1y (d:A2) (hs:d.sz≤4000000):Kg d=some (wY d):=by
 rw[A2.sz_eq]at hs
 obtain⟨b,h1,h2⟩:=A07 d.Pre (by omega)
 obtain⟨p1,p2,_⟩:=DY d.Pre (by omega)
 have e:j8 d.Pre=(C6 d.Pre ⟨#[]⟩||(Ct d.Pre&& !b)):=by
  have:=(qg d.Pre (by omega)).1
  rw[EQ,p1,h1]at this
  simp only[A3]at this
  revert this
  cases C6 d.Pre ⟨#[]⟩<;>cases Ct d.Pre<;>intro this<;>simp_all
 rw[Kg,Ge,p1,h1,(cK d.Uri (by omega)).1,wY,e,tj]
 simp only[A3,RE]
 cases C6 d.Pre ⟨#[]⟩<;>cases Ct d.Pre<;>cases b<;>cases C6 d.Uri ⟨#[]⟩<;>cases WP d.Uri<;>cases leI (B7 d.Uri) 40<;>rfl
theorem jg {α:Type} {l pre rest:List α} {x y:α} (h:(pre++[y])++x::rest=l) (hl:l.length≤4000000):Pj ((pre++[y]).length:Int) 0=true∧getI l (Cq ((pre++[y]).length:Int) 1)=some y:=by
 have hlen:(pre++[y]).length=pre.length+1:=by simp
 have hb:pre.length+1≤l.length:=by rw[←h];simp
 refine⟨Rf (by rw[hlen];omega), ?_⟩
 have e:Cq ((pre++[y]).length:Int) 1=(pre.length:Int):=by
  rw[E7 (by omega) (by omega),hlen];omega
 rw[e]
 exact BS (rest:=x::rest) (by rw[←h];simp)
theorem ji {α:Type} (pre:List α):pre=[]∨∃p y,pre=p++[y]:=by
 rcases List.eq_nil_or_concat pre with h|⟨p,y,h⟩
 ·exact .inl h
 ·exact .inr ⟨p,y,by rw[h,List.concat_eq_append]⟩
theorem mU (l:List A2) (hl:l.length≤4000000) (hs:∀d∈l,d.sz≤4000000):∀(rest pre:List A2),pre++rest=l→∃b,CD l pre.length=some b∧Ee l pre.length=some b
 | [],pre,hp=>⟨_,by rw[CD,Cj hp];rfl,by rw[Ee,Cj hp];rfl⟩
 |x::rest,pre,hp=>by
  have hx:x.sz≤4000000:=hs x (by rw[←hp];simp)
  obtain⟨b,h1,h2⟩:=mU l hl hs rest (pre++[x]) (Bh hp)
  rw[CD,Ee,Bx hp,BS hp,Bm hp (by rw[Aq];omega)]
  simp only[if_true,A3,A1y x hx,A1x x hx]
  cases wY x with
  |false=>exact⟨false,rfl,rfl⟩
  |true=>
   simp only[if_true]
   rcases ji pre with rfl|⟨p,y,rfl⟩
   ·have e:Pj ((([]:List A2).length:Nat):Int) 0=false:=rfl
    rw[e]
    exact⟨b,h1,h2⟩
   ·obtain⟨e1,e2⟩:=jg hp hl
    rw[e1,e2]
    simp only[if_true,A3]
    cases geS y.Pre x.Pre with
    |true=>exact⟨false,rfl,rfl⟩
    |false=>exact⟨b,h1,h2⟩
def ZA (l:List A2):Bool:=(Dt l).getD false
theorem A8c (l:List A2) (hl:l.length≤4000000) (hs:∀d∈l,d.sz≤4000000):Dt l=some (ZA l)∧TS l=some (ZA l):=by
 obtain⟨b,h1,h2⟩:=mU l hl hs l [] rfl
 have h1':Dt l=some b:=h1
 have e:ZA l=b:=by rw[ZA,h1'];rfl
 exact⟨by rw[h1',e],by rw[e];exact h2⟩
def wZ (a:A5):Bool:=(Kp a).getD false
theorem A5W (a:A5) (hs:a.sz≤4000000):GA a=some (wZ a)∧Kp a=some (wZ a):=by
 rw[A5.sz_eq]at hs
 have h:∃c,GA a=some c∧Kp a=some c:=by
  rw[GA,Ey,Kp,(qg a.Pre (by omega)).1,(qg a.Pre (by omega)).2,mT _ _ (by omega),(DY a.Local (by omega)).1,(DY a.Local (by omega)).2.1,(cK a.Val (by omega)).1,(cK a.Val (by omega)).2,(cK a.Uri (by omega)).1,tj]
  simp only[A3,RE,A8Z]
  cases j8 a.Pre<;>cases C6 a.Pre ⟨#[]⟩<;>cases C6 a.Uri ⟨#[]⟩<;>cases Ct a.Local<;>cases C6 a.Local ⟨#[120,109,108,110,115]⟩<;>cases WP a.Val<;>cases WP a.Uri<;>cases leI (B7 a.Uri) 40<;>exact⟨_,rfl,rfl⟩
 obtain⟨c,h3,h4⟩:=h
 have e:wZ a=c:=by rw[wZ,h4];rfl
 exact⟨by rw[h3,e],by rw[h4,e]⟩
theorem A5X (a b:A5):∃c,Hg a b=some c∧J2 a b=some (!geI c 0):=by
 rw[Hg,strings_Compare,strings_Compare,J2]
 simp only[A3,ZZ,A5V,A8a,Bool.not_not]
 have h1:=A5U a.Uri b.Uri
 have h2:=A5V a.Uri b.Uri
 cases he:C6 a.Uri b.Uri with
 |false=>
  refine⟨_,rfl, ?_⟩
  rw[h1]
  cases ltS a.Uri b.Uri<;>rfl
 |true=>
  refine⟨_,rfl, ?_⟩
  rw[A5U]
  have:ltS a.Uri b.Uri=false:=by
   rw[←h1,Hr]
   rw[he]at h2
   have:=eL.1 h2
   omega
  rw[this]
  rfl
theorem mV (n:A0) (hl:n.Attrs.length≤4000000) (hs:∀d∈n.Attrs,d.sz≤4000000):∀(rest pre:List A5),pre++rest=n.Attrs→∃b,C1 pre.length n=some b∧Ef n.Attrs pre.length=some (b&&leI (AD n.Attrs) 5)
 | [],pre,hp=>⟨true,by rw[C1,Cj hp];rfl,by rw[Ef,Cj hp];rfl⟩
 |x::rest,pre,hp=>by
  have hx:x.sz≤4000000:=hs x (by rw[←hp];simp)
  obtain⟨b,h1,h2⟩:=mV n hl hs rest (pre++[x]) (Bh hp)
  rw[C1,Ef,Bx hp,BS hp,Bm hp (by rw[Aq];omega)]
  simp only[if_true,A3,(A5W x hx).1,(A5W x hx).2]
  cases wZ x with
  |false=>exact⟨false,rfl,rfl⟩
  |true=>
   simp only[if_true]
   rcases ji pre with rfl|⟨p,y,rfl⟩
   ·have e:Pj ((([]:List A5).length:Nat):Int) 0=false:=rfl
    rw[e]
    exact⟨b,h1,h2⟩
   ·obtain⟨e1,e2⟩:=jg hp hl
    obtain⟨c,e3,e4⟩:=A5X y x
    rw[e1,e2]
    simp only[if_true,A3,e3,e4]
    cases geI c 0 with
    |true=>exact⟨false,rfl,rfl⟩
    |false=>exact⟨b,h1,h2⟩
theorem A1z (n:A0) (hl:n.Attrs.length≤4000000) (hs:∀d∈n.Attrs,d.sz≤4000000):∃b,EE n=some b∧PI n.Attrs=some (b&&leI (AD n.Attrs) 5):=by
 obtain⟨b,h1,h2⟩:=mV n hl hs n.Attrs [] rfl
 exact⟨b,by rw[EE];exact h1,by rw[PI];exact h2⟩
end TT
namespace TT
open Go
theorem ABB {α:Type} (l:List α):Pj (AD l) 0= !Ag (AD l) 0:=by
 cases l with
 |nil=>rfl
 |cons x l=>rw[Rf (by simp only[AD,List.length_cons];omega),H0 (by simp only[AD,List.length_cons];omega)];rfl
theorem zN (s:ByteArray) (hs:s.size≤4000000):∃b,Hd s ⟨#[45]⟩=some b∧(if(C6 s ⟨#[]⟩)then some true else atS s (Cq (B7 s) 1)>>=fun x4=>some (neI x4 45))=some (!b):=by
 have e1:B7 (⟨#[45]⟩:ByteArray)=1:=rfl
 rw[Hd,DT,e1]
 by_cases h:1≤s.size
 ·have e0:C6 s ⟨#[]⟩=false:=by
   cases he:C6 s ⟨#[]⟩with
   |false=>rfl
   |true=>rw[RC.1 he]at h;exact absurd h (by decide)
  have e2:Cq (B7 s) 1=((s.size-1:Nat):Int):=by rw[E7 (by simp only[B7];omega) (by simp only[B7];omega)];simp only[B7];omega
  have e3:Pk s ((s.size-1:Nat):Int) (B7 s)=some (s.extract (s.size-1) s.size):=by
   show Pk s ((s.size-1:Nat):Int) ((s.size:Nat):Int)=_
   unfold Pk
   rw[if_pos ⟨by omega,by omega,by omega⟩]
   congr 1
  have hd:s.data.toList.drop (s.size-1)=[s.data.toList[s.size-1]'(by rw[X2];omega)]:=by
   rw[List.drop_eq_getElem_cons (by rw[X2];omega)]
   congr 1
   exact List.drop_eq_nil_of_le (by rw[X2];omega)
  have e4:(s.extract (s.size-1) s.size).toList=[s.data.toList[s.size-1]'(by rw[X2];omega)]:=by
   rw[wX,hd]
   have:s.size-(s.size-1)=1:=by omega
   rw[this];rfl
  have e5:Ri s (s.size-1)=(s.data.toList[s.size-1]'(by rw[X2];omega)).toNat:=by
   show(s.data[s.size-1]!).toNat=_
   rw[←Array.getElem!_toList,getElem!_pos s.data.toList (s.size-1) (by rw[X2];omega)]
  rw[PV (by simp only[B7];omega),e0,e2]
  simp only[if_true,e3,A3,bf,if_false,X1 (i:=((s.size-1:Nat):Int)) rfl (show s.size-1<s.size by omega),ZZ]
  refine⟨_,rfl, ?_⟩
  congr 2
  rw[e5,C6,e4,Bool.eq_iff_iff,eL,beq_iff_eq,show(⟨#[45]⟩:ByteArray).toList=[45]from by rw[Lib.toList_data]]
  constructor
  ·intro hh
   have:s.data.toList[s.size-1]'(by rw[X2];omega)=45:=UInt8.toNat_inj.1 (by have:((45:UInt8).toNat:Int)=45:=rfl;omega)
   rw[this]
  ·intro hh
   have:=(List.cons.inj hh).1
   rw[this];rfl
 ·have hz:s.size=0:=by omega
  have e0:C6 s ⟨#[]⟩=true:=RC.2 (by
   apply toList_inj
   rw[Lib.toList_data,Lib.toList_data]
   have:=X2 s
   rw[hz]at this
   rw[List.eq_nil_of_length_eq_zero this])
  rw[Ut (by simp only[B7];omega),e0]
  exact⟨false,rfl,rfl⟩
theorem A20 (n:Int):∃b,HV n=some b∧LO n=some b:=by
 rw[HV,LO]
 cases Ag n 9<;>cases Ag n 10<;>cases Ag n 13<;>exact⟨_,rfl,rfl⟩
theorem A21 (s:ByteArray) (hs:s.size≤4000000):∃b,(if(C6 s ⟨#[]⟩)then some true else atS s 0>>=fun x5=>HV (wr .i64 x5)>>=fun r22=>some (!r22))=some b∧(if(C6 s ⟨#[]⟩)then some true else atS s 0>>=fun x=>LO (wr .i64 x)>>=fun r5=>some (!r5))=some b:=by
 cases he:C6 s ⟨#[]⟩with
 |true=>exact⟨true,rfl,rfl⟩
 |false=>
  have hz:0<s.size:=by
   rcases Nat.eq_zero_or_pos s.size with h|h
   ·have:s=⟨#[]⟩:=by
     apply toList_inj
     rw[Lib.toList_data,Lib.toList_data]
     have:=X2 s
     rw[h]at this
     rw[List.eq_nil_of_length_eq_zero this]
    rw[this]at he
    rw[Ix]at he
    cases he
   ·exact h
  obtain⟨b,h1,h2⟩:=A20 (wr .i64 ((Ri s 0:Nat):Int))
  have e:atS s 0=some ((Ri s 0:Nat):Int):=X1 (i:=0) (k:=0) rfl hz
  simp only[bf,if_false,e,A3,h1,h2]
  exact⟨_,rfl,rfl⟩
def qh (n:A0):Bool:=(He n).getD false
theorem ABC (n:A0) (hs:n.sz≤4000000) (hk:Ag n.Kind 1=false):Dc n=some (qh n)∧He n=some (qh n):=by
 rw[A0.sz_eq]at hs
 have h:∃c,Dc n=some c∧He n=some c:=by
  obtain⟨b1,s1,s2⟩:=zN n.Text (by omega)
  obtain⟨b2,f1,f2⟩:=A21 n.Text (by omega)
  have c1:=eP n.Text ⟨#[45,45]⟩ (by decide) (by omega) (by decide)
  have c2:=eP n.Text ⟨#[13]⟩ (by decide) (by omega) (by decide)
  have c3:=eP n.Text ⟨#[63,62]⟩ (by decide) (by omega) (by decide)
  have x1:=A8Y n.Local (by omega)
  have p1:=DY n.Local (by omega)
  have t1:=cK n.Text (by omega)
  rw[Dc,He,Gl,Uk,Ul,J3,hk,s1,s2,f1,f2,c1.1,c1.2,c2.1,c2.2,c3.1,c3.2,x1.1,x1.2,p1.1,p1.2.1,t1.1,t1.2]
  simp only[A3,RE,ZZ,ABB,bf,if_false]
  have k23:Ag n.Kind 2=true→Ag n.Kind 3=false∧Ag n.Kind 4=false:=fun h=>by
   have:=eL.1 h;exact⟨H0 (by omega),H0 (by omega)⟩
  have k34:Ag n.Kind 3=true→Ag n.Kind 4=false:=fun h=>by
   have:=eL.1 h;exact H0 (by omega)
  cases C6 n.Pre ⟨#[]⟩<;>cases C6 n.Uri ⟨#[]⟩<;>cases Ag (AD n.Decls) 0<;>cases Ag (AD n.Attrs) 0<;>cases Ag (AD n.Kids) 0
  all_goals try (cases h2:Ag n.Kind 2<;>cases h3:Ag n.Kind 3<;>cases h4:Ag n.Kind 4<;>exact⟨false,rfl,rfl⟩)
  cases h2:Ag n.Kind 2 with
  |true=>
   obtain⟨h3,h4⟩:=k23 h2
   rw[h4]
   cases C6 n.Local ⟨#[]⟩<;>cases C6 n.Text ⟨#[]⟩<;>cases WP n.Text<;>exact⟨_,rfl,rfl⟩
  |false=>
   cases h3:Ag n.Kind 3 with
   |true=>
    rw[k34 h3]
    cases C6 n.Local ⟨#[]⟩<;>cases WP n.Text<;>cases GL n.Text ⟨#[45,45]⟩<;>cases GL n.Text ⟨#[13]⟩<;>cases b1<;>exact⟨_,rfl,rfl⟩
   |false=>
    cases h4:Ag n.Kind 4 with
    |true=>cases C6 n.Local ⟨#[]⟩<;>cases Ct n.Local<;>cases aA n.Local ⟨#[120,109,108]⟩<;>cases WP n.Text<;>cases GL n.Text ⟨#[63,62]⟩<;>cases GL n.Text ⟨#[13]⟩<;>exact⟨_,rfl,rfl⟩
    |false=>cases C6 n.Local ⟨#[]⟩<;>exact⟨_,rfl,rfl⟩
 obtain⟨c,h3,h4⟩:=h
 have e:qh n=c:=by rw[qh,h4];rfl
 exact⟨by rw[h3,e],by rw[h4,e]⟩
end TT
namespace TT
open Go
def elB (n:A0):Bool:=(Dc n).getD false
theorem ACb (n:A0) (hs:n.sz≤4000000) (hk:Ag n.Kind 1=true):Dc n=some (elB n)∧∀(d:Int) (b:Bool),geI d 7=false→FY n (Af d 1)=some b→CO n d=some (elB n&&b):=by
 have hsz:=hs
 rw[A0.sz_eq]at hs
 obtain⟨ab,a1,a2⟩:=A1z n (by omega) (fun x hx=>by have:=Dh A5.sz hx;omega)
 obtain⟨d1,d2⟩:=A8c n.Decls (by omega) (fun x hx=>by have:=Dh A2.sz hx;omega)
 have e1:Dc n=some (j8 n.Pre&&(Ct n.Local&&(C6 n.Text ⟨#[]⟩&&(tj n.Uri n.Pre&&(ZA n.Decls&&(ab&&leI (AD n.Attrs) 5)))))):=by
  rw[Dc,hk,(qg n.Pre (by omega)).1,(DY n.Local (by omega)).1,(cK n.Uri (by omega)).1,d1,a1,tj]
  simp only[A3,RE,if_true,A8b]
  cases j8 n.Pre<;>cases Ct n.Local<;>cases C6 n.Text ⟨#[]⟩<;>cases C6 n.Pre ⟨#[]⟩<;>cases C6 n.Uri ⟨#[]⟩<;>cases WP n.Uri<;>cases leI (B7 n.Uri) 40<;>cases ZA n.Decls<;>cases leI (AD n.Attrs) 5<;>cases ab<;>rfl
 have e2:elB n=(j8 n.Pre&&(Ct n.Local&&(C6 n.Text ⟨#[]⟩&&(tj n.Uri n.Pre&&(ZA n.Decls&&(ab&&leI (AD n.Attrs) 5)))))):=by rw[elB,e1];rfl
 refine⟨by rw[e1,e2],fun d b hd hb=> ?_⟩
 rw[CO,ZZ,hk,hd,(qg n.Pre (by omega)).2,mT _ _ (by omega),(DY n.Local (by omega)).2.1,d2,a2,hb,e2]
 simp only[A3,RE,Bool.not_true,bf,if_false]
 cases j8 n.Pre<;>cases Ct n.Local<;>cases C6 n.Text ⟨#[]⟩<;>cases tj n.Uri n.Pre<;>cases ZA n.Decls<;>cases leI (AD n.Attrs) 5<;>cases ab<;>rfl
def wa (x:A0) (deep:Int):Option Bool:=Dc x>>=fun r2=>if r2 then(if Ag x.Kind 1 then(if Ag deep 7 then some false else Bi x.Kids (Af deep 1))else some true)else some false
def isT (x:A0):Bool:=Ag x.Kind 2
def A08 (pre:List A0):Bool:=match pre.getLast? with
 |some y=>isT y
 |none=>false
def ZB : Bool→List A0→Bool
 |_,[]=>true
 |p,x::xs=> !(p&&isT x)&&ZB (isT x) xs
theorem Za (pre:List A0) (x:A0):A08 (pre++[x])=isT x:=by simp[A08]
def pB (d:Int) (k:A0):Bool:=(CO k d).getD false
theorem fj (l:List A0) (hl:l.length≤4000000) (d:Int) (hk:∀k∈l,wa k d=some (pB d k)):∀(rest pre:List A0),pre++rest=l→Bd l d pre.length=some (ZB (A08 pre) rest&&rest.all (pB d))
 | [],pre,hp=>by rw[Bd,Cj hp];rfl
 |x::rest,pre,hp=>by
  have ih:=fj l hl d hk rest (pre++[x]) (Bh hp)
  have hx:=hk x (by rw[←hp];simp)
  rw[Za]at ih
  rw[wa]at hx
  obtain⟨r2,h2,hx⟩:=Option.bind_eq_some_iff.1 hx
  have hj:r2=true→DO l d pre.length x=some (pB d x&&(ZB (isT x) rest&&rest.all (pB d))):=fun hr=>by
   rw[hr]at hx
   rw[DO,Bm hp (by rw[Aq];omega),ih]
   simp only[if_true]at hx
   revert hx
   cases Ag x.Kind 1 with
   |false=>
    simp only[bf,if_false]
    intro hx
    rw[←Option.some.inj hx];rfl
   |true=>
    simp only[if_true]
    cases Ag d 7 with
    |true=>simp only[if_true];intro hx;rw[←Option.some.inj hx];rfl
    |false=>
     simp only[bf,if_false]
     intro hx
     rw[hx]
     simp only[A3]
     cases pB d x<;>rfl
  rw[Bd,Bx hp,BS hp]
  simp only[if_true,A3,h2]
  cases r2 with
  |false=>
   simp only[bf,if_false]at hx ⊢
   have:pB d x=false:=(Option.some.inj hx).symm
   simp only[List.all_cons,this,Bool.false_and,Bool.and_false]
  |true=>
   rw[hj rfl]
   simp only[if_true,ZB,List.all_cons]
   show(if isT x=true then _ else _)=_
   cases hx2:isT x with
   |false=>simp only[bf,if_false,Bool.and_false,Bool.not_false,Bool.true_and];cases pB d x<;>simp
   |true=>
    simp only[if_true,Bool.and_true]
    rcases ji pre with rfl|⟨p,y,rfl⟩
    ·have e:Pj ((([]:List A0).length:Nat):Int) 0=false:=rfl
     rw[e]
     simp only[bf,if_false]
     show _=some ((!(false)&&ZB true rest)&&_)
     cases pB d x<;>simp
    ·obtain⟨e1,e2⟩:=jg hp hl
     rw[e1,e2,Za]
     simp only[if_true,A3]
     show(if isT y=true then _ else _)=_
     cases isT y with
     |true=>simp
     |false=>simp only[bf,if_false];cases pB d x<;>simp
theorem wb (l:List A0) (hl:l.length≤4000000):∀(rest pre:List A0),pre++rest=l→CZ l pre.length=some (ZB (A08 pre) rest)
 | [],pre,hp=>by rw[CZ,Cj hp];rfl
 |x::rest,pre,hp=>by
  have ih:=wb l hl rest (pre++[x]) (Bh hp)
  rw[Za]at ih
  rw[CZ,Bx hp,BS hp,Bm hp (by rw[Aq];omega),ih]
  simp only[if_true,A3,ZB]
  rcases ji pre with rfl|⟨p,y,rfl⟩
  ·have e:Pj ((([]:List A0).length:Nat):Int) 0=false:=rfl
   rw[e];rfl
  ·obtain⟨e1,e2⟩:=jg hp hl
   rw[e1,e2,Za]
   simp only[if_true,A3]
   show(if isT x=true then(if isT y=true then _ else _)else _)=_
   cases isT x<;>cases isT y<;>rfl
theorem wc (l:List A0) (hl:l.length≤4000000) (d:Int) (hk:∀k∈l,CO k d=some (pB d k)):∀(rest pre:List A0),pre++rest=l→∃r,BB l pre.length d=some (r,d)∧geI r 0= !rest.all (pB d)
 | [],pre,hp=>⟨-1,by rw[BB,Cj hp];rfl,rfl⟩
 |x::rest,pre,hp=>by
  obtain⟨r,h1,h2⟩:=wc l hl d hk rest (pre++[x]) (Bh hp)
  rw[BB,Bx hp,BS hp,Bm hp (by rw[Aq];omega)]
  simp only[if_true,A3,List.all_cons,R5,hk x (by rw[←hp];simp)]
  cases pB d x with
  |true=>exact⟨r,h1,by rw[h2];rfl⟩
  |false=>exact⟨pre.length,rfl,by rw[PV (by omega)];rfl⟩
def Rg (d:Int) (l:List A0):Bool:=ZB false l&&l.all (pB d)
theorem qi (n:A0) (hl:n.Kids.length≤4000000) (d:Int) (hk:∀k∈n.Kids,CO k d=some (pB d k)):FY n d=some (Rg d n.Kids):=by
 have h1:Jj n.Kids=some (ZB false n.Kids):=by rw[Jj];exact wb n.Kids hl n.Kids [] rfl
 obtain⟨r,h2,h3⟩:=wc n.Kids hl d hk n.Kids [] rfl
 have h2':BB n.Kids 0 d=some (r,d):=h2
 rw[FY,h1,Cm,DV,h2']
 simp only[A3,h3,Bool.not_not,Rg]
 cases ZB false n.Kids<;>rfl
theorem eQ : ∀ n:A0,n.sz≤1048576→∀d:Nat,d≤7→CO n d=some (pB d n)∧wa n d=some (pB d n):=by
 refine A0.ind' fun n ih hs d hd=> ?_
 have h:∃b,CO n d=some b∧wa n d=some b:=by
  have hsz:=hs
  rw[A0.sz_eq]at hs
  cases hk:Ag n.Kind 1 with
  |false=>
   obtain⟨l1,l2⟩:=ABC n (by omega) hk
   refine⟨qh n, ?_, ?_⟩
   ·rw[CO,ZZ,hk,l2];rfl
   ·rw[wa,l1,hk]
    cases qh n<;>rfl
  |true=>
   obtain⟨e1,e2⟩:=ACb n (by omega) hk
   by_cases h7:d=7
   ·subst h7
    refine⟨false, ?_, ?_⟩
    ·rw[CO,ZZ,hk];rfl
    ·rw[wa,e1,hk]
     have:Ag ((7:Nat):Int) 7=true:=rfl
     rw[this]
     cases elB n<;>rfl
   ·have hadd:Af (d:Int) 1=((d+1:Nat):Int):=by rw[Bk (by omega) (by omega)];omega
    have hkid:∀k∈n.Kids,CO k ((d+1:Nat):Int)=some (pB ((d+1:Nat):Int) k)∧wa k ((d+1:Nat):Int)=some (pB ((d+1:Nat):Int) k):=fun k hk=>ih k hk (by have:=Dh A0.sz hk;omega) (d+1) (by omega)
    have k1:=qi n (by omega) _ fun k hk=>(hkid k hk).1
    have k2:Bi n.Kids ((d+1:Nat):Int)=some (Rg ((d+1:Nat):Int) n.Kids):=by
     rw[Bi]
     exact fj n.Kids (by omega) _ (fun k hk=>(hkid k hk).2) n.Kids [] rfl
    refine⟨elB n&&Rg ((d+1:Nat):Int) n.Kids,e2 d _ (Ut (by omega)) (by rw[hadd];exact k1), ?_⟩
    rw[wa,e1,hk,H0 (show(d:Int)≠7 by omega),hadd,k2]
    cases elB n<;>rfl
 obtain⟨b,h1,h2⟩:=h
 have e:pB d n=b:=by rw[pB,h1];rfl
 exact⟨by rw[h1,e],by rw[h2,e]⟩
theorem we (l:List A0) (hl:l.length≤4000000) (hs:∀k∈l,k.sz≤1048576) (d:Nat) (hd:d≤7):Bi l d=some (Rg d l):=by
 rw[Bi]
 exact fj l hl _ (fun k hk=>(eQ k (hs k hk) d hd).2) l [] rfl
theorem fk (n:A0) (hs:n.sz≤1048576) (d:Nat) (hd:d≤7):FY n d=some (Rg d n.Kids):=by
 rw[A0.sz_eq]at hs
 exact qi n (by omega) _ fun k hk=>(eQ k (by have:=Dh A0.sz hk;omega) d hd).1
theorem wg (n:A0) (hl:n.Kids.length≤4000000) (hk:∀k∈n.Kids,∃c:Nat,CX k=some (c:Int)∧FJ k=some (c:Int)∧c≤1+k.sz):∀(rest pre:List A0) (a:Nat),pre++rest=n.Kids→a+rest.length+szs A0.sz rest≤100000000→∃c:Nat,BM a pre.length n=some (c:Int)∧HE a n pre.length=some (c:Int)∧c≤a+rest.length+szs A0.sz rest
 | [],pre,a,hp,hb=>⟨a,by rw[BM,Cj hp];rfl,by rw[HE,Cj hp];rfl,by omega⟩
 |x::rest,pre,a,hp,hb=>by
  obtain⟨c,h1,h2,h3⟩:=hk x (by rw[←hp];simp)
  rw[Kx,List.length_cons]at hb
  obtain⟨q,g1,g2,g3⟩:=wg n hl hk rest (pre++[x]) (a+c) (Bh hp) (by omega)
  have e:Af (a:Int) (c:Int)=((a+c:Nat):Int):=by rw[Bk (by omega) (by omega)];omega
  refine⟨q, ?_, ?_,by rw[Kx,List.length_cons];omega⟩
  ·rw[BM,Bx hp,BS hp,Bm hp (by rw[Aq];omega)]
   simp only[if_true,A3,h1,e]
   exact g1
  ·rw[HE,Bx hp,BS hp,Bm hp (by rw[Aq];omega)]
   simp only[if_true,A3,h2,e]
   exact g2
theorem A8d : ∀ n:A0,n.sz≤1048576→∃c:Nat,CX n=some (c:Int)∧FJ n=some (c:Int)∧c≤1+n.sz:=by
 refine A0.ind' fun n ih hs=> ?_
 have hz:=A0.sz_eq n
 rw[hz]at hs
 obtain⟨c,h1,h2,h3⟩:=wg n (by omega) (fun k hk=>ih k hk (by have:=Dh A0.sz hk;omega)) n.Kids [] (1+n.Attrs.length) rfl (by omega)
 have e:Af 1 (AD n.Attrs)=((1+n.Attrs.length:Nat):Int):=by rw[Bk (by simp only[AD];omega) (by simp only[AD];omega)];simp only[AD];omega
 exact⟨c,by rw[CX,e];exact h1,by rw[FJ,e];exact h2,by omega⟩
def ofK (k:Int) (l:List A0):Nat:=l.countP fun x=>Ag x.Kind k
theorem ZC (l:List A0) (k:Int) (hl:l.length≤4000000):∀(rest pre:List A0) (a:Nat),pre++rest=l→a+rest.length≤8000000→Ci k a l pre.length=some ((a+ofK k rest:Nat):Int)
 | [],pre,a,hp,hb=>by rw[Ci,Cj hp];rfl
 |x::rest,pre,a,hp,hb=>by
  rw[List.length_cons]at hb
  rw[Ci,Bx hp,BS hp,Bm hp (by rw[Aq];omega)]
  simp only[if_true,A3]
  cases hx:Ag x.Kind k with
  |true=>
   have e:Af (a:Int) 1=((a+1:Nat):Int):=by rw[Bk (by omega) (by omega)];omega
   rw[e,if_pos rfl,ZC l k hl rest (pre++[x]) (a+1) (Bh hp) (by omega)]
   simp only[ofK,List.countP_cons,hx,if_true]
   congr 2;omega
  |false=>
   simp only[bf,if_false]
   rw[ZC l k hl rest (pre++[x]) a (Bh hp) (by omega)]
   simp only[ofK,List.countP_cons,hx,bf,if_false,Nat.add_zero]
theorem X3 (l:List A0) (k:Int) (hl:l.length≤4000000):HZ l k=some (ofK k l:Int):=by
 rw[HZ]
 have:=ZC l k hl l [] 0 rfl (by omega)
 simpa using this
def wh (n:A0):Bool:=C6 n.Pre ⟨#[]⟩&&(C6 n.Local ⟨#[]⟩&&(C6 n.Uri ⟨#[]⟩&&(C6 n.Text ⟨#[]⟩&&(Ag (AD n.Decls) 0&&Ag (AD n.Attrs) 0))))
theorem qj (n:A0) (hs:n.sz≤1048576):∀(rest pre:List A0) (a:Nat),pre++rest=n.Kids→a+rest.length≤8000000→BN a pre.length n=some (Ag (ofK 2 rest:Int) 0&&(Ag ((a+ofK 1 rest:Nat):Int) 1&&(wh n&&Rg 0 n.Kids)))
 | [],pre,a,hp,hb=>by
  have hk:=we n.Kids (by rw[A0.sz_eq]at hs;omega) (fun k hk=>by rw[A0.sz_eq]at hs;have:=Dh A0.sz hk;omega) 0 (by omega)
  have hk':Bi n.Kids 0=some (Rg 0 n.Kids):=hk
  rw[BN,Cj hp,hk',wh]
  simp only[bf,if_false,A3,ofK,List.countP_nil,Nat.add_zero]
  show _=some (true&&_)
  cases Ag (a:Int) 1<;>cases C6 n.Pre ⟨#[]⟩<;>cases C6 n.Local ⟨#[]⟩<;>cases C6 n.Uri ⟨#[]⟩<;>cases C6 n.Text ⟨#[]⟩<;>cases Ag (AD n.Decls) 0<;>cases Ag (AD n.Attrs) 0<;>rfl
 |x::rest,pre,a,hp,hb=>by
  have hl:n.Kids.length≤4000000:=by rw[A0.sz_eq]at hs;omega
  rw[List.length_cons]at hb
  have hj:∀q:Nat,q+rest.length≤8000000→DP q pre.length n=some (!isT x&&(Ag (ofK 2 rest:Int) 0&&(Ag ((q+ofK 1 rest:Nat):Int) 1&&(wh n&&Rg 0 n.Kids)))):=fun q hq=>by
   rw[DP,BS hp,Bm hp (by rw[Aq];omega),qj n hs rest (pre++[x]) q (Bh hp) hq]
   simp only[A3]
   show(if isT x=true then _ else _)=_
   cases isT x<;>rfl
  have ht:Ag ((ofK 2 (x::rest):Nat):Int) 0=(!isT x&&Ag (ofK 2 rest:Int) 0):=by
   simp only[ofK,List.countP_cons]
   show Ag ((_+(if isT x=true then 1 else 0):Nat):Int) 0=_
   cases isT x with
   |false=>rfl
   |true=>rw[H0 (by simp only[if_true];omega)];rfl
  rw[BN,Bx hp,BS hp,ht]
  simp only[if_true,A3]
  cases hx:Ag x.Kind 1 with
  |true=>
   have e:Af (a:Int) 1=((a+1:Nat):Int):=by rw[Bk (by omega) (by omega)];omega
   rw[if_pos rfl,e,hj (a+1) (by omega)]
   simp only[ofK,List.countP_cons,hx,if_true]
   rw[show a+1+List.countP (fun x=>Ag x.Kind 1) rest=a+(List.countP (fun x=>Ag x.Kind 1) rest+1) by omega,Bool.and_assoc]
  |false=>
   simp only[bf,if_false]
   rw[hj a (by omega)]
   simp only[ofK,List.countP_cons,hx,bf,if_false,Nat.add_zero,Bool.and_assoc]
def mW (n:A0):Bool:=(Hh n).getD false
theorem A5Y (n:A0) (hs:n.sz≤1048576):FU n=some (mW n)∧Hh n=some (mW n):=by
 have h:∃c,FU n=some c∧Hh n=some c:=by
  obtain⟨c,h1,h2,h3⟩:=A8d n hs
  have hl:n.Kids.length≤4000000:=by rw[A0.sz_eq]at hs;omega
  rw[FU,Hh,h1,h2]
  simp only[A3]
  cases Pj (c:Int) 60 with
  |true=>exact⟨false,rfl,rfl⟩
  |false=>
   simp only[bf,if_false]
   cases neI n.Kind 0 with
   |true=>
    simp only[if_true]
    have h4:=(eQ n hs 0 (by omega)).1
    have h5:=we [n] (by simp) (fun k hk=>by rw[List.mem_singleton.1 hk];exact hs) 0 (by omega)
    have h5':Bi [n] 0=some (Rg 0 [n]):=h5
    have h4':CO n 0=some (pB 0 n):=h4
    rw[h4',h5']
    refine⟨_,rfl, ?_⟩
    simp only[A3,Rg,ZB,List.all_cons,List.all_nil,Bool.false_and,Bool.not_false,Bool.true_and,Bool.and_true]
   |false=>
    simp only[bf,if_false]
    have h6:=qj n hs n.Kids [] 0 rfl (by omega)
    have h6':BN 0 0 n=some (Ag (ofK 2 n.Kids:Int) 0&&(Ag ((0+ofK 1 n.Kids:Nat):Int) 1&&(wh n&&Rg 0 n.Kids))):=h6
    have h7:FY n 0=some (Rg 0 n.Kids):=fk n hs 0 (by omega)
    rw[h6',Nat.zero_add,wh,CF,CF,X3 _ _ hl,X3 _ _ hl,h7]
    simp only[A3,bf,if_false]
    cases Ag (ofK 2 n.Kids:Int) 0<;>cases Ag (ofK 1 n.Kids:Int) 1<;>cases C6 n.Pre ⟨#[]⟩<;>cases C6 n.Local ⟨#[]⟩<;>cases C6 n.Uri ⟨#[]⟩<;>cases C6 n.Text ⟨#[]⟩<;>cases Ag (AD n.Decls) 0<;>cases Ag (AD n.Attrs) 0<;>exact⟨_,rfl,rfl⟩
 obtain⟨c,h3,h4⟩:=h
 have e:mW n=c:=by rw[mW,h4];rfl
 exact⟨by rw[h3,e],by rw[h4,e]⟩
end TT
namespace TT
open Go
def prs (l:List A2):List (ByteArray×ByteArray):=l.map fun x=>(x.Pre,x.Uri)
theorem zO (l:List (ByteArray×ByteArray)) (x:ByteArray×ByteArray) (p:ByteArray):I2 (l++[x]) p=if decide (x.1=p)then(x.2,true)else I2 l p:=by
 simp only[I2,List.reverse_append,List.reverse_cons,List.reverse_nil,List.nil_append,List.cons_append,List.find?_cons]
 cases decide (x.1=p)<;>rfl
theorem jk (x y:ByteArray):C6 x y=decide (x=y):=by
 rw[Bool.eq_iff_iff,RC,decide_eq_true_iff]
theorem mX (l:List A2) (p:ByteArray) (hl:l.length≤4000000):∀k,k≤l.length→CB l p ((k:Int)-1)=some (I2 (prs (l.take k)) p)
 |0,_=>by
  rw[CB,Ut (by omega)]
  simp only[bf,if_false,List.take_zero,prs,List.map_nil]
  rw[jk];rfl
 |k+1,h=>by
  have e:(((k+1:Nat):Int)-1)=(k:Int):=by omega
  have hx:l[k]? =some (l[k]'(by omega)):=List.getElem?_eq_getElem (by omega)
  have hg:getI l (k:Int)=some (l[k]'(by omega)):=by
   unfold getI
   rw[if_pos (by omega)]
   simp
  have ih:=mX l p hl k (by omega)
  rw[CB,e,PV (by omega),hg,List.take_add_one,hx,E7 (by omega) (by omega),ih]
  simp only[if_true,A3,Option.toList_some,prs,List.map_append,List.map_cons,List.map_nil]
  rw[zO,jk]
  cases decide ((l[k]'(by omega)).Pre=p)<;>rfl
theorem mY (l:List A2) (p:ByteArray) (hl:l.length≤4000000):C9 l p=some (I2 (prs l) p):=by
 have e:Cq (AD l) 1=((l.length:Int)-1):=E7 (by simp only[AD];omega) (by simp only[AD];omega)
 rw[C9,e,mX l p hl l.length (Nat.le_refl _),List.take_length]
theorem zP (l m:List A2) (hl:l.length+m.length≤4000000):Fn l m=some (l++m):=by
 rw[Fn,Hs (by omega) (by omega) (by omega),Hs (by omega) (by omega) (by omega)]
 simp
theorem A22 (l:List A2):HJ (l.map A2.row)=some (prs l):=by
 induction l with
 |nil=>rfl
 |cons x l ih=>
  show(HJ (l.map A2.row)).map _=_
  rw[ih];rfl
def ats (l:List A5):List (ByteArray×ByteArray):=l.map fun x=>(x.Pre,x.Uri)
theorem A5Z (l:List A5):Y7 (l.map A5.row)=some (ats l):=by
 induction l with
 |nil=>rfl
 |cons x l ih=>
  show(Y7 (l.map A5.row)).map _=_
  rw[ih];rfl
theorem qk (n:A0) (own:List A2) (hl:n.Kids.length≤4000000) (hk:∀k∈n.Kids,∃b,CN k own=some b∧RO (A0.row false k) (prs own)=some b):∀(rest pre:List A0),pre++rest=n.Kids→∃b,Ay own pre.length n=some b∧Uz (rest.map (A0.row false)) (prs own)=some b
 | [],pre,hp=>⟨true,by rw[Ay,Cj hp];rfl,by simp only[List.map_nil,Uz]⟩
 |x::rest,pre,hp=>by
  obtain⟨b,h1,h2⟩:=hk x (by rw[←hp];simp)
  obtain⟨c,h3,h4⟩:=qk n own hl hk rest (pre++[x]) (Bh hp)
  refine⟨b&&c, ?_,by simp only[List.map_cons,Uz,h2,h4]⟩
  rw[Ay,Bx hp,BS hp,Bm hp (by rw[Aq];omega)]
  simp only[if_true,A3,h1,h3]
  cases b<;>rfl
theorem ql (n:A0) (own:List A2) (ho:own.length≤4000000) (hl:n.Attrs.length≤4000000) (c:Bool) (hc:Ay own 0 n=some c):∀(rest pre:List A5),pre++rest=n.Attrs→Bj own pre.length n=some ((ats rest).all (dA (prs own))&&c)
 | [],pre,hp=>by rw[Bj,Cj hp];exact hc
 |x::rest,pre,hp=>by
  have ih:=ql n own ho hl c hc rest (pre++[x]) (Bh hp)
  rw[Bj,Bx hp,BS hp,Bm hp (by rw[Aq];omega),ih]
  simp only[if_true,A3,mY _ _ ho,RE,ats,List.map_cons,List.all_cons,dA,Uy,jk]
  cases decide (x.Pre=⟨#[]⟩)<;>cases (I2 (prs own) x.Pre).2<;>cases decide ((I2 (prs own) x.Pre).1=x.Uri)<;>simp
theorem A5a : ∀ n:A0,n.sz≤1048576→∀l:List A2,l.length+n.sz≤4000000→∃b,CN n l=some b∧RO (A0.row false n) (prs l)=some b:=by
 refine A0.ind' fun n ih hs l hb=> ?_
 have hz:=A0.sz_eq n
 rw[hz]at hs hb
 have ho:(l++n.Decls).length≤4000000:=by rw[List.length_append];omega
 obtain⟨c,h1,h2⟩:=qk n (l++n.Decls) (by omega) (fun k hk=>ih k hk (by have:=Dh A0.sz hk;omega) (l++n.Decls) (by rw[List.length_append];have:=Dh A0.sz hk;omega)) n.Kids [] rfl
 have h3:=ql n (l++n.Decls) ho (by omega) c h1 n.Attrs [] rfl
 have h3':Ch (l++n.Decls) n=some ((ats n.Attrs).all (dA (prs (l++n.Decls)))&&c):=by rw[Ch];exact h3
 have hp:prs l++prs n.Decls=prs (l++n.Decls):=by simp[prs]
 have hpl:(prs l++prs n.Decls).length≤4000000:=by rw[hp,prs,List.length_map];exact ho
 refine⟨((decide (n.Kind≠1)||Uy (prs (l++n.Decls)) n.Pre n.Uri)&&(ats n.Attrs).all (dA (prs (l++n.Decls))))&&c, ?_, ?_⟩
 rotate_left
 ·rw[A0.row_eq,RO,A22,A5Z]
  rw[hp]at hpl
  simp only[hp,h2]
  rw[if_pos hpl]
 ·rw[CN,zP _ _ (by rw[List.length_append]at ho;exact ho)]
  simp only[A3,mY _ _ ho,h3',RE,Uy,jk]
  cases hk:Ag n.Kind 1 with
  |false=>
   have hne:decide (n.Kind≠1)=true:=decide_eq_true fun e=>by rw[WK e]at hk;cases hk
   rw[hne]
   simp
  |true=>
   have hne:decide (n.Kind≠1)=false:=decide_eq_false fun e=>e (eL.1 hk)
   rw[hne]
   cases (I2 (prs (l++n.Decls)) n.Pre).2<;>cases decide ((I2 (prs (l++n.Decls)) n.Pre).1=n.Uri)<;>simp
def A5b (n:A0) (l:List A2):Bool:=(CN n l).getD false
theorem ACE (n:A0) (l:List A2) (hs:n.sz≤1048576) (hb:l.length+n.sz≤4000000):CN n l=some (A5b n l)∧Um n l=some (A5b n l):=by
 obtain⟨b,h1,h2⟩:=A5a n hs l hb
 have e:A5b n l=b:=by rw[A5b,h1];rfl
 exact⟨by rw[h1,e],by rw[Um,e];exact h2⟩
end TT
namespace TT
open Go
def bK (n:A0):Bool:=Ag n.Kind 0&&(mW n&&A5b n [])
theorem zQ (n:A0) (hs:n.sz≤1048576):FV n=some (bK n)∧Kq n=some (bK n):=by
 obtain⟨n1,n2⟩:=A5Y n hs
 obtain⟨f1,f2⟩:=ACE n [] hs (by simp;omega)
 constructor
 ·rw[FV,n1,f1,bK]
  simp only[A3]
  cases Ag n.Kind 0<;>cases mW n<;>rfl
 ·rw[Kq,n2,f2,bK]
  simp only[A3]
  cases Ag n.Kind 0<;>cases mW n<;>rfl
end TT
