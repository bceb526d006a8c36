import Derived.Test.YtkbbbbeagnfliaaGreatDoorTP2Sign
import Derived.Test.YtkbbbbeagnfliaaGreatDoorTP0
import Derived.Test.YtkbbbbeagnfliaaGreatDoorTP1
set_option linter.unusedVariables false
set_option linter.unusedSimpArgs false
namespace TT
open Go
def Vs (s:ByteArray):Bool:=(Ck s).getD false
theorem cx (s:ByteArray) (hs:s.size≤4000000):Ck s=some (Vs s)∧Ek s=some (Vs s):=by
 obtain⟨b,h1,h2⟩:=xU s hs
 have e:Vs s=b:=by rw[Vs,h1];rfl
 exact⟨by rw[h1,e],by rw[h2,e]⟩
theorem Ue (x y:ByteArray):IN x y= !Bq x y:=Bool.eq_iff_iff.2 Iff.rfl
theorem Wa (x y:Int):neI x y= !AX x y:=Bool.eq_iff_iff.2 Iff.rfl
theorem A9P (x y:Bool):neB x y= !eqB x y:=Bool.eq_iff_iff.2 Iff.rfl
theorem A9Q (x y:Int):geI x y= !BV x y:=by
 rw[geI,BV,Bool.eq_iff_iff];simp
theorem uo (x y:Int):IR x y= !TG x y:=by
 rw[IR,TG,Bool.eq_iff_iff];simp
theorem uq (s:ByteArray) (hs:s.size≤4000000):∃b,Lw s=some b∧Ev s ⟨#[120,109,108]⟩=some b:=by
 have e3:AL (⟨#[120,109,108]⟩:ByteArray)=3:=rfl
 rw[Lw,Ev,Cz,e3]
 by_cases h:3≤s.size
 ·have e:PC s 0 3=some (s.extract 0 3):=by
   unfold PC
   rw[if_pos ⟨by omega,by omega,by omega⟩];rfl
  rw[Ub (by simp only[AL];omega)]
  simp only[if_true,e,A1]
  exact⟨_,rfl,rfl⟩
 ·rw[bn (by simp only[AL];omega)]
  exact⟨false,rfl,rfl⟩
def jX (s:ByteArray):Bool:=(I1 s).getD false
theorem sB (s:ByteArray) (hs:s.size≤4000000):I1 s=some (jX s)∧JC s=some (jX s):=by
 obtain⟨b,h1,h2⟩:=uq s hs
 obtain⟨p1,p2,_⟩:=BP s hs
 have h:∃c,I1 s=some c∧JC s=some c:=by
  rw[I1,JC,p1,p2,h1,h2]
  simp only[A1]
  cases Bq s ⟨#[]⟩<;>cases Bj s<;>exact⟨_,rfl,rfl⟩
 obtain⟨c,h3,h4⟩:=h
 have e:jX s=c:=by rw[jX,h3];rfl
 exact⟨by rw[h3,e],by rw[h4,e]⟩
def ur (u p:ByteArray):Bool:=Vs u&&(TG (AL u) 40&&(!Bq u ⟨#[]⟩||Bq p ⟨#[]⟩))
theorem nM (u p:ByteArray) (hu:u.size≤4000000):JD u p=some (ur u p):=by
 rw[JD,(cx u hu).2,ur]
 simp only[A1,Ue]
 cases Vs u<;>cases TG (AL u) 40<;>cases Bq u ⟨#[]⟩<;>rfl
def Vt (d:GDecl):Bool:=jX d.Pre&&ur d.Uri d.Pre
theorem gJ (d:GDecl) (hs:d.sz≤4000000):Hl d=some (Vt d):=by
 rw[GDecl.sz_eq]at hs
 rw[Hl,(sB d.Pre (by omega)).2,nM _ _ (by omega),Vt]
 simp only[A1]
 cases jX d.Pre<;>rfl
theorem sC (d:GDecl) (hs:d.sz≤4000000):MO d=some (Vt d):=by
 rw[GDecl.sz_eq]at hs
 obtain⟨b,h1,h2⟩:=uq d.Pre (by omega)
 obtain⟨p1,p2,_⟩:=BP d.Pre (by omega)
 have e:jX d.Pre=(Bq d.Pre ⟨#[]⟩||(Bj d.Pre&& !b)):=by
  have:=(sB d.Pre (by omega)).1
  rw[I1,p1,h1]at this
  simp only[A1]at this
  revert this
  cases Bq d.Pre ⟨#[]⟩<;>cases Bj d.Pre<;>intro this<;>simp_all
 rw[MO,J3,p1,h1,(cx d.Uri (by omega)).1,Vt,e,ur]
 simp only[A1,Ue]
 cases Bq d.Pre ⟨#[]⟩<;>cases Bj d.Pre<;>cases b<;>cases Bq d.Uri ⟨#[]⟩<;>cases Vs d.Uri<;>cases TG (AL d.Uri) 40<;>rfl
theorem el {α:Type} {l pre rest:List α} {x y:α} (h:(pre++[y])++x::rest=l) (hl:l.length≤4000000):IR ((pre++[y]).length:Int) 0=true∧AZ l (AY ((pre++[y]).length:Int) 1)=some y:=by
 have hlen:(pre++[y]).length=pre.length+1:=by simp
 have hb:pre.length+1≤l.length:=by rw[←h];simp
 refine⟨RL (by rw[hlen];omega), ?_⟩
 have e:AY ((pre++[y]).length:Int) 1=(pre.length:Int):=by
  rw[P6 (by omega) (by omega),hlen];omega
 rw[e]
 exact BI (rest:=x::rest) (by rw[←h];simp)
theorem eo {α:Type} (pre:List α):pre=[]∨∃p y,pre=p++[y]:=by
 rcases List.eq_nil_or_concat pre with h|⟨p,y,h⟩
 ·exact .inl h
 ·exact .inr ⟨p,y,by rw[h,List.concat_eq_append]⟩
theorem nN (l:List GDecl) (hl:l.length≤4000000) (hs:∀d∈l,d.sz≤4000000):∀(rest pre:List GDecl),pre++rest=l→∃b,E0 l pre.length=some b∧E4 l pre.length=some b
 | [],pre,hp=>⟨_,by rw[E0,CZ hp];rfl,by rw[E4,CZ hp];rfl⟩
 |x::rest,pre,hp=>by
  have hx:x.sz≤4000000:=hs x (by rw[←hp];simp)
  obtain⟨b,h1,h2⟩:=nN l hl hs rest (pre++[x]) (CC hp)
  rw[E0,E4,BZ hp,BI hp,C2 hp (by rw[BB];omega)]
  simp only[if_true,A1,sC x hx,gJ x hx]
  cases Vt x with
  |false=>exact⟨false,rfl,rfl⟩
  |true=>
   simp only[if_true]
   rcases eo pre with rfl|⟨p,y,rfl⟩
   ·have e:IR ((([]:List GDecl).length:Nat):Int) 0=false:=rfl
    rw[e]
    exact⟨b,h1,h2⟩
   ·obtain⟨e1,e2⟩:=el hp hl
    rw[e1,e2]
    simp only[if_true,A1]
    cases geS y.Pre x.Pre with
    |true=>exact⟨false,rfl,rfl⟩
    |false=>exact⟨b,h1,h2⟩
def ZD (l:List GDecl):Bool:=(I2 l).getD false
theorem A9R (l:List GDecl) (hl:l.length≤4000000) (hs:∀d∈l,d.sz≤4000000):I2 l=some (ZD l)∧T5 l=some (ZD l):=by
 obtain⟨b,h1,h2⟩:=nN l hl hs l [] rfl
 have h1':I2 l=some b:=h1
 have e:ZD l=b:=by rw[ZD,h1'];rfl
 exact⟨by rw[h1',e],by rw[e];exact h2⟩
def xV (a:GAttr):Bool:=(JG a).getD false
theorem A6C (a:GAttr) (hs:a.sz≤4000000):II a=some (xV a)∧JG a=some (xV a):=by
 rw[GAttr.sz_eq]at hs
 have h:∃c,II a=some c∧JG a=some c:=by
  rw[II,HX,JG,(sB a.Pre (by omega)).1,(sB a.Pre (by omega)).2,nM _ _ (by omega),(BP a.Local (by omega)).1,(BP a.Local (by omega)).2.1,(cx a.Val (by omega)).1,(cx a.Val (by omega)).2,(cx a.Uri (by omega)).1,ur]
  simp only[A1,Ue,A9P]
  cases jX a.Pre<;>cases Bq a.Pre ⟨#[]⟩<;>cases Bq a.Uri ⟨#[]⟩<;>cases Bj a.Local<;>cases Bq a.Local ⟨#[120,109,108,110,115]⟩<;>cases Vs a.Val<;>cases Vs a.Uri<;>cases TG (AL a.Uri) 40<;>exact⟨_,rfl,rfl⟩
 obtain⟨c,h3,h4⟩:=h
 have e:xV a=c:=by rw[xV,h4];rfl
 exact⟨by rw[h3,e],by rw[h4,e]⟩
theorem A6D (a b:GAttr):∃c,Gh a b=some c∧Gf a b=some (!geI c 0):=by
 rw[Gh,strings_Compare,strings_Compare,Gf]
 simp only[A1,Wa,A6B,A9Q,Bool.not_not]
 have h1:=A06 a.Uri b.Uri
 have h2:=A6B a.Uri b.Uri
 cases he:Bq a.Uri b.Uri with
 |false=>
  refine⟨_,rfl, ?_⟩
  rw[h1]
  cases ltS a.Uri b.Uri<;>rfl
 |true=>
  refine⟨_,rfl, ?_⟩
  rw[A06]
  have:ltS a.Uri b.Uri=false:=by
   rw[←h1,GB]
   rw[he]at h2
   have:=ZW.1 h2
   omega
  rw[this]
  rfl
theorem nO (n:GNode) (hl:n.Attrs.length≤4000000) (hs:∀d∈n.Attrs,d.sz≤4000000):∀(rest pre:List GAttr),pre++rest=n.Attrs→∃b,Ei pre.length n=some b∧E5 n.Attrs pre.length=some (b&&TG (AF n.Attrs) 5)
 | [],pre,hp=>⟨true,by rw[Ei,CZ hp];rfl,by rw[E5,CZ hp];rfl⟩
 |x::rest,pre,hp=>by
  have hx:x.sz≤4000000:=hs x (by rw[←hp];simp)
  obtain⟨b,h1,h2⟩:=nO n hl hs rest (pre++[x]) (CC hp)
  rw[Ei,E5,BZ hp,BI hp,C2 hp (by rw[BB];omega)]
  simp only[if_true,A1,(A6C x hx).1,(A6C x hx).2]
  cases xV x with
  |false=>exact⟨false,rfl,rfl⟩
  |true=>
   simp only[if_true]
   rcases eo pre with rfl|⟨p,y,rfl⟩
   ·have e:IR ((([]:List GAttr).length:Nat):Int) 0=false:=rfl
    rw[e]
    exact⟨b,h1,h2⟩
   ·obtain⟨e1,e2⟩:=el hp hl
    obtain⟨c,e3,e4⟩:=A6D y x
    rw[e1,e2]
    simp only[if_true,A1,e3,e4]
    cases geI c 0 with
    |true=>exact⟨false,rfl,rfl⟩
    |false=>exact⟨b,h1,h2⟩
theorem A2Y (n:GNode) (hl:n.Attrs.length≤4000000) (hs:∀d∈n.Attrs,d.sz≤4000000):∃b,IJ n=some b∧Oi n.Attrs=some (b&&TG (AF n.Attrs) 5):=by
 obtain⟨b,h1,h2⟩:=nO n hl hs n.Attrs [] rfl
 exact⟨b,by rw[IJ];exact h1,by rw[Oi];exact h2⟩
end TT
namespace TT
open Go
theorem AC5 {α:Type} (l:List α):IR (AF l) 0= !AX (AF l) 0:=by
 cases l with
 |nil=>rfl
 |cons x l=>rw[RL (by simp only[AF,List.length_cons];omega),C4 (by simp only[AF,List.length_cons];omega)];rfl
theorem A07 (s:ByteArray) (hs:s.size≤4000000):∃b,Gg s ⟨#[45]⟩=some b∧(if(Bq s ⟨#[]⟩)then some true else atS s (AY (AL s) 1)>>=fun x4=>some (neI x4 45))=some (!b):=by
 have e1:AL (⟨#[45]⟩:ByteArray)=1:=rfl
 rw[Gg,D0,e1]
 by_cases h:1≤s.size
 ·have e0:Bq s ⟨#[]⟩=false:=by
   cases he:Bq s ⟨#[]⟩with
   |false=>rfl
   |true=>rw[T9.1 he]at h;exact absurd h (by decide)
  have e2:AY (AL s) 1=((s.size-1:Nat):Int):=by rw[P6 (by simp only[AL];omega) (by simp only[AL];omega)];simp only[AL];omega
  have e3:PC s ((s.size-1:Nat):Int) (AL s)=some (s.extract (s.size-1) s.size):=by
   show PC s ((s.size-1:Nat):Int) ((s.size:Nat):Int)=_
   unfold PC
   rw[if_pos ⟨by omega,by omega,by omega⟩]
   congr 1
  have hd:s.data.toList.drop (s.size-1)=[s.data.toList[s.size-1]'(by rw[PE];omega)]:=by
   rw[List.drop_eq_getElem_cons (by rw[PE];omega)]
   congr 1
   exact List.drop_eq_nil_of_le (by rw[PE];omega)
  have e4:(s.extract (s.size-1) s.size).toList=[s.data.toList[s.size-1]'(by rw[PE];omega)]:=by
   rw[nJ,hd]
   have:s.size-(s.size-1)=1:=by omega
   rw[this];rfl
  have e5:KA s (s.size-1)=(s.data.toList[s.size-1]'(by rw[PE];omega)).toNat:=by
   show(s.data[s.size-1]!).toNat=_
   rw[←Array.getElem!_toList,getElem!_pos s.data.toList (s.size-1) (by rw[PE];omega)]
  rw[Ub (by simp only[AL];omega),e0,e2]
  simp only[if_true,e3,A1,bf,if_false,VK (i:=((s.size-1:Nat):Int)) rfl (show s.size-1<s.size by omega),Wa]
  refine⟨_,rfl, ?_⟩
  congr 2
  rw[e5,Bq,e4,Bool.eq_iff_iff,ZW,beq_iff_eq,show(⟨#[45]⟩:ByteArray).toList=[45]from by rw[Lib.toList_data]]
  constructor
  ·intro hh
   have:s.data.toList[s.size-1]'(by rw[PE];omega)=45:=UInt8.toNat_inj.1 (by have:((45:UInt8).toNat:Int)=45:=rfl;omega)
   rw[this]
  ·intro hh
   have:=(List.cons.inj hh).1
   rw[this];rfl
 ·have hz:s.size=0:=by omega
  have e0:Bq s ⟨#[]⟩=true:=T9.2 (by
   apply toList_inj
   rw[Lib.toList_data,Lib.toList_data]
   have:=PE s
   rw[hz]at this
   rw[List.eq_nil_of_length_eq_zero this])
  rw[bn (by simp only[AL];omega),e0]
  exact⟨false,rfl,rfl⟩
theorem A2Z (n:Int):∃b,Jg n=some b∧Jk n=some b:=by
 rw[Jg,Jk]
 cases AX n 9<;>cases AX n 10<;>cases AX n 13<;>exact⟨_,rfl,rfl⟩
theorem A2a (s:ByteArray) (hs:s.size≤4000000):∃b,(if(Bq s ⟨#[]⟩)then some true else atS s 0>>=fun x5=>Jg (wr .i64 x5)>>=fun r22=>some (!r22))=some b∧(if(Bq s ⟨#[]⟩)then some true else atS s 0>>=fun x=>Jk (wr .i64 x)>>=fun r5=>some (!r5))=some b:=by
 cases he:Bq s ⟨#[]⟩with
 |true=>exact⟨true,rfl,rfl⟩
 |false=>
  have hz:0<s.size:=by
   rcases Nat.eq_zero_or_pos s.size with h|h
   ·have:s=⟨#[]⟩:=by
     apply toList_inj
     rw[Lib.toList_data,Lib.toList_data]
     have:=PE s
     rw[h]at this
     rw[List.eq_nil_of_length_eq_zero this]
    rw[this]at he
    rw[ZB]at he
    cases he
   ·exact h
  obtain⟨b,h1,h2⟩:=A2Z (wr .i64 ((KA s 0:Nat):Int))
  have e:atS s 0=some ((KA s 0:Nat):Int):=VK (i:=0) (k:=0) rfl hz
  simp only[bf,if_false,e,A1,h1,h2]
  exact⟨_,rfl,rfl⟩
def sD (n:GNode):Bool:=(JF n).getD false
theorem AC6 (n:GNode) (hs:n.sz≤4000000) (hk:AX n.Kind 1=false):G2 n=some (sD n)∧JF n=some (sD n):=by
 rw[GNode.sz_eq]at hs
 have h:∃c,G2 n=some c∧JF n=some c:=by
  obtain⟨b1,s1,s2⟩:=A07 n.Text (by omega)
  obtain⟨b2,f1,f2⟩:=A2a n.Text (by omega)
  have c1:=WZ n.Text ⟨#[45,45]⟩ (by decide) (by omega) (by decide)
  have c2:=WZ n.Text ⟨#[13]⟩ (by decide) (by omega) (by decide)
  have c3:=WZ n.Text ⟨#[63,62]⟩ (by decide) (by omega) (by decide)
  have x1:=A9O n.Local (by omega)
  have p1:=BP n.Local (by omega)
  have t1:=cx n.Text (by omega)
  rw[G2,JF,JE,UV,UW,MP,hk,s1,s2,f1,f2,c1.1,c1.2,c2.1,c2.2,c3.1,c3.2,x1.1,x1.2,p1.1,p1.2.1,t1.1,t1.2]
  simp only[A1,Ue,Wa,AC5,bf,if_false]
  have k23:AX n.Kind 2=true→AX n.Kind 3=false∧AX n.Kind 4=false:=fun h=>by
   have:=ZW.1 h;exact⟨C4 (by omega),C4 (by omega)⟩
  have k34:AX n.Kind 3=true→AX n.Kind 4=false:=fun h=>by
   have:=ZW.1 h;exact C4 (by omega)
  cases Bq n.Pre ⟨#[]⟩<;>cases Bq n.Uri ⟨#[]⟩<;>cases AX (AF n.Decls) 0<;>cases AX (AF n.Attrs) 0<;>cases AX (AF n.Kids) 0
  all_goals try (cases h2:AX n.Kind 2<;>cases h3:AX n.Kind 3<;>cases h4:AX n.Kind 4<;>exact⟨false,rfl,rfl⟩)
  cases h2:AX n.Kind 2 with
  |true=>
   obtain⟨h3,h4⟩:=k23 h2
   rw[h4]
   cases Bq n.Local ⟨#[]⟩<;>cases Bq n.Text ⟨#[]⟩<;>cases Vs n.Text<;>exact⟨_,rfl,rfl⟩
  |false=>
   cases h3:AX n.Kind 3 with
   |true=>
    rw[k34 h3]
    cases Bq n.Local ⟨#[]⟩<;>cases Vs n.Text<;>cases Er n.Text ⟨#[45,45]⟩<;>cases Er n.Text ⟨#[13]⟩<;>cases b1<;>exact⟨_,rfl,rfl⟩
   |false=>
    cases h4:AX n.Kind 4 with
    |true=>cases Bq n.Local ⟨#[]⟩<;>cases Bj n.Local<;>cases aK n.Local ⟨#[120,109,108]⟩<;>cases Vs n.Text<;>cases Er n.Text ⟨#[63,62]⟩<;>cases Er n.Text ⟨#[13]⟩<;>exact⟨_,rfl,rfl⟩
    |false=>cases Bq n.Local ⟨#[]⟩<;>exact⟨_,rfl,rfl⟩
 obtain⟨c,h3,h4⟩:=h
 have e:sD n=c:=by rw[sD,h4];rfl
 exact⟨by rw[h3,e],by rw[h4,e]⟩
end TT
namespace TT
open Go
def elB (n:GNode):Bool:=(G2 n).getD false
theorem ADR (n:GNode) (hs:n.sz≤4000000) (hk:AX n.Kind 1=true):G2 n=some (elB n)∧∀(d:Int) (b:Bool),geI d 7=false→FX n (Ac d 1)=some b→Cm n d=some (elB n&&b):=by
 have hsz:=hs
 rw[GNode.sz_eq]at hs
 obtain⟨ab,a1,a2⟩:=A2Y n (by omega) (fun x hx=>by have:=BA GAttr.sz hx;omega)
 obtain⟨d1,d2⟩:=A9R n.Decls (by omega) (fun x hx=>by have:=BA GDecl.sz hx;omega)
 have e1:G2 n=some (jX n.Pre&&(Bj n.Local&&(Bq n.Text ⟨#[]⟩&&(ur n.Uri n.Pre&&(ZD n.Decls&&(ab&&TG (AF n.Attrs) 5)))))):=by
  rw[G2,hk,(sB n.Pre (by omega)).1,(BP n.Local (by omega)).1,(cx n.Uri (by omega)).1,d1,a1,ur]
  simp only[A1,Ue,if_true,uo]
  cases jX n.Pre<;>cases Bj n.Local<;>cases Bq n.Text ⟨#[]⟩<;>cases Bq n.Pre ⟨#[]⟩<;>cases Bq n.Uri ⟨#[]⟩<;>cases Vs n.Uri<;>cases TG (AL n.Uri) 40<;>cases ZD n.Decls<;>cases TG (AF n.Attrs) 5<;>cases ab<;>rfl
 have e2:elB n=(jX n.Pre&&(Bj n.Local&&(Bq n.Text ⟨#[]⟩&&(ur n.Uri n.Pre&&(ZD n.Decls&&(ab&&TG (AF n.Attrs) 5)))))):=by rw[elB,e1];rfl
 refine⟨by rw[e1,e2],fun d b hd hb=> ?_⟩
 rw[Cm,Wa,hk,hd,(sB n.Pre (by omega)).2,nM _ _ (by omega),(BP n.Local (by omega)).2.1,d2,a2,hb,e2]
 simp only[A1,Ue,Bool.not_true,bf,if_false]
 cases jX n.Pre<;>cases Bj n.Local<;>cases Bq n.Text ⟨#[]⟩<;>cases ur n.Uri n.Pre<;>cases ZD n.Decls<;>cases TG (AF n.Attrs) 5<;>cases ab<;>rfl
def xW (x:GNode) (deep:Int):Option Bool:=G2 x>>=fun r2=>if r2 then(if AX x.Kind 1 then(if AX deep 7 then some false else DV x.Kids (Ac deep 1))else some true)else some false
def isT (x:GNode):Bool:=AX x.Kind 2
def nP (pre:List GNode):Bool:=match pre.getLast? with
 |some y=>isT y
 |none=>false
def RP : Bool→List GNode→Bool
 |_,[]=>true
 |p,x::xs=> !(p&&isT x)&&RP (isT x) xs
theorem TK (pre:List GNode) (x:GNode):nP (pre++[x])=isT x:=by simp[nP]
def pB (d:Int) (k:GNode):Bool:=(Cm k d).getD false
theorem gK (l:List GNode) (hl:l.length≤4000000) (d:Int) (hk:∀k∈l,xW k d=some (pB d k)):∀(rest pre:List GNode),pre++rest=l→G3 l d pre.length=some (RP (nP pre) rest&&rest.all (pB d))
 | [],pre,hp=>by rw[G3,CZ hp];rfl
 |x::rest,pre,hp=>by
  have ih:=gK l hl d hk rest (pre++[x]) (CC hp)
  have hx:=hk x (by rw[←hp];simp)
  rw[TK]at ih
  rw[xW]at hx
  obtain⟨r2,h2,hx⟩:=Option.bind_eq_some_iff.1 hx
  have hj:r2=true→GP l d pre.length x=some (pB d x&&(RP (isT x) rest&&rest.all (pB d))):=fun hr=>by
   rw[hr]at hx
   rw[GP,C2 hp (by rw[BB];omega),ih]
   simp only[if_true]at hx
   revert hx
   cases AX x.Kind 1 with
   |false=>
    simp only[bf,if_false]
    intro hx
    rw[←Option.some.inj hx];rfl
   |true=>
    simp only[if_true]
    cases AX d 7 with
    |true=>simp only[if_true];intro hx;rw[←Option.some.inj hx];rfl
    |false=>
     simp only[bf,if_false]
     intro hx
     rw[hx]
     simp only[A1]
     cases pB d x<;>rfl
  rw[G3,BZ hp,BI hp]
  simp only[if_true,A1,h2]
  cases r2 with
  |false=>
   simp only[bf,if_false]at hx ⊢
   have:pB d x=false:=(Option.some.inj hx).symm
   simp only[List.all_cons,this,Bool.false_and,Bool.and_false]
  |true=>
   rw[hj rfl]
   simp only[if_true,RP,List.all_cons]
   show(if isT x=true then _ else _)=_
   cases hx2:isT x with
   |false=>simp only[bf,if_false,Bool.and_false,Bool.not_false,Bool.true_and];cases pB d x<;>simp
   |true=>
    simp only[if_true,Bool.and_true]
    rcases eo pre with rfl|⟨p,y,rfl⟩
    ·have e:IR ((([]:List GNode).length:Nat):Int) 0=false:=rfl
     rw[e]
     simp only[bf,if_false]
     show _=some ((!(false)&&RP true rest)&&_)
     cases pB d x<;>simp
    ·obtain⟨e1,e2⟩:=el hp hl
     rw[e1,e2,TK]
     simp only[if_true,A1]
     show(if isT y=true then _ else _)=_
     cases isT y with
     |true=>simp
     |false=>simp only[bf,if_false];cases pB d x<;>simp
theorem nQ (l:List GNode) (hl:l.length≤4000000):∀(rest pre:List GNode),pre++rest=l→Bh l pre.length=some (RP (nP pre) rest)
 | [],pre,hp=>by rw[Bh,CZ hp];rfl
 |x::rest,pre,hp=>by
  have ih:=nQ l hl rest (pre++[x]) (CC hp)
  rw[TK]at ih
  rw[Bh,BZ hp,BI hp,C2 hp (by rw[BB];omega),ih]
  simp only[if_true,A1,RP]
  rcases eo pre with rfl|⟨p,y,rfl⟩
  ·have e:IR ((([]:List GNode).length:Nat):Int) 0=false:=rfl
   rw[e];rfl
  ·obtain⟨e1,e2⟩:=el hp hl
   rw[e1,e2,TK]
   simp only[if_true,A1]
   show(if isT x=true then(if isT y=true then _ else _)else _)=_
   cases isT x<;>cases isT y<;>rfl
theorem xX (l:List GNode) (hl:l.length≤4000000) (d:Int) (hk:∀k∈l,Cm k d=some (pB d k)):∀(rest pre:List GNode),pre++rest=l→∃r,B4 l pre.length d=some (r,d)∧geI r 0= !rest.all (pB d)
 | [],pre,hp=>⟨-1,by rw[B4,CZ hp];rfl,rfl⟩
 |x::rest,pre,hp=>by
  obtain⟨r,h1,h2⟩:=xX l hl d hk rest (pre++[x]) (CC hp)
  rw[B4,BZ hp,BI hp,C2 hp (by rw[BB];omega)]
  simp only[if_true,A1,List.all_cons,Qx,hk x (by rw[←hp];simp)]
  cases pB d x with
  |true=>exact⟨r,h1,by rw[h2];rfl⟩
  |false=>exact⟨pre.length,rfl,by rw[Ub (by omega)];rfl⟩
def Vu (d:Int) (l:List GNode):Bool:=RP false l&&l.all (pB d)
theorem sE (n:GNode) (hl:n.Kids.length≤4000000) (d:Int) (hk:∀k∈n.Kids,Cm k d=some (pB d k)):FX n d=some (Vu d n.Kids):=by
 have h1:FC n.Kids=some (RP false n.Kids):=by rw[FC];exact nQ n.Kids hl n.Kids [] rfl
 obtain⟨r,h2,h3⟩:=xX n.Kids hl d hk n.Kids [] rfl
 have h2':B4 n.Kids 0 d=some (r,d):=h2
 rw[FX,h1,CM,D1,h2']
 simp only[A1,h3,Bool.not_not,Vu]
 cases RP false n.Kids<;>rfl
theorem nR : ∀ n:GNode,n.sz≤1200000→∀d:Nat,d≤7→Cm n d=some (pB d n)∧xW n d=some (pB d n):=by
 refine GNode.ind' fun n ih hs d hd=> ?_
 have h:∃b,Cm n d=some b∧xW n d=some b:=by
  have hsz:=hs
  rw[GNode.sz_eq]at hs
  cases hk:AX n.Kind 1 with
  |false=>
   obtain⟨l1,l2⟩:=AC6 n (by omega) hk
   refine⟨sD n, ?_, ?_⟩
   ·rw[Cm,Wa,hk,l2];rfl
   ·rw[xW,l1,hk]
    cases sD n<;>rfl
  |true=>
   obtain⟨e1,e2⟩:=ADR n (by omega) hk
   by_cases h7:d=7
   ·subst h7
    refine⟨false, ?_, ?_⟩
    ·rw[Cm,Wa,hk];rfl
    ·rw[xW,e1,hk]
     have:AX ((7:Nat):Int) 7=true:=rfl
     rw[this]
     cases elB n<;>rfl
   ·have hadd:Ac (d:Int) 1=((d+1:Nat):Int):=by rw[Cc (by omega) (by omega)];omega
    have hkid:∀k∈n.Kids,Cm k ((d+1:Nat):Int)=some (pB ((d+1:Nat):Int) k)∧xW k ((d+1:Nat):Int)=some (pB ((d+1:Nat):Int) k):=fun k hk=>ih k hk (by have:=BA GNode.sz hk;omega) (d+1) (by omega)
    have k1:=sE n (by omega) _ fun k hk=>(hkid k hk).1
    have k2:DV n.Kids ((d+1:Nat):Int)=some (Vu ((d+1:Nat):Int) n.Kids):=by
     rw[DV]
     exact gK n.Kids (by omega) _ (fun k hk=>(hkid k hk).2) n.Kids [] rfl
    refine⟨elB n&&Vu ((d+1:Nat):Int) n.Kids,e2 d _ (bn (by omega)) (by rw[hadd];exact k1), ?_⟩
    rw[xW,e1,hk,C4 (show(d:Int)≠7 by omega),hadd,k2]
    cases elB n<;>rfl
 obtain⟨b,h1,h2⟩:=h
 have e:pB d n=b:=by rw[pB,h1];rfl
 exact⟨by rw[h1,e],by rw[h2,e]⟩
theorem xY (l:List GNode) (hl:l.length≤4000000) (hs:∀k∈l,k.sz≤1200000) (d:Nat) (hd:d≤7):DV l d=some (Vu d l):=by
 rw[DV]
 exact gK l hl _ (fun k hk=>(nR k (hs k hk) d hd).2) l [] rfl
theorem A2b (n:GNode) (hs:n.sz≤1200000) (d:Nat) (hd:d≤7):FX n d=some (Vu d n.Kids):=by
 rw[GNode.sz_eq]at hs
 exact sE n (by omega) _ fun k hk=>(nR k (by have:=BA GNode.sz hk;omega) d hd).1
def cnt (n:GNode):Int:=(Dp n).getD 0
theorem xZ (n:GNode) (hl:n.Kids.length≤4000000) (hk:∀k∈n.Kids,∃c:Nat,Dp k=some (c:Int)∧Ec k=some (c:Int)∧c≤1+k.sz):∀(rest pre:List GNode) (a:Nat),pre++rest=n.Kids→a+rest.length+FG GNode.sz rest≤100000000→∃c:Nat,GO a pre.length n=some (c:Int)∧GR a n pre.length=some (c:Int)∧c≤a+rest.length+FG GNode.sz rest
 | [],pre,a,hp,hb=>⟨a,by rw[GO,CZ hp];rfl,by rw[GR,CZ hp];rfl,by omega⟩
 |x::rest,pre,a,hp,hb=>by
  obtain⟨c,h1,h2,h3⟩:=hk x (by rw[←hp];simp)
  rw[DI,List.length_cons]at hb
  obtain⟨q,g1,g2,g3⟩:=xZ n hl hk rest (pre++[x]) (a+c) (CC hp) (by omega)
  have e:Ac (a:Int) (c:Int)=((a+c:Nat):Int):=by rw[Cc (by omega) (by omega)];omega
  refine⟨q, ?_, ?_,by rw[DI,List.length_cons];omega⟩
  ·rw[GO,BZ hp,BI hp,C2 hp (by rw[BB];omega)]
   simp only[if_true,A1,h1,e]
   exact g1
  ·rw[GR,BZ hp,BI hp,C2 hp (by rw[BB];omega)]
   simp only[if_true,A1,h2,e]
   exact g2
theorem A0s : ∀ n:GNode,n.sz≤1200000→∃c:Nat,Dp n=some (c:Int)∧Ec n=some (c:Int)∧c≤1+n.sz:=by
 refine GNode.ind' fun n ih hs=> ?_
 have hz:=GNode.sz_eq n
 rw[hz]at hs
 obtain⟨c,h1,h2,h3⟩:=xZ n (by omega) (fun k hk=>ih k hk (by have:=BA GNode.sz hk;omega)) n.Kids [] (1+n.Attrs.length) rfl (by omega)
 have e:Ac 1 (AF n.Attrs)=((1+n.Attrs.length:Nat):Int):=by rw[Cc (by simp only[AF];omega) (by simp only[AF];omega)];simp only[AF];omega
 exact⟨c,by rw[Dp,e];exact h1,by rw[Ec,e];exact h2,by omega⟩
def ofK (k:Int) (l:List GNode):Nat:=l.countP fun x=>AX x.Kind k
theorem ZE (l:List GNode) (k:Int) (hl:l.length≤4000000):∀(rest pre:List GNode) (a:Nat),pre++rest=l→a+rest.length≤8000000→El k a l pre.length=some ((a+ofK k rest:Nat):Int)
 | [],pre,a,hp,hb=>by rw[El,CZ hp];rfl
 |x::rest,pre,a,hp,hb=>by
  rw[List.length_cons]at hb
  rw[El,BZ hp,BI hp,C2 hp (by rw[BB];omega)]
  simp only[if_true,A1]
  cases hx:AX x.Kind k with
  |true=>
   have e:Ac (a:Int) 1=((a+1:Nat):Int):=by rw[Cc (by omega) (by omega)];omega
   rw[e,if_pos rfl,ZE l k hl rest (pre++[x]) (a+1) (CC hp) (by omega)]
   simp only[ofK,List.countP_cons,hx,if_true]
   congr 2;omega
  |false=>
   simp only[bf,if_false]
   rw[ZE l k hl rest (pre++[x]) a (CC hp) (by omega)]
   simp only[ofK,List.countP_cons,hx,bf,if_false,Nat.add_zero]
theorem nS (l:List GNode) (k:Int) (hl:l.length≤4000000):MT l k=some (ofK k l:Int):=by
 rw[MT]
 have:=ZE l k hl l [] 0 rfl (by omega)
 simpa using this
def xa (n:GNode):Bool:=Bq n.Pre ⟨#[]⟩&&(Bq n.Local ⟨#[]⟩&&(Bq n.Uri ⟨#[]⟩&&(Bq n.Text ⟨#[]⟩&&(AX (AF n.Decls) 0&&AX (AF n.Attrs) 0))))
theorem sF (n:GNode) (hs:n.sz≤1200000):∀(rest pre:List GNode) (a:Nat),pre++rest=n.Kids→a+rest.length≤8000000→F8 a pre.length n=some (AX (ofK 2 rest:Int) 0&&(AX ((a+ofK 1 rest:Nat):Int) 1&&(xa n&&Vu 0 n.Kids)))
 | [],pre,a,hp,hb=>by
  have hk:=xY n.Kids (by rw[GNode.sz_eq]at hs;omega) (fun k hk=>by rw[GNode.sz_eq]at hs;have:=BA GNode.sz hk;omega) 0 (by omega)
  have hk':DV n.Kids 0=some (Vu 0 n.Kids):=hk
  rw[F8,CZ hp,hk',xa]
  simp only[bf,if_false,A1,ofK,List.countP_nil,Nat.add_zero]
  show _=some (true&&_)
  cases AX (a:Int) 1<;>cases Bq n.Pre ⟨#[]⟩<;>cases Bq n.Local ⟨#[]⟩<;>cases Bq n.Uri ⟨#[]⟩<;>cases Bq n.Text ⟨#[]⟩<;>cases AX (AF n.Decls) 0<;>cases AX (AF n.Attrs) 0<;>rfl
 |x::rest,pre,a,hp,hb=>by
  have hl:n.Kids.length≤4000000:=by rw[GNode.sz_eq]at hs;omega
  rw[List.length_cons]at hb
  have hj:∀q:Nat,q+rest.length≤8000000→GQ q pre.length n=some (!isT x&&(AX (ofK 2 rest:Int) 0&&(AX ((q+ofK 1 rest:Nat):Int) 1&&(xa n&&Vu 0 n.Kids)))):=fun q hq=>by
   rw[GQ,BI hp,C2 hp (by rw[BB];omega),sF n hs rest (pre++[x]) q (CC hp) hq]
   simp only[A1]
   show(if isT x=true then _ else _)=_
   cases isT x<;>rfl
  have ht:AX ((ofK 2 (x::rest):Nat):Int) 0=(!isT x&&AX (ofK 2 rest:Int) 0):=by
   simp only[ofK,List.countP_cons]
   show AX ((_+(if isT x=true then 1 else 0):Nat):Int) 0=_
   cases isT x with
   |false=>rfl
   |true=>rw[C4 (by simp only[if_true];omega)];rfl
  rw[F8,BZ hp,BI hp,ht]
  simp only[if_true,A1]
  cases hx:AX x.Kind 1 with
  |true=>
   have e:Ac (a:Int) 1=((a+1:Nat):Int):=by rw[Cc (by omega) (by omega)];omega
   rw[if_pos rfl,e,hj (a+1) (by omega)]
   simp only[ofK,List.countP_cons,hx,if_true]
   rw[show a+1+List.countP (fun x=>AX x.Kind 1) rest=a+(List.countP (fun x=>AX x.Kind 1) rest+1) by omega,Bool.and_assoc]
  |false=>
   simp only[bf,if_false]
   rw[hj a (by omega)]
   simp only[ofK,List.countP_cons,hx,bf,if_false,Nat.add_zero,Bool.and_assoc]
def bo (n:GNode):Bool:=(Hm n).getD false
theorem A08 (n:GNode) (hs:n.sz≤1200000):J4 n=some (bo n)∧Hm n=some (bo n):=by
 have h:∃c,J4 n=some c∧Hm n=some c:=by
  obtain⟨c,h1,h2,h3⟩:=A0s n hs
  have hl:n.Kids.length≤4000000:=by rw[GNode.sz_eq]at hs;omega
  rw[J4,Hm,h1,h2]
  simp only[A1]
  cases IR (c:Int) 60 with
  |true=>exact⟨false,rfl,rfl⟩
  |false=>
   simp only[bf,if_false]
   cases neI n.Kind 0 with
   |true=>
    simp only[if_true]
    have h4:=(nR n hs 0 (by omega)).1
    have h5:=xY [n] (by simp) (fun k hk=>by rw[List.mem_singleton.1 hk];exact hs) 0 (by omega)
    have h5':DV [n] 0=some (Vu 0 [n]):=h5
    have h4':Cm n 0=some (pB 0 n):=h4
    rw[h4',h5']
    refine⟨_,rfl, ?_⟩
    simp only[A1,Vu,RP,List.all_cons,List.all_nil,Bool.false_and,Bool.not_false,Bool.true_and,Bool.and_true]
   |false=>
    simp only[bf,if_false]
    have h6:=sF n hs n.Kids [] 0 rfl (by omega)
    have h6':F8 0 0 n=some (AX (ofK 2 n.Kids:Int) 0&&(AX ((0+ofK 1 n.Kids:Nat):Int) 1&&(xa n&&Vu 0 n.Kids))):=h6
    have h7:FX n 0=some (Vu 0 n.Kids):=A2b n hs 0 (by omega)
    rw[h6',Nat.zero_add,xa,Cn,Cn,nS _ _ hl,nS _ _ hl,h7]
    simp only[A1,bf,if_false]
    cases AX (ofK 2 n.Kids:Int) 0<;>cases AX (ofK 1 n.Kids:Int) 1<;>cases Bq n.Pre ⟨#[]⟩<;>cases Bq n.Local ⟨#[]⟩<;>cases Bq n.Uri ⟨#[]⟩<;>cases Bq n.Text ⟨#[]⟩<;>cases AX (AF n.Decls) 0<;>cases AX (AF n.Attrs) 0<;>exact⟨_,rfl,rfl⟩
 obtain⟨c,h3,h4⟩:=h
 have e:bo n=c:=by rw[bo,h4];rfl
 exact⟨by rw[h3,e],by rw[h4,e]⟩
end TT
