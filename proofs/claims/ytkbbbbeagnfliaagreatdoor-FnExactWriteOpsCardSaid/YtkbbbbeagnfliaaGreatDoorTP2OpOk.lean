import Derived.Test.YtkbbbbeagnfliaaGreatDoorTP2SelOkA
import Derived.Test.YtkbbbbeagnfliaaGreatDoorTP2Fits
import Derived.Lib.CutLaws
set_option linter.unusedVariables false
set_option linter.unusedSimpArgs false
namespace TT
open Go
theorem A6K (s:ByteArray) (j:Nat) (h:j<s.size):Lib.occAt s.data.toList [58] j=true↔KA s j=58:=by
 have hl:j<s.data.toList.length:=by rw[PE];exact h
 rw[Lib.occAt_iff_take _ _ _ (by rw[PE];exact h),List.drop_eq_getElem_cons hl]
 have e:KA s j=(s.data.toList[j]'hl).toNat:=by
  show(s.data[j]!).toNat=_
  rw[getElem!_pos s.data j h]
  simp
 rw[e]
 simp only[List.length_cons,List.length_nil,List.take_succ_cons,List.take_zero,List.cons_beq_cons,beq_self_eq_true,Bool.and_true,beq_iff_eq]
 constructor
 ·intro hh;rw[hh];rfl
 ·intro hh;exact UInt8.toNat_inj.1 hh
theorem A0t (s:ByteArray):((∀j,j<s.size→KA s j≠58)∧Zb s ⟨#[58]⟩=(s,⟨#[]⟩,false))∨∃k,k<s.size∧KA s k=58∧(∀j,j<k→KA s j≠58)∧Zb s ⟨#[58]⟩=(s.extract 0 k,s.extract (k+1) s.size,true):=by
 rcases Lib.index_spec s.data.toList [58]with ⟨h1,h2⟩|⟨k,h1,h2,h3,h4⟩
 ·refine .inl ⟨fun j hj hb=> ?_, ?_⟩
  ·have:=h2 j (by rw[PE];omega)
   rw[(A6K s j hj).2 hb]at this
   cases this
  ·obtain⟨a,b,c⟩:=Lib.cutB_miss s ⟨#[58]⟩ h1
   rw[Zb,a,b,c];rfl
 ·have hk:k<s.size:=by
   rcases Lib.occAt_room h3 with h'|h'
   ·rw[PE]at h';simp only[List.length_cons,List.length_nil]at h';omega
   ·cases h'
  refine .inr ⟨k,hk,(A6K s k hk).1 h3,fun j hj hb=> ?_, ?_⟩
  ·have:=h4 j hj
   rw[(A6K s j (by omega)).2 hb]at this
   cases this
  ·obtain⟨a,b,c⟩:=Lib.cutB_hit s ⟨#[58]⟩ k h1
   rw[Zb,a,b,c];rfl
theorem first_eq {s:ByteArray} {k m:Nat} (h1:KA s k=58) (h2:∀j,j<k→KA s j≠58) (h3:KA s m=58) (h4:∀j,j<m→KA s j≠58):k=m:=by
 rcases Nat.lt_trichotomy k m with h|h|h
 ·exact absurd h1 (h4 k h)
 ·exact h
 ·exact absurd h3 (h2 m h)
theorem A0C (s:ByteArray) (hs:s.size≤4000000):DG s=Bx s:=by
 have p1:=BP s hs
 cases hp:Bj s with
 |true=>
  rw[DG,Bx,p1.1,p1.2.1,hp];rfl
 |false=>
  rw[DG,p1.2.1,hp,strings_Cut,if_pos (by omega)]
  simp only[A1,bf,if_false]
  rcases ZY s hs hp with ⟨a1,a2⟩|⟨k,a1,a2,a3,a4⟩
  ·rcases A0t s with ⟨_,c⟩|⟨m,m1,m2,_⟩
   ·rw[a2,c];rfl
   ·exact absurd m2 (a1 m m1)
  ·rcases A0t s with ⟨c,_⟩|⟨m,m1,m2,m3,m4⟩
   ·exact absurd a2 (c k a1)
   ·have e:=first_eq m2 m3 a2 a3
    subst e
    have q1:=(BP (s.extract 0 m) (by simp;omega)).2.1
    have q2:=(BP (s.extract (m+1) s.size) (by simp;omega)).2.1
    rw[m4,a4]
    simp only[if_true,q1,q2,A1]
    cases Bj (s.extract 0 m)<;>cases Bj (s.extract (m+1) s.size)<;>rfl
theorem er {x y z:ByteArray} (h:Af x y=some z):z.size=x.size+y.size:=by
 unfold Af at h
 split at h
 ·cases h;exact ByteArray.size_append
 ·cases h
theorem bp (p l:ByteArray) (h1:p.size≤1500000) (h2:l.size≤1500000):BX p l=Az p l:=by
 have j4:∀s:ByteArray,s.size≤4000000→Da p l s=Bb p l s:=fun s hs=>by
  rw[Da,Bb,A0C s hs]
 have hc:(⟨#[58]⟩:ByteArray).size=1:=rfl
 rw[BX,Az,j4 l (by omega)]
 cases h:Af p ⟨#[58]⟩with
 |none=>simp only[xO]
 |some x=>
  have hx:=er h
  cases h':Af x l with
  |none=>simp only[A1,h',xO]
  |some y=>
   have hy:=er h'
   simp only[A1,h',j4 y (by omega)]
def twB : List GDecl→List GDecl→Bool
 |_,[]=>false
 |pre,x::rest=>(pre.any fun y=>Bq y.Pre x.Pre)||twB (pre++[x]) rest
theorem xg (o:GOp) (hl:o.Decls.length≤4000000) (x:GDecl) (i:Nat) (hx:AZ o.Decls i=some x) (hi:i<o.Decls.length):∀(m k:Nat),k+m=i→FU i k o=if((o.Decls.drop k).take m).any (fun y=>Bq y.Pre x.Pre)then some false else FV (i+1:Nat) o
 |0,k,h=>by
  have e:k=i:=by omega
  subst e
  rw[FU,GB (by omega),Cc (by omega) (by omega)]
  simp
 |m+1,k,h=>by
  have ih:=xg o hl x i hx hi m (k+1) (by omega)
  have hk:k<o.Decls.length:=by omega
  have hg:AZ o.Decls (k:Int)=some (o.Decls[k]'hk):=by
   unfold AZ
   rw[if_pos (by omega)]
   simp
  rw[FU,P7 (by omega),hg,hx,Cc (by omega) (by omega),List.drop_eq_getElem_cons hk,List.take_succ_cons,List.any_cons]
  simp only[if_true,A1]
  have e:((k:Int)+1)=((k+1:Nat):Int):=by omega
  rw[e,ih]
  cases Bq (o.Decls[k]'hk).Pre x.Pre<;>simp
theorem nX (o:GOp) (hl:o.Decls.length≤4000000) (hs:∀d∈o.Decls,d.sz≤4000000):∀(rest pre:List GDecl),pre++rest=o.Decls→FV pre.length o=if rest.all Vt&& !twB pre rest then Bg 0 0 o else some false
 | [],pre,hp=>by rw[FV,CZ hp];rfl
 |x::rest,pre,hp=>by
  have ih:=nX o hl hs rest (pre++[x]) (CC hp)
  have hlen:pre.length<o.Decls.length:=by rw[←hp];simp
  have ha:=xg o hl x pre.length (BI hp) hlen pre.length 0 (by omega)
  have hpre:(o.Decls.drop 0).take pre.length=pre:=by rw[←hp];simp
  have hll:(pre++[x]).length=pre.length+1:=by simp
  rw[hll]at ih
  rw[hpre,ih]at ha
  have ha':FU pre.length 0 o=_:=ha
  rw[FV,BZ hp,BI hp]
  simp only[if_true,A1,sC x (hs x (by rw[←hp];simp)),ha',List.all_cons,twB]
  by_cases h1:Vt x=true<;>by_cases h2:(pre.any fun y=>Bq y.Pre x.Pre)=true<;>simp[h1,h2]
theorem xh (l:List GDecl) (hl:l.length≤4000000) (x:GDecl):∀(rest pre:List GDecl),pre++rest=l→∃r,Aj l pre.length x=some (r,x)∧geI r 0=rest.any (fun y=>Bq y.Pre x.Pre)
 | [],pre,hp=>⟨-1,by rw[Aj,CZ hp];rfl,rfl⟩
 |y::rest,pre,hp=>by
  obtain⟨r,h1,h2⟩:=xh l hl x rest (pre++[y]) (CC hp)
  rw[Aj,BZ hp,BI hp,C2 hp (by rw[BB];omega)]
  simp only[if_true,A1,Kt,List.any_cons]
  cases he:Bq y.Pre x.Pre with
  |true=>exact⟨pre.length,by simp only[if_true],by rw[Ub (by omega)];rfl⟩
  |false=>exact⟨r,by simp only[bf,if_false];exact h1,by rw[h2];rfl⟩
theorem A9T {α:Type} {l pre rest:List α} (hp:pre++rest=l):slL l 0 (pre.length:Int)=some pre:=by
 unfold slL
 subst hp
 rw[if_pos ⟨by omega,by omega,by rw[List.length_append];omega⟩]
 simp
theorem uy (l:List GDecl) (hl:l.length≤4000000):∀(rest pre:List GDecl),pre++rest=l→DY l pre.length=some (twB pre rest)
 | [],pre,hp=>by rw[DY,CZ hp];rfl
 |x::rest,pre,hp=>by
  have ih:=uy l hl rest (pre++[x]) (CC hp)
  obtain⟨r,h1,h2⟩:=xh pre (by rw[←hp,List.length_append]at hl;omega) x pre [] rfl
  have h1':Aj pre 0 x=some (r,x):=h1
  rw[DY,BZ hp,BI hp,C2 hp (by rw[BB];omega),A9T hp]
  simp only[if_true,A1,C1,CW,h1',h2,ih,twB]
  cases pre.any (fun y=>Bq y.Pre x.Pre)<;>rfl
theorem d7 (l:List GDecl) (hl:l.length≤4000000) (hs:∀d∈l,d.sz≤4000000):∀(rest pre:List GDecl),pre++rest=l→∃r,An l pre.length=some r∧geI r 0= !rest.all Vt
 | [],pre,hp=>⟨-1,by rw[An,CZ hp];rfl,rfl⟩
 |x::rest,pre,hp=>by
  obtain⟨r,h1,h2⟩:=d7 l hl hs rest (pre++[x]) (CC hp)
  rw[An,BZ hp,BI hp,C2 hp (by rw[BB];omega)]
  simp only[if_true,A1,UU,gJ x (hs x (by rw[←hp];simp)),List.all_cons]
  cases hd:Vt x with
  |false=>exact⟨pre.length,by simp only[Bool.not_false,if_true],by rw[Ub (by omega)];rfl⟩
  |true=>exact⟨r,by simp only[Bool.not_true,bf,if_false];exact h1,by rw[h2];rfl⟩
def A0D (l:List GDecl) (x:GNode):Bool:= !AX x.Kind 0&&(bo x&&xc x l)
def cN (x:GNode):Nat:=(cnt x).toNat
theorem A6L (x:GNode) (hs:x.sz≤1200000):Dp x=some (cN x:Int)∧Ec x=some (cN x:Int)∧cN x≤1+x.sz:=by
 obtain⟨c,h1,h2,h3⟩:=A0s x hs
 have e:cN x=c:=by rw[cN,cnt,h1];rfl
 rw[e];exact⟨h1,h2,h3⟩
theorem sL (o:GOp) (hb:o.Kids.length+FG GNode.sz o.Kids≤1200000) (hd:o.Decls.length≤1200000):∀(rest pre:List GNode) (a:Nat),pre++rest=o.Kids→a+rest.length+FG GNode.sz rest≤4000000→Bg a pre.length o=if rest.all (A0D o.Decls)&&RP (nP pre) rest then Bg (a+FG cN rest:Nat) o.Kids.length o else some false
 | [],pre,a,hp,ha=>by
  have e:pre.length=o.Kids.length:=by rw[←hp];simp
  rw[e];rfl
 |x::rest,pre,a,hp,ha=>by
  have hmem:x∈o.Kids:=by rw[←hp];simp
  have hxs:=BA GNode.sz hmem
  obtain⟨c1,c2,c3⟩:=A6L x (by omega)
  rw[DI]at ha
  simp only[List.length_cons]at ha
  have ih:=sL o hb hd rest (pre++[x]) (a+cN x) (CC hp) (by omega)
  rw[TK]at ih
  have hsz:FG cN (x::rest)=cN x+FG cN rest:=by rw[DI]
  rw[Bg,BZ hp,BI hp,C2 hp (by rw[BB];omega)]
  have ea:Ac (a:Int) (cN x:Int)=((a+cN x:Nat):Int):=by rw[Cc (by omega) (by omega)];omega
  obtain⟨f1,f2⟩:=A6G x o.Decls (by omega) (by omega)
  simp only[if_true,A1,c1,(A08 x (by omega)).1,f1,ea,ih,List.all_cons,A0D,RP,hsz,←Nat.add_assoc]
  cases hk:AX x.Kind 0 with
  |true=>simp
  |false=>
   cases hn:bo x with
   |false=>simp
   |true=>
    cases hf:xc x o.Decls with
    |false=>simp
    |true=>
     rcases eo pre with h|⟨p,y,h⟩
     ·subst h
      have g:IR ((([]:List GNode).length:Nat):Int) 0=false:=rfl
      rw[g]
      cases ht:isT x<;>simp[nP,ht]
     ·subst h
      obtain⟨g1,g2⟩:=el hp (by omega)
      rw[g1,g2,TK]
      simp only[if_true,A1]
      have e1:AX x.Kind 2=isT x:=rfl
      have e2:AX y.Kind 2=isT y:=rfl
      rw[e1,e2]
      cases isT x<;>cases isT y<;>simp
theorem sM (o:GOp) (hb:o.Kids.length+FG GNode.sz o.Kids≤1200000) (hd:o.Decls.length≤1200000):∀(rest pre:List GNode) (a:Nat),pre++rest=o.Kids→a+rest.length+FG GNode.sz rest≤4000000→DZ a o pre.length=if rest.all (A0D o.Decls)then some (TG ((a+FG cN rest:Nat):Int) 60&&RP false o.Kids)else some false
 | [],pre,a,hp,ha=>by
  have h:=nQ o.Kids (by omega) o.Kids [] rfl
  have h':Bh o.Kids 0=some (RP false o.Kids):=h
  rw[DZ,CZ hp,FC,h']
  simp only[bf,if_false,A1,List.all_nil,if_true]
  have e:FG cN ([]:List GNode)=0:=rfl
  rw[e,Nat.add_zero]
  cases TG (a:Int) 60<;>rfl
 |x::rest,pre,a,hp,ha=>by
  have hmem:x∈o.Kids:=by rw[←hp];simp
  have hxs:=BA GNode.sz hmem
  obtain⟨c1,c2,c3⟩:=A6L x (by omega)
  rw[DI]at ha
  simp only[List.length_cons]at ha
  have ih:=sM o hb hd rest (pre++[x]) (a+cN x) (CC hp) (by omega)
  have hsz:FG cN (x::rest)=cN x+FG cN rest:=by rw[DI]
  rw[DZ,BZ hp,BI hp,C2 hp (by rw[BB];omega)]
  have ea:Ac (a:Int) (cN x:Int)=((a+cN x:Nat):Int):=by rw[Cc (by omega) (by omega)];omega
  obtain⟨f1,f2⟩:=A6G x o.Decls (by omega) (by omega)
  simp only[if_true,A1,c2,(A08 x (by omega)).2,f2,ea,ih,List.all_cons,A0D,hsz,←Nat.add_assoc]
  cases AX x.Kind 0<;>cases bo x<;>cases xc x o.Decls<;>simp
theorem A2e (o:GOp) (n:Nat) (h1:o.Pre.size≤1500000) (h2:o.Local.size≤1500000) (hl:o.Kids.length≤1200000) (hk:1≤o.Kind∧o.Kind≤3) (hn:TG n 60=true):∃t,Bg n o.Kids.length o=some t∧(if AX o.Typ 0 then(if Bq o.Pre (⟨#[]⟩)then CQ (Bq o.Local (⟨#[]⟩)) o else CQ false o)else CQ false o)=some t:=by
 obtain⟨j,j1,_⟩:=eq o.Pre o.Local h1 h2
 have j2:=bp o.Pre o.Local h1 h2
 rw[j1]at j2
 obtain⟨b,x1,x2⟩:=uq o.Local (by omega)
 rw[Bg,GB (by simp only[AF];omega)]
 simp only[bf,if_false,uo,Wa,Ud,s9,j1,j2,A1,J6,CQ,MU,G6,x1,x2]
 have hT:(AX o.Typ 0=true∧AX o.Typ 6=false∧AX o.Typ 7=false)∨(AX o.Typ 0=false∧AX o.Typ 6=true∧AX o.Typ 7=false)∨(AX o.Typ 0=false∧AX o.Typ 6=false∧AX o.Typ 7=true)∨(AX o.Typ 0=false∧AX o.Typ 6=false∧AX o.Typ 7=false):=by
  by_cases t0:o.Typ=0
  ·exact .inl ⟨RM t0,C4 (by omega),C4 (by omega)⟩
  ·by_cases t6:o.Typ=6
   ·exact .inr (.inl ⟨C4 t0,RM t6,C4 (by omega)⟩)
   ·by_cases t7:o.Typ=7
    ·exact .inr (.inr (.inl ⟨C4 t0,C4 t6,RM t7⟩))
    ·exact .inr (.inr (.inr ⟨C4 t0,C4 t6,C4 t7⟩))
 have hK:(AX o.Kind 1=true∧AX o.Kind 2=false∧AX o.Kind 3=false)∨(AX o.Kind 1=false∧AX o.Kind 2=true∧AX o.Kind 3=false)∨(AX o.Kind 1=false∧AX o.Kind 2=false∧AX o.Kind 3=true):=by
  by_cases t0:o.Kind=1
  ·exact .inl ⟨RM t0,C4 (by omega),C4 (by omega)⟩
  ·by_cases t6:o.Kind=2
   ·exact .inr (.inl ⟨C4 t0,RM t6,C4 (by omega)⟩)
   ·exact .inr (.inr ⟨C4 t0,C4 t6,RM (by omega)⟩)
 have hN:(TG (AF o.Kids) 1=true∧AX (AF o.Kids) 1=false)∨(TG (AF o.Kids) 1=true∧AX (AF o.Kids) 1=true∧∃x,AZ o.Kids 0=some x)∨TG (AF o.Kids) 1=false:=by
  by_cases t0:o.Kids.length=1
  ·refine .inr (.inl ⟨Z9 (by simp only[AF];omega),RM (by simp only[AF];omega), ?_⟩)
   cases hc:o.Kids with
   |nil=>rw[hc]at t0;simp at t0
   |cons x r=>exact⟨x,rfl⟩
  ·by_cases t1:o.Kids.length=0
   ·exact .inl ⟨Z9 (by simp only[AF];omega),C4 (by simp only[AF];omega)⟩
   ·exact .inr (.inr (nA (by simp only[AF];omega)))
 rcases hK with ⟨k1,k2,k3⟩|⟨k1,k2,k3⟩|⟨k1,k2,k3⟩
 ·by_cases w:AX o.Ws 0=true
  ·by_cases p:decide ((0:Int)≤o.Pos∧o.Pos≤3)=true
   ·rcases hT with ⟨g0,g6,g7⟩|⟨g0,g6,g7⟩|⟨g0,g6,g7⟩|⟨g0,g6,g7⟩<;>rcases hN with ⟨n1,n2⟩|⟨n1,n2,x,n3⟩|n1<;>(by_cases a:Bq o.Pre ⟨#[]⟩=true<;>by_cases c:Bq o.Local ⟨#[]⟩=true<;>by_cases q:AX o.Pos 0=true<;>by_cases jj:Bq j ⟨#[]⟩=true<;>first|(simp[*];done)|(by_cases xk:AX x.Kind 2=true<;>simp[*]))
   ·simp[hn,k1,w,p]
  ·simp[hn,k1,w]
 ·rcases hT with ⟨g0,g6,g7⟩|⟨g0,g6,g7⟩|⟨g0,g6,g7⟩|⟨g0,g6,g7⟩<;>by_cases w:AX o.Ws 0=true<;>by_cases q:AX o.Pos 0=true<;>by_cases a:Bq o.Pre ⟨#[]⟩=true<;>by_cases c:Bq o.Local ⟨#[]⟩=true<;>simp[hn,k1,k2,k3,g0,w,q,a,c]
 ·by_cases p:decide ((0:Int)≤o.Ws∧o.Ws≤3)=true<;>rcases hT with ⟨g0,g6,g7⟩|⟨g0,g6,g7⟩|⟨g0,g6,g7⟩|⟨g0,g6,g7⟩<;>by_cases q:AX o.Pos 0=true<;>by_cases a:Bq o.Pre ⟨#[]⟩=true<;>by_cases c:Bq o.Local ⟨#[]⟩=true<;>simp[hn,k1,k2,k3,g0,p,q,a,c]
theorem A2f (o:GOp) (n:Nat) (hn:TG n 60=false):Bg n o.Kids.length o=some false:=by
 rw[Bg,GB (by simp only[AF];omega)]
 simp only[bf,if_false,uo,hn,Bool.not_false,if_true]
theorem A6M (o:GOp) (hk:¬(1≤o.Kind∧o.Kind≤3)) (b:Bool):CQ b o=some false:=by
 rw[CQ,C4 (show o.Kind≠1 by omega),C4 (show o.Kind≠2 by omega),C4 (show o.Kind≠3 by omega)]
 rfl
theorem A2g (o:GOp) (hs:o.sz≤1200000):∃r,Vh o=some r∧MV o=some r:=by
 have hz:=GOp.sz_eq o
 rw[hz]at hs
 obtain⟨e,e1,e2⟩:=sK o.Sel (by omega)
 have hd:∀d∈o.Decls,d.sz≤4000000:=fun d h=>by have:=BA GDecl.sz h;omega
 have a1:=nX o (by omega) hd o.Decls [] rfl
 have a1':FV 0 o=_:=a1
 have b1:=uy o.Decls (by omega) o.Decls [] rfl
 have b1':DY o.Decls 0=_:=b1
 obtain⟨r,c1,c2⟩:=d7 o.Decls (by omega) hd o.Decls [] rfl
 have c1':An o.Decls 0=some r:=c1
 have d1:=sL o (by omega) (by omega) o.Kids [] 0 rfl (by omega)
 have d1':Bg 0 0 o=_:=d1
 have f1:=sM o (by omega) (by omega) o.Kids [] 0 rfl (by omega)
 have f1':DZ 0 o 0=_:=f1
 have hl:nP []=false:=rfl
 rw[hl]at d1'
 rw[Nat.zero_add]at d1' f1'
 rw[Vh,MV,e1,e2,Ud,a1',d1',KK,b1',Bn,CJ,c1',Qy,f1']
 simp only[A1,c2]
 by_cases hk:1≤o.Kind∧o.Kind≤3
 ·rw[decide_eq_true hk]
  by_cases hn:TG ((FG cN o.Kids:Nat):Int) 60=true
  ·obtain⟨t,t1,t2⟩:=A2e o (FG cN o.Kids) (by omega) (by omega) (by omega) hk hn
   rw[t1,t2,hn]
   by_cases h1:e=true<;>by_cases h2:IR (AF o.Decls) 8=true<;>by_cases h3:twB [] o.Decls=true<;>by_cases h4:o.Decls.all Vt=true<;>by_cases h5:o.Kids.all (A0D o.Decls)=true<;>by_cases h6:RP false o.Kids=true<;>simp[h1,h2,h3,h4,h5,h6]
  ·have hn':TG ((FG cN o.Kids:Nat):Int) 60=false:=by simpa using hn
   rw[A2f o _ hn',hn']
   by_cases h1:e=true<;>by_cases h2:IR (AF o.Decls) 8=true<;>by_cases h3:twB [] o.Decls=true<;>by_cases h4:o.Decls.all Vt=true<;>by_cases h5:o.Kids.all (A0D o.Decls)=true<;>by_cases h6:RP false o.Kids=true<;>simp[h1,h2,h3,h4,h5,h6]
 ·rw[decide_eq_false hk]
  simp only[A6M o hk]
  by_cases h1:e=true<;>by_cases h2:IR (AF o.Decls) 8=true<;>by_cases h3:twB [] o.Decls=true<;>by_cases h4:o.Decls.all Vt=true<;>by_cases h5:o.Kids.all (A0D o.Decls)=true<;>simp[h1,h2,h3,h4,h5]
end TT
