import Derived.Test.YtpmnlfgdicmiiaaGreatDoorTP2Sign
import Derived.Test.YtpmnlfgdicmiiaaGreatDoorTP1
set_option linter.unusedVariables false
set_option linter.unusedSimpArgs false
namespace TT
open Go
theorem tk (s:ByteArray) (hs:s.size≤4000000):∃b,Kl s=some b∧JS s=some b:=by
 obtain⟨b,h1,h2⟩:=wW s hs
 obtain⟨a1,a2⟩:=eP s ⟨#[39]⟩ (by decide) hs (by decide)
 obtain⟨c1,c2⟩:=eP s ⟨#[34]⟩ (by decide) hs (by decide)
 rw[Kl,JS,h1,h2,a1,a2,c1,c2]
 simp only[A3]
 cases b with
 |false=>exact⟨false,rfl,rfl⟩
 |true=>
  cases GL s ⟨#[39]⟩with
  |false=>exact⟨true,rfl,rfl⟩
  |true=>exact⟨!(GL s ⟨#[34]⟩),rfl,rfl⟩
theorem Vb {x y:ByteArray} (h:x.data.toList=y.data.toList):x=y:=toList_inj (by rw[Lib.toList_data,Lib.toList_data,h])
theorem A5N {x y:ByteArray} (h:x≠y):C6 x y=false:=by
 cases he:C6 x y with
 |false=>rfl
 |true=>exact absurd (RC.1 he) h
theorem wl {x y:ByteArray} (h:x.size≠y.size):C6 x y=false:=A5N fun e=>h (by rw[e])
def qn (pre loc:ByteArray):Bool:=if C6 pre ⟨#[]⟩then Ct loc else(Ct pre&&Ct loc)
theorem qo (pre loc:ByteArray) (h1:pre.size≤4000000) (h2:loc.size≤4000000):Kj pre loc=some (qn pre loc):=by
 rw[Kj,(DY pre h1).2.1,(DY loc h2).2.1,qn]
 simp only[A3]
 cases C6 pre ⟨#[]⟩<;>cases Ct pre<;>rfl
theorem cM (s:ByteArray) (hs:s.size≤4000000) (k:Nat) (hk:k≤s.size):∀(m i:Nat),i+m=k→(∀j,i≤j→j<k→Ri s j≠58)→BY s i=BY s k
 |0,i,h,_=>by rw[show i=k by omega]
 |m+1,i,h,hn=>by
  have hi:i<s.size:=by omega
  have hb:=hn i (Nat.le_refl _) (by omega)
  rw[BY,Sq (by simp only[B7];omega),X1 rfl hi]
  simp only[if_true,A3]
  rw[H0 (by omega),Bk (by omega) (by omega)]
  simp only[bf,if_false]
  exact cM s hs k hk m (i+1) (by omega) (fun j h1 h2=>hn j (by omega) h2)
theorem A2A (s:ByteArray):BY s s.size=some (⟨#[]⟩,⟨#[]⟩,false):=by
 rw[BY,Hr (by simp only[B7];omega)];rfl
theorem A5l (s:ByteArray) (hs:s.size≤4000000) (k:Nat) (hk:k<s.size) (hb:Ri s k=58):BY s k=if Ct (s.extract 0 k)&&Ct (s.extract (k+1) s.size)then some (s.extract 0 k,s.extract (k+1) s.size,true)else some (⟨#[]⟩,⟨#[]⟩,false):=by
 have e1:Pk s 0 k=some (s.extract 0 k):=by
  unfold Pk
  rw[if_pos ⟨by omega,by omega,by omega⟩];rfl
 have e2:Pk s (k+1) (B7 s)=some (s.extract (k+1) s.size):=by
  unfold Pk B7
  rw[if_pos ⟨by omega,by omega,by omega⟩];rfl
 have p1:=(DY (s.extract 0 k) (by simp;omega)).1
 have p2:=(DY (s.extract (k+1) s.size) (by simp;omega)).1
 rw[BY,Sq (by simp only[B7];omega),X1 rfl hk,hb]
 simp only[if_true,A3]
 rw[show Ag ((58:Nat):Int) 58=true from rfl,Bk (by omega) (by omega)]
 simp only[if_true,e1,e2,A3,p1,p2]
 cases Ct (s.extract 0 k)<;>cases Ct (s.extract (k+1) s.size)<;>rfl
theorem A0A (s:ByteArray):∀n,(∀j,j<n→Ri s j≠58)∨∃k,k<n∧Ri s k=58∧∀j,j<k→Ri s j≠58
 |0=> .inl fun j h=>by omega
 |n+1=>by
  rcases A0A s n with h|⟨k,h1,h2,h3⟩
  ·by_cases hn:Ri s n=58
   ·exact .inr ⟨n,Nat.lt_succ_self _,hn,h⟩
   ·refine .inl fun j hj=> ?_
    by_cases e:j=n
    ·rw[e];exact hn
    ·exact h j (by omega)
  ·exact .inr ⟨k,by omega,h2,h3⟩
theorem qp (s:ByteArray) (hs:s.size≤4000000) (hp:Ct s=false):
  ((∀j,j<s.size→Ri s j≠58)∧FX s=some (⟨#[]⟩,⟨#[]⟩,false))∨
  ∃k,k<s.size∧Ri s k=58∧(∀j,j<k→Ri s j≠58)∧FX s=if Ct (s.extract 0 k)&&Ct (s.extract (k+1) s.size)then some (s.extract 0 k,s.extract (k+1) s.size,true)else some (⟨#[]⟩,⟨#[]⟩,false):=by
 have e:FX s=BY s 0:=by
  rw[FX,(DY s hs).1,hp];rfl
 rcases A0A s s.size with h|⟨k,h1,h2,h3⟩
 ·refine .inl ⟨h, ?_⟩
  rw[e,←A2A s]
  exact cM s hs s.size (Nat.le_refl _) s.size 0 (by omega) (fun j _ hj=>h j hj)
 ·refine .inr ⟨k,h1,h2,h3, ?_⟩
  rw[e,←A5l s hs k h1 h2]
  exact cM s hs k (by omega) k 0 (by omega) (fun j _ hj=>h3 j hj)
theorem mc (x y:ByteArray) (k:Nat) (h:k<x.size):Ri (x++y) k=Ri x k:=by
 have e:(x++y).data=x.data++y.data:=by simp
 have h':k<x.data.size:=h
 show((x++y).data[k]!).toNat=(x.data[k]!).toNat
 rw[e]
 simp only[getElem!_def]
 rw[Array.getElem?_append_left h']
theorem A5m (x y:ByteArray) (k:Nat):Ri (x++y) (x.size+k)=Ri y k:=by
 have e:(x++y).data=x.data++y.data:=by simp
 show((x++y).data[x.size+k]!).toNat=(y.data[k]!).toNat
 rw[e]
 simp only[getElem!_def]
 rw[Array.getElem?_append_right (by show x.data.size≤x.data.size+k;omega)]
 have:x.size+k-x.data.size=k:=by show x.data.size+k-x.data.size=k;omega
 rw[this]
theorem wm (pre loc:ByteArray) (h1:pre.size≤1500000) (h2:loc.size≤1500000):∃r,I8 pre loc=some r∧(!C6 r ⟨#[]⟩)=qn pre loc:=by
 have es:∀r:ByteArray,r.size≠0→C6 r ⟨#[]⟩=false:=fun r hr=>wl hr
 have ee:C6 (⟨#[]⟩:ByteArray) ⟨#[]⟩=true:=Ix _
 unfold qn
 cases hpre:C6 pre ⟨#[]⟩with
 |true=>
  have hpe:pre=⟨#[]⟩:=RC.1 hpre
  rw[I8,Wv,hpre]
  simp only[Bool.not_true,bf,if_false,GM,if_true]
  cases hp:Ct loc with
  |true=>
   have:=(DY loc (by omega)).2.2 hp
   rw[FX,(DY loc (by omega)).1,hp]
   simp only[A3,if_true,Wv,hpe,ee,Ix,Bool.not_true,bf,if_false]
   exact⟨loc,rfl,by rw[es loc (by omega)];rfl⟩
  |false=>
   rcases qp loc (by omega) hp with ⟨_,e⟩|⟨k,k1,k2,k3,e⟩
   ·rw[e]
    simp only[A3,bf,if_false]
    exact⟨_,rfl,by rw[ee];rfl⟩
   ·rw[e]
    cases hb:Ct (loc.extract 0 k)&&Ct (loc.extract (k+1) loc.size)with
    |false=>simp only[A3,bf,if_false];exact⟨_,rfl,by rw[ee];rfl⟩
    |true=>
     simp only[bz]at hb
     have hx:=(DY (loc.extract 0 k) (by simp;omega)).2.2 hb.1
     simp only[A3,if_true,Wv,hpe]
     rw[es _ (by omega)]
     simp only[Bool.not_false,if_true]
     exact⟨_,rfl,by rw[ee];rfl⟩
 |false=>
  have hne:pre.size≠0:=fun h=>by
   have:pre=⟨#[]⟩:=by
    apply Vb
    have:pre.data.toList.length=0:=by rw[Array.length_toList];exact h
    rw[List.eq_nil_of_length_eq_zero this]
   rw[this]at hpre
   rw[ee]at hpre
   cases hpre
  have hc:(⟨#[58]⟩:ByteArray).size=1:=rfl
  rw[I8,Wv,hpre]
  have c1:I1 pre ⟨#[58]⟩=some (pre++⟨#[58]⟩):=by unfold I1;rw[if_pos (by omega)]
  have hz:(pre++(⟨#[58]⟩:ByteArray)).size=pre.size+1:=by rw[ByteArray.size_append,hc]
  have c2:I1 (pre++⟨#[58]⟩) loc=some (pre++⟨#[58]⟩++loc):=by unfold I1;rw[if_pos (by omega)]
  simp only[Bool.not_false,if_true,c1,c2,A3,GM,bf,if_false]
  generalize hs0:pre++(⟨#[58]⟩:ByteArray)++loc=s
  have hsz:s.size=pre.size+1+loc.size:=by rw[←hs0,ByteArray.size_append,hz]
  have hl:s.data.toList=pre.data.toList++([58]++loc.data.toList):=by rw[←hs0];simp
  have hpl:pre.data.toList.length=pre.size:=Array.length_toList
  have hll:loc.data.toList.length=loc.size:=Array.length_toList
  have hcol:Ri s pre.size=58:=by
   rw[←hs0,mc _ _ _ (by omega)]
   have:=A5m pre ⟨#[58]⟩ 0
   rw[Nat.add_zero]at this
   rw[this];rfl
  have hlow:∀k,k<pre.size→Ri s k=Ri pre k:=fun k hk=>by
   rw[←hs0,mc _ _ _ (by omega),mc _ _ _ hk]
  have hp:Ct s=false:=by
   cases hp:Ct s with
   |false=>rfl
   |true=>exact absurd hcol ((DY s (by omega)).2.2 hp |>.2 pre.size (by omega))
  have hsn:C6 s ⟨#[]⟩=false:=es s (by omega)
  rcases qp s (by omega) hp with ⟨hno,_⟩|⟨k,k1,k2,k3,e⟩
  ·exact absurd hcol (hno pre.size (by omega))
  ·have hkle:k≤pre.size:=by
    rcases Nat.lt_or_ge pre.size k with h|h
    ·exact absurd hcol (k3 pre.size h)
    ·exact h
   rw[e]
   by_cases hk:k=pre.size
   ·subst hk
    have x1:s.extract 0 pre.size=pre:=by
     apply Vb
     rw[Lib.extract_data,hl,List.drop_zero,Nat.sub_zero,←hpl,List.take_left']
     rfl
    have x2:s.extract (pre.size+1) s.size=loc:=by
     apply Vb
     rw[Lib.extract_data,hl,←List.append_assoc,List.drop_left' (by simp[hpl]),List.take_of_length_le (by omega)]
    rw[x1,x2]
    cases hb:Ct pre&&Ct loc with
    |false=>simp only[A3,bf,if_false];exact⟨_,rfl,by rw[ee];rfl⟩
    |true=>
     simp only[A3,if_true,Wv,Ix,Bool.not_true,bf,if_false]
     exact⟨s,rfl,by rw[hsn];rfl⟩
   ·have hpp:Ct pre=false:=by
     cases hp:Ct pre with
     |false=>rfl
     |true=>exact absurd (hlow k (by omega)▸k2) ((DY pre (by omega)).2.2 hp |>.2 k (by omega))
    rw[hpp,Bool.false_and]
    cases hb:Ct (s.extract 0 k)&&Ct (s.extract (k+1) s.size)with
    |false=>simp only[A3,bf,if_false];exact⟨_,rfl,by rw[ee];rfl⟩
    |true=>
     have hx:C6 (s.extract 0 k) pre=false:=wl (by simp;omega)
     simp only[A3,if_true,Wv,hx,Bool.not_false]
     exact⟨_,rfl,by rw[ee];rfl⟩
theorem A8i (m n:Int):Ag m n=decide (m=n):=by
 by_cases h:m=n
 ·rw[WK h];simp[h]
 ·rw[H0 h];simp[h]
theorem A5n (p:AH) (kind:Int) (hs:p.sz≤1500000):∃b,Im p kind=some b∧GC p kind=some b:=by
 have hz:=AH.sz_eq p
 obtain⟨r,j1,j2⟩:=wm p.Pre p.Local (by omega) (by omega)
 obtain⟨v,v1,v2⟩:=tk p.Val (by omega)
 have n1:=qo p.Pre p.Local (by omega) (by omega)
 have ek:decide ((1:Int)≤kind∧kind≤2)=(Ag kind 1||Ag kind 2):=by
  rw[Bool.eq_iff_iff]
  simp[A8i]
  omega
 simp only[Im,Gk,GC,Gj,Gi,Ji,ZY,A04,j1,v1,v2,n1,A3,Wv,j2,ek]
 by_cases k1:Ag p.Kind 1=true
 ·by_cases a:C6 p.Pre ⟨#[]⟩=true<;>by_cases b:C6 p.Local ⟨#[]⟩=true<;>by_cases e1:Ag kind 1=true<;>by_cases q:decide ((1:Int)≤p.N∧p.N≤999)=true<;>simp[k1,a,b,e1,q]
 ·by_cases k23:Ag p.Kind 2=true∨Ag p.Kind 3=true
  ·have k2':Ag p.Kind 2=true∨(Ag p.Kind 2=false∧Ag p.Kind 3=true):=by
    rcases k23 with h|h
    ·exact .inl h
    ·cases h2:Ag p.Kind 2 with
     |true=>exact .inl rfl
     |false=>exact .inr ⟨rfl,h⟩
   rcases k2' with k2|⟨k2,k3⟩
   ·by_cases a:C6 p.Pre ⟨#[]⟩=true<;>by_cases e1:Ag kind 1=true<;>by_cases e2:Ag kind 2=true<;>by_cases n0:Ag p.N 0=true<;>by_cases nb:qn p.Pre p.Local=true<;>simp[k1,k2,a,e1,e2,n0,nb]
   ·by_cases a:C6 p.Pre ⟨#[]⟩=true<;>by_cases e1:Ag kind 1=true<;>by_cases e2:Ag kind 2=true<;>by_cases n0:Ag p.N 0=true<;>by_cases nb:qn p.Pre p.Local=true<;>simp[k1,k2,k3,a,e1,e2,n0,nb]
  ·have k2:Ag p.Kind 2=false:=by
    cases h:Ag p.Kind 2 with
    |true=>exact absurd (.inl h) k23
    |false=>rfl
   have k3:Ag p.Kind 3=false:=by
    cases h:Ag p.Kind 3 with
    |true=>exact absurd (.inr h) k23
    |false=>rfl
   by_cases k4:Ag p.Kind 4=true
   ·by_cases a:C6 p.Pre ⟨#[]⟩=true<;>by_cases b:C6 p.Local ⟨#[]⟩=true<;>by_cases e1:Ag kind 1=true<;>by_cases e2:Ag kind 2=true<;>by_cases n0:Ag p.N 0=true<;>simp[k1,k2,k3,k4,a,b,e1,e2,n0]
   ·by_cases a:C6 p.Pre ⟨#[]⟩=true<;>by_cases e1:Ag kind 1=true<;>simp[k1,k2,k3,k4,a,e1]
def bL (p:AH) (kind:Int):Bool:=(GC p kind).getD false
theorem A0B (p:AH) (kind:Int) (hs:p.sz≤1500000):Im p kind=some (bL p kind)∧GC p kind=some (bL p kind):=by
 obtain⟨b,h1,h2⟩:=A5n p kind hs
 have:bL p kind=b:=by rw[bL,h2];rfl
 rw[this];exact⟨h1,h2⟩
def mf (x:AE):Bool:=x.Preds.all fun p=>bL p x.Kind
theorem zU (x:AE) (d:Bool) (hl:x.Preds.length≤1500000) (hz:∀p∈x.Preds,p.sz≤1500000):DK 0 d x=if mf x then(if Ag x.Kind 1 then CY x true d else CY x (Ag x.Kind 6) d)else some false:=by
 have key:∀rest pre:List AH,pre++rest=x.Preds→DK pre.length d x=if rest.all (fun p=>bL p x.Kind)then(if Ag x.Kind 1 then CY x true d else CY x (Ag x.Kind 6) d)else some false:=by
  intro rest
  induction rest with
  |nil=>intro pre hp;rw[DK,Cj hp];rfl
  |cons p rest ih=>
   intro pre hp
   have ih:=ih (pre++[p]) (Bh hp)
   rw[DK,Bx hp,BS hp,Bm hp (by rw[Aq];omega)]
   simp only[if_true,A3,(A0B p x.Kind (hz p (by rw[←hp];simp))).1,ih,List.all_cons]
   by_cases hb:bL p x.Kind=true<;>simp[hb]
 exact key x.Preds [] rfl
theorem zW (x:AE) (hl:x.Preds.length≤1500000) (hz:∀p∈x.Preds,p.sz≤1500000):As x.Preds x=some (!mf x,x):=by
 have key:∀rest pre:List AH,pre++rest=x.Preds→∃k,AU x.Preds pre.length x=some (k,x)∧geI k 0= !rest.all (fun p=>bL p x.Kind):=by
  intro rest
  induction rest with
  |nil=>intro pre hp;exact⟨-1,by rw[AU,Cj hp];rfl,rfl⟩
  |cons p rest ih=>
   intro pre hp
   obtain⟨k,h1,h2⟩:=ih (pre++[p]) (Bh hp)
   rw[AU,Bx hp,BS hp,Bm hp (by rw[Aq];omega)]
   simp only[if_true,A3,I6,(A0B p x.Kind (hz p (by rw[←hp];simp))).2,List.all_cons]
   by_cases hb:bL p x.Kind=true
   ·exact⟨k,by simp only[hb,Bool.not_true,bf,if_false];exact h1,by rw[h2,hb];rfl⟩
   ·have hb':bL p x.Kind=false:=by simpa using hb
    exact⟨pre.length,by simp only[hb',Bool.not_false,if_true],by rw[PV (by omega),hb'];rfl⟩
 obtain⟨k,h1,h2⟩:=key x.Preds [] rfl
 have h1':AU x.Preds 0 x=some (k,x):=h1
 rw[As,CJ,h1']
 simp only[A3,h2,mf]
theorem wn (x:AE) (last:Bool) (hs:x.sz≤1500000):∃b,Km x last=some b∧Kk x last=some b:=by
 have hz:=AE.sz_eq x
 have hzp:∀p∈x.Preds,p.sz≤1500000:=fun p hp=>by have:=Dh AH.sz hp;omega
 obtain⟨r,j1,j2⟩:=wm x.Pre x.Local (by omega) (by omega)
 have n1:=qo x.Pre x.Local (by omega) (by omega)
 have p1:=(DY x.Local (by omega)).1
 have p2:=(DY x.Local (by omega)).2.1
 have q1:=zW x (by omega) hzp
 have q2:=fun d=>zU x d (by omega) hzp
 have g0:Pj (AD x.Preds) 0= !Ag (AD x.Preds) 0:=by
  by_cases h:x.Preds.length=0
  ·rw[WJ (by simp only[AD];omega),WK (by simp only[AD];omega)];rfl
  ·rw[Rf (by simp only[AD];omega),H0 (by simp only[AD];omega)];rfl
 simp only[Km,Ha,q2,Kk,q1,g0,A3,CY,Ez,Ed,CE,j1,n1,p1,p2,Wv,j2]
 by_cases g3:Pj (AD x.Preds) 3=true
 ·simp[g3]
 by_cases pb:mf x=true
 ·by_cases h6:x.Kind≥6
  ·have f1:Ag x.Kind 1=false:=H0 (by omega)
   have f2:Ag x.Kind 2=false:=H0 (by omega)
   have f3:Ag x.Kind 3=false:=H0 (by omega)
   have f4:Ag x.Kind 4=false:=H0 (by omega)
   have f5:Ag x.Kind 5=false:=H0 (by omega)
   have fg:geI x.Kind 6=true:=PV h6
   by_cases l0:Ag (AD x.Preds) 0=true<;>by_cases la:last=true<;>by_cases dp:x.Deep=true<;>by_cases e6:Ag x.Kind 6=true<;>by_cases e7:Ag x.Kind 7=true<;>by_cases a:C6 x.Pre ⟨#[]⟩=true<;>simp[g3,pb,f1,f2,f3,f4,f5,fg,l0,la,dp,e6,e7,a]
  ·have f6:Ag x.Kind 6=false:=H0 (by omega)
   have f7:Ag x.Kind 7=false:=H0 (by omega)
   have fg:geI x.Kind 6=false:=Ut (by omega)
   by_cases la:last=true<;>by_cases dp:x.Deep=true<;>by_cases k1:Ag x.Kind 1=true<;>by_cases k2:Ag x.Kind 2=true<;>by_cases k3:Ag x.Kind 3=true<;>by_cases k4:Ag x.Kind 4=true<;>by_cases k5:Ag x.Kind 5=true<;>simp[g3,pb,f6,f7,fg,la,dp,k1,k2,k3,k4,k5]<;>(by_cases a:C6 x.Pre ⟨#[]⟩=true<;>by_cases b:C6 x.Local ⟨#[]⟩=true<;>simp[a,b])
 ·have pb':mf x=false:=by simpa using pb
  by_cases fg:geI x.Kind 6=true<;>by_cases la:last=true<;>by_cases dp:x.Deep=true<;>by_cases l0:Ag (AD x.Preds) 0=true<;>simp[g3,pb',fg,la,dp,l0]
theorem A2B (s:B8) (hs:s.sz≤1500000):∃r,N5 s=some r∧I7 s=some r:=by
 have hz:=B8.sz_eq s
 obtain⟨v,v1,v2⟩:=tk s.Id (by omega)
 have key:∀rest pre:List AE,pre++rest=s.Steps→∃r,EG pre.length s=some r∧EF s pre.length=some r:=by
  intro rest
  induction rest with
  |nil=>
   intro pre hp
   rw[EG,EF,Cj hp,v1,v2]
   simp only[bf,if_false,A3]
   by_cases hv:v=true<;>by_cases h8:leI (AD s.Steps) 8=true<;>by_cases hn:UV s.Id ⟨#[]⟩=true<;>by_cases hg:Pj (AD s.Steps) 0=true<;>simp[hv,h8,hn,hg]
  |cons x rest ih=>
   intro pre hp
   obtain⟨r,h1,h2⟩:=ih (pre++[x]) (Bh hp)
   obtain⟨b,b1,b2⟩:=wn x (Ag (pre.length:Int) (Cq (AD s.Steps) 1)) (by have:=Dh AE.sz (show x∈s.Steps by rw[←hp];simp);omega)
   rw[EG,EF,Bx hp,BS hp,Bm hp (by rw[Aq];omega)]
   simp only[if_true,A3,b1,b2,h1,h2]
   cases b
   ·exact⟨false,rfl,rfl⟩
   ·exact⟨r,rfl,rfl⟩
 obtain⟨r,h1,h2⟩:=key s.Steps [] rfl
 exact⟨r,by rw[N5];exact h1,by rw[I7];exact h2⟩
end TT
