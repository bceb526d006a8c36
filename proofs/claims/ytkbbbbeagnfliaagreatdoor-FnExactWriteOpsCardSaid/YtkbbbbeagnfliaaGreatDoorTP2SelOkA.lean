import Derived.Test.YtkbbbbeagnfliaaGreatDoorTP2Sign
import Derived.Test.YtkbbbbeagnfliaaGreatDoorTP1
set_option linter.unusedVariables false
set_option linter.unusedSimpArgs false
namespace TT
open Go
theorem ut (s:ByteArray) (hs:s.size≤4000000):∃b,J1 s=some b∧Ly s=some b:=by
 obtain⟨b,h1,h2⟩:=xU s hs
 obtain⟨a1,a2⟩:=WZ s ⟨#[39]⟩ (by decide) hs (by decide)
 obtain⟨c1,c2⟩:=WZ s ⟨#[34]⟩ (by decide) hs (by decide)
 rw[J1,Ly,h1,h2,a1,a2,c1,c2]
 simp only[A1]
 cases b with
 |false=>exact⟨false,rfl,rfl⟩
 |true=>
  cases Er s ⟨#[39]⟩with
  |false=>exact⟨true,rfl,rfl⟩
  |true=>exact⟨!(Er s ⟨#[34]⟩),rfl,rfl⟩
theorem HA {x y:ByteArray} (h:x.data.toList=y.data.toList):x=y:=toList_inj (by rw[Lib.toList_data,Lib.toList_data,h])
theorem ADC {x y:ByteArray} (h:x≠y):Bq x y=false:=by
 cases he:Bq x y with
 |false=>rfl
 |true=>exact absurd (T9.1 he) h
theorem nU {x y:ByteArray} (h:x.size≠y.size):Bq x y=false:=ADC fun e=>h (by rw[e])
def sI (pre loc:ByteArray):Bool:=if Bq pre ⟨#[]⟩then Bj loc else(Bj pre&&Bj loc)
theorem sJ (pre loc:ByteArray) (h1:pre.size≤4000000) (h2:loc.size≤4000000):J9 pre loc=some (sI pre loc):=by
 rw[J9,(BP pre h1).2.1,(BP loc h2).2.1,sI]
 simp only[A1]
 cases Bq pre ⟨#[]⟩<;>cases Bj pre<;>rfl
theorem cz (s:ByteArray) (hs:s.size≤4000000) (k:Nat) (hk:k≤s.size):∀(m i:Nat),i+m=k→(∀j,i≤j→j<k→KA s j≠58)→BK s i=BK s k
 |0,i,h,_=>by rw[show i=k by omega]
 |m+1,i,h,hn=>by
  have hi:i<s.size:=by omega
  have hb:=hn i (Nat.le_refl _) (by omega)
  rw[BK,P7 (by simp only[AL];omega),VK rfl hi]
  simp only[if_true,A1]
  rw[C4 (by omega),Cc (by omega) (by omega)]
  simp only[bf,if_false]
  exact cz s hs k hk m (i+1) (by omega) (fun j h1 h2=>hn j (by omega) h2)
theorem A2d (s:ByteArray):BK s s.size=some (⟨#[]⟩,⟨#[]⟩,false):=by
 rw[BK,GB (by simp only[AL];omega)];rfl
theorem A6H (s:ByteArray) (hs:s.size≤4000000) (k:Nat) (hk:k<s.size) (hb:KA s k=58):BK s k=if Bj (s.extract 0 k)&&Bj (s.extract (k+1) s.size)then some (s.extract 0 k,s.extract (k+1) s.size,true)else some (⟨#[]⟩,⟨#[]⟩,false):=by
 have e1:PC s 0 k=some (s.extract 0 k):=by
  unfold PC
  rw[if_pos ⟨by omega,by omega,by omega⟩];rfl
 have e2:PC s (k+1) (AL s)=some (s.extract (k+1) s.size):=by
  unfold PC AL
  rw[if_pos ⟨by omega,by omega,by omega⟩];rfl
 have p1:=(BP (s.extract 0 k) (by simp;omega)).1
 have p2:=(BP (s.extract (k+1) s.size) (by simp;omega)).1
 rw[BK,P7 (by simp only[AL];omega),VK rfl hk,hb]
 simp only[if_true,A1]
 rw[show AX ((58:Nat):Int) 58=true from rfl,Cc (by omega) (by omega)]
 simp only[if_true,e1,e2,A1,p1,p2]
 cases Bj (s.extract 0 k)<;>cases Bj (s.extract (k+1) s.size)<;>rfl
theorem uv (s:ByteArray):∀n,(∀j,j<n→KA s j≠58)∨∃k,k<n∧KA s k=58∧∀j,j<k→KA s j≠58
 |0=> .inl fun j h=>by omega
 |n+1=>by
  rcases uv s n with h|⟨k,h1,h2,h3⟩
  ·by_cases hn:KA s n=58
   ·exact .inr ⟨n,Nat.lt_succ_self _,hn,h⟩
   ·refine .inl fun j hj=> ?_
    by_cases e:j=n
    ·rw[e];exact hn
    ·exact h j (by omega)
  ·exact .inr ⟨k,by omega,h2,h3⟩
theorem ZY (s:ByteArray) (hs:s.size≤4000000) (hp:Bj s=false):
  ((∀j,j<s.size→KA s j≠58)∧Bx s=some (⟨#[]⟩,⟨#[]⟩,false))∨
  ∃k,k<s.size∧KA s k=58∧(∀j,j<k→KA s j≠58)∧Bx s=if Bj (s.extract 0 k)&&Bj (s.extract (k+1) s.size)then some (s.extract 0 k,s.extract (k+1) s.size,true)else some (⟨#[]⟩,⟨#[]⟩,false):=by
 have e:Bx s=BK s 0:=by
  rw[Bx,(BP s hs).1,hp];rfl
 rcases uv s s.size with h|⟨k,h1,h2,h3⟩
 ·refine .inl ⟨h, ?_⟩
  rw[e,←A2d s]
  exact cz s hs s.size (Nat.le_refl _) s.size 0 (by omega) (fun j _ hj=>h j hj)
 ·refine .inr ⟨k,h1,h2,h3, ?_⟩
  rw[e,←A6H s hs k h1 h2]
  exact cz s hs k (by omega) k 0 (by omega) (fun j _ hj=>h3 j hj)
theorem nV (x y:ByteArray) (k:Nat) (h:k<x.size):KA (x++y) k=KA x k:=by
 have e:(x++y).data=x.data++y.data:=by simp
 have h':k<x.data.size:=h
 show((x++y).data[k]!).toNat=(x.data[k]!).toNat
 rw[e]
 simp only[getElem!_def]
 rw[Array.getElem?_append_left h']
theorem A6I (x y:ByteArray) (k:Nat):KA (x++y) (x.size+k)=KA y k:=by
 have e:(x++y).data=x.data++y.data:=by simp
 show((x++y).data[x.size+k]!).toNat=(y.data[k]!).toNat
 rw[e]
 simp only[getElem!_def]
 rw[Array.getElem?_append_right (by show x.data.size≤x.data.size+k;omega)]
 have:x.size+k-x.data.size=k:=by show x.data.size+k-x.data.size=k;omega
 rw[this]
theorem eq (pre loc:ByteArray) (h1:pre.size≤1500000) (h2:loc.size≤1500000):∃r,Az pre loc=some r∧(!Bq r ⟨#[]⟩)=sI pre loc:=by
 have es:∀r:ByteArray,r.size≠0→Bq r ⟨#[]⟩=false:=fun r hr=>nU hr
 have ee:Bq (⟨#[]⟩:ByteArray) ⟨#[]⟩=true:=ZB _
 unfold sI
 cases hpre:Bq pre ⟨#[]⟩with
 |true=>
  have hpe:pre=⟨#[]⟩:=T9.1 hpre
  rw[Az,WV,hpre]
  simp only[Bool.not_true,bf,if_false,Bb,if_true]
  cases hp:Bj loc with
  |true=>
   have:=(BP loc (by omega)).2.2 hp
   rw[Bx,(BP loc (by omega)).1,hp]
   simp only[A1,if_true,WV,hpe,ee,ZB,Bool.not_true,bf,if_false]
   exact⟨loc,rfl,by rw[es loc (by omega)];rfl⟩
  |false=>
   rcases ZY loc (by omega) hp with ⟨_,e⟩|⟨k,k1,k2,k3,e⟩
   ·rw[e]
    simp only[A1,bf,if_false]
    exact⟨_,rfl,by rw[ee];rfl⟩
   ·rw[e]
    cases hb:Bj (loc.extract 0 k)&&Bj (loc.extract (k+1) loc.size)with
    |false=>simp only[A1,bf,if_false];exact⟨_,rfl,by rw[ee];rfl⟩
    |true=>
     simp only[bz]at hb
     have hx:=(BP (loc.extract 0 k) (by simp;omega)).2.2 hb.1
     simp only[A1,if_true,WV,hpe]
     rw[es _ (by omega)]
     simp only[Bool.not_false,if_true]
     exact⟨_,rfl,by rw[ee];rfl⟩
 |false=>
  have hne:pre.size≠0:=fun h=>by
   have:pre=⟨#[]⟩:=by
    apply HA
    have:pre.data.toList.length=0:=by rw[Array.length_toList];exact h
    rw[List.eq_nil_of_length_eq_zero this]
   rw[this]at hpre
   rw[ee]at hpre
   cases hpre
  have hc:(⟨#[58]⟩:ByteArray).size=1:=rfl
  rw[Az,WV,hpre]
  have c1:Af pre ⟨#[58]⟩=some (pre++⟨#[58]⟩):=by unfold Af;rw[if_pos (by omega)]
  have hz:(pre++(⟨#[58]⟩:ByteArray)).size=pre.size+1:=by rw[ByteArray.size_append,hc]
  have c2:Af (pre++⟨#[58]⟩) loc=some (pre++⟨#[58]⟩++loc):=by unfold Af;rw[if_pos (by omega)]
  simp only[Bool.not_false,if_true,c1,c2,A1,Bb,bf,if_false]
  generalize hs0:pre++(⟨#[58]⟩:ByteArray)++loc=s
  have hsz:s.size=pre.size+1+loc.size:=by rw[←hs0,ByteArray.size_append,hz]
  have hl:s.data.toList=pre.data.toList++([58]++loc.data.toList):=by rw[←hs0];simp
  have hpl:pre.data.toList.length=pre.size:=Array.length_toList
  have hll:loc.data.toList.length=loc.size:=Array.length_toList
  have hcol:KA s pre.size=58:=by
   rw[←hs0,nV _ _ _ (by omega)]
   have:=A6I pre ⟨#[58]⟩ 0
   rw[Nat.add_zero]at this
   rw[this];rfl
  have hlow:∀k,k<pre.size→KA s k=KA pre k:=fun k hk=>by
   rw[←hs0,nV _ _ _ (by omega),nV _ _ _ hk]
  have hp:Bj s=false:=by
   cases hp:Bj s with
   |false=>rfl
   |true=>exact absurd hcol ((BP s (by omega)).2.2 hp |>.2 pre.size (by omega))
  have hsn:Bq s ⟨#[]⟩=false:=es s (by omega)
  rcases ZY s (by omega) hp with ⟨hno,_⟩|⟨k,k1,k2,k3,e⟩
  ·exact absurd hcol (hno pre.size (by omega))
  ·have hkle:k≤pre.size:=by
    rcases Nat.lt_or_ge pre.size k with h|h
    ·exact absurd hcol (k3 pre.size h)
    ·exact h
   rw[e]
   by_cases hk:k=pre.size
   ·subst hk
    have x1:s.extract 0 pre.size=pre:=by
     apply HA
     rw[Lib.extract_data,hl,List.drop_zero,Nat.sub_zero,←hpl,List.take_left']
     rfl
    have x2:s.extract (pre.size+1) s.size=loc:=by
     apply HA
     rw[Lib.extract_data,hl,←List.append_assoc,List.drop_left' (by simp[hpl]),List.take_of_length_le (by omega)]
    rw[x1,x2]
    cases hb:Bj pre&&Bj loc with
    |false=>simp only[A1,bf,if_false];exact⟨_,rfl,by rw[ee];rfl⟩
    |true=>
     simp only[A1,if_true,WV,ZB,Bool.not_true,bf,if_false]
     exact⟨s,rfl,by rw[hsn];rfl⟩
   ·have hpp:Bj pre=false:=by
     cases hp:Bj pre with
     |false=>rfl
     |true=>exact absurd (hlow k (by omega)▸k2) ((BP pre (by omega)).2.2 hp |>.2 k (by omega))
    rw[hpp,Bool.false_and]
    cases hb:Bj (s.extract 0 k)&&Bj (s.extract (k+1) s.size)with
    |false=>simp only[A1,bf,if_false];exact⟨_,rfl,by rw[ee];rfl⟩
    |true=>
     have hx:Bq (s.extract 0 k) pre=false:=nU (by simp;omega)
     simp only[A1,if_true,WV,hx,Bool.not_false]
     exact⟨_,rfl,by rw[ee];rfl⟩
theorem A9S (m n:Int):AX m n=decide (m=n):=by
 by_cases h:m=n
 ·rw[RM h];simp[h]
 ·rw[C4 h];simp[h]
theorem A6J (p:GPred) (kind:Int) (hs:p.sz≤1500000):∃b,HW p kind=some b∧Hk p kind=some b:=by
 have hz:=GPred.sz_eq p
 obtain⟨r,j1,j2⟩:=eq p.Pre p.Local (by omega) (by omega)
 obtain⟨v,v1,v2⟩:=ut p.Val (by omega)
 have n1:=sJ p.Pre p.Local (by omega) (by omega)
 have ek:decide ((1:Int)≤kind∧kind≤2)=(AX kind 1||AX kind 2):=by
  rw[Bool.eq_iff_iff]
  simp[A9S]
  omega
 simp only[HW,G1,Hk,G5,G4,IE,Ud,s9,j1,v1,v2,n1,A1,WV,j2,ek]
 by_cases k1:AX p.Kind 1=true
 ·by_cases a:Bq p.Pre ⟨#[]⟩=true<;>by_cases b:Bq p.Local ⟨#[]⟩=true<;>by_cases e1:AX kind 1=true<;>by_cases q:decide ((1:Int)≤p.N∧p.N≤999)=true<;>simp[k1,a,b,e1,q]
 ·by_cases k23:AX p.Kind 2=true∨AX p.Kind 3=true
  ·have k2':AX p.Kind 2=true∨(AX p.Kind 2=false∧AX p.Kind 3=true):=by
    rcases k23 with h|h
    ·exact .inl h
    ·cases h2:AX p.Kind 2 with
     |true=>exact .inl rfl
     |false=>exact .inr ⟨rfl,h⟩
   rcases k2' with k2|⟨k2,k3⟩
   ·by_cases a:Bq p.Pre ⟨#[]⟩=true<;>by_cases e1:AX kind 1=true<;>by_cases e2:AX kind 2=true<;>by_cases n0:AX p.N 0=true<;>by_cases nb:sI p.Pre p.Local=true<;>simp[k1,k2,a,e1,e2,n0,nb]
   ·by_cases a:Bq p.Pre ⟨#[]⟩=true<;>by_cases e1:AX kind 1=true<;>by_cases e2:AX kind 2=true<;>by_cases n0:AX p.N 0=true<;>by_cases nb:sI p.Pre p.Local=true<;>simp[k1,k2,k3,a,e1,e2,n0,nb]
  ·have k2:AX p.Kind 2=false:=by
    cases h:AX p.Kind 2 with
    |true=>exact absurd (.inl h) k23
    |false=>rfl
   have k3:AX p.Kind 3=false:=by
    cases h:AX p.Kind 3 with
    |true=>exact absurd (.inr h) k23
    |false=>rfl
   by_cases k4:AX p.Kind 4=true
   ·by_cases a:Bq p.Pre ⟨#[]⟩=true<;>by_cases b:Bq p.Local ⟨#[]⟩=true<;>by_cases e1:AX kind 1=true<;>by_cases e2:AX kind 2=true<;>by_cases n0:AX p.N 0=true<;>simp[k1,k2,k3,k4,a,b,e1,e2,n0]
   ·by_cases a:Bq p.Pre ⟨#[]⟩=true<;>by_cases e1:AX kind 1=true<;>simp[k1,k2,k3,k4,a,e1]
def XL (p:GPred) (kind:Int):Bool:=(Hk p kind).getD false
theorem uw (p:GPred) (kind:Int) (hs:p.sz≤1500000):HW p kind=some (XL p kind)∧Hk p kind=some (XL p kind):=by
 obtain⟨b,h1,h2⟩:=A6J p kind hs
 have:XL p kind=b:=by rw[XL,h2];rfl
 rw[this];exact⟨h1,h2⟩
def Q0 (x:GStp):Bool:=x.Preds.all fun p=>XL p x.Kind
theorem A0B (x:GStp) (d:Bool) (hl:x.Preds.length≤1500000) (hz:∀p∈x.Preds,p.sz≤1500000):Cl 0 d x=if Q0 x then(if AX x.Kind 1 then CB x true d else CB x (AX x.Kind 6) d)else some false:=by
 have key:∀rest pre:List GPred,pre++rest=x.Preds→Cl pre.length d x=if rest.all (fun p=>XL p x.Kind)then(if AX x.Kind 1 then CB x true d else CB x (AX x.Kind 6) d)else some false:=by
  intro rest
  induction rest with
  |nil=>intro pre hp;rw[Cl,CZ hp];rfl
  |cons p rest ih=>
   intro pre hp
   have ih:=ih (pre++[p]) (CC hp)
   rw[Cl,BZ hp,BI hp,C2 hp (by rw[BB];omega)]
   simp only[if_true,A1,(uw p x.Kind (hz p (by rw[←hp];simp))).1,ih,List.all_cons]
   by_cases hb:XL p x.Kind=true<;>simp[hb]
 exact key x.Preds [] rfl
theorem nW (x:GStp) (hl:x.Preds.length≤1500000) (hz:∀p∈x.Preds,p.sz≤1500000):BY x.Preds x=some (!Q0 x,x):=by
 have key:∀rest pre:List GPred,pre++rest=x.Preds→∃k,At x.Preds pre.length x=some (k,x)∧geI k 0= !rest.all (fun p=>XL p x.Kind):=by
  intro rest
  induction rest with
  |nil=>intro pre hp;exact⟨-1,by rw[At,CZ hp];rfl,rfl⟩
  |cons p rest ih=>
   intro pre hp
   obtain⟨k,h1,h2⟩:=ih (pre++[p]) (CC hp)
   rw[At,BZ hp,BI hp,C2 hp (by rw[BB];omega)]
   simp only[if_true,A1,Qw,(uw p x.Kind (hz p (by rw[←hp];simp))).2,List.all_cons]
   by_cases hb:XL p x.Kind=true
   ·exact⟨k,by simp only[hb,Bool.not_true,bf,if_false];exact h1,by rw[h2,hb];rfl⟩
   ·have hb':XL p x.Kind=false:=by simpa using hb
    exact⟨pre.length,by simp only[hb',Bool.not_false,if_true],by rw[Ub (by omega),hb'];rfl⟩
 obtain⟨k,h1,h2⟩:=key x.Preds [] rfl
 have h1':At x.Preds 0 x=some (k,x):=h1
 rw[BY,Cy,h1']
 simp only[A1,h2,Q0]
theorem xf (x:GStp) (last:Bool) (hs:x.sz≤1500000):∃b,J2 x last=some b∧JA x last=some b:=by
 have hz:=GStp.sz_eq x
 have hzp:∀p∈x.Preds,p.sz≤1500000:=fun p hp=>by have:=BA GPred.sz hp;omega
 obtain⟨r,j1,j2⟩:=eq x.Pre x.Local (by omega) (by omega)
 have n1:=sJ x.Pre x.Local (by omega) (by omega)
 have p1:=(BP x.Local (by omega)).1
 have p2:=(BP x.Local (by omega)).2.1
 have q1:=nW x (by omega) hzp
 have q2:=fun d=>A0B x d (by omega) hzp
 have g0:IR (AF x.Preds) 0= !AX (AF x.Preds) 0:=by
  by_cases h:x.Preds.length=0
  ·rw[ZA (by simp only[AF];omega),RM (by simp only[AF];omega)];rfl
  ·rw[RL (by simp only[AF];omega),C4 (by simp only[AF];omega)];rfl
 simp only[J2,Ge,q2,JA,q1,g0,A1,CB,EJ,E3,E2,j1,n1,p1,p2,WV,j2]
 by_cases g3:IR (AF x.Preds) 3=true
 ·simp[g3]
 by_cases pb:Q0 x=true
 ·by_cases h6:x.Kind≥6
  ·have f1:AX x.Kind 1=false:=C4 (by omega)
   have f2:AX x.Kind 2=false:=C4 (by omega)
   have f3:AX x.Kind 3=false:=C4 (by omega)
   have f4:AX x.Kind 4=false:=C4 (by omega)
   have f5:AX x.Kind 5=false:=C4 (by omega)
   have fg:geI x.Kind 6=true:=Ub h6
   by_cases l0:AX (AF x.Preds) 0=true<;>by_cases la:last=true<;>by_cases dp:x.Deep=true<;>by_cases e6:AX x.Kind 6=true<;>by_cases e7:AX x.Kind 7=true<;>by_cases a:Bq x.Pre ⟨#[]⟩=true<;>simp[g3,pb,f1,f2,f3,f4,f5,fg,l0,la,dp,e6,e7,a]
  ·have f6:AX x.Kind 6=false:=C4 (by omega)
   have f7:AX x.Kind 7=false:=C4 (by omega)
   have fg:geI x.Kind 6=false:=bn (by omega)
   by_cases la:last=true<;>by_cases dp:x.Deep=true<;>by_cases k1:AX x.Kind 1=true<;>by_cases k2:AX x.Kind 2=true<;>by_cases k3:AX x.Kind 3=true<;>by_cases k4:AX x.Kind 4=true<;>by_cases k5:AX x.Kind 5=true<;>simp[g3,pb,f6,f7,fg,la,dp,k1,k2,k3,k4,k5]<;>(by_cases a:Bq x.Pre ⟨#[]⟩=true<;>by_cases b:Bq x.Local ⟨#[]⟩=true<;>simp[a,b])
 ·have pb':Q0 x=false:=by simpa using pb
  by_cases fg:geI x.Kind 6=true<;>by_cases la:last=true<;>by_cases dp:x.Deep=true<;>by_cases l0:AX (AF x.Preds) 0=true<;>simp[g3,pb',fg,la,dp,l0]
theorem sK (s:GSel) (hs:s.sz≤1500000):∃r,Pu s=some r∧JB s=some r:=by
 have hz:=GSel.sz_eq s
 obtain⟨v,v1,v2⟩:=ut s.Id (by omega)
 have key:∀rest pre:List GStp,pre++rest=s.Steps→∃r,Gz pre.length s=some r∧Di s pre.length=some r:=by
  intro rest
  induction rest with
  |nil=>
   intro pre hp
   rw[Gz,Di,CZ hp,v1,v2]
   simp only[bf,if_false,A1]
   by_cases hv:v=true<;>by_cases h8:TG (AF s.Steps) 8=true<;>by_cases hn:IN s.Id ⟨#[]⟩=true<;>by_cases hg:IR (AF s.Steps) 0=true<;>simp[hv,h8,hn,hg]
  |cons x rest ih=>
   intro pre hp
   obtain⟨r,h1,h2⟩:=ih (pre++[x]) (CC hp)
   obtain⟨b,b1,b2⟩:=xf x (AX (pre.length:Int) (AY (AF s.Steps) 1)) (by have:=BA GStp.sz (show x∈s.Steps by rw[←hp];simp);omega)
   rw[Gz,Di,BZ hp,BI hp,C2 hp (by rw[BB];omega)]
   simp only[if_true,A1,b1,b2,h1,h2]
   cases b
   ·exact⟨false,rfl,rfl⟩
   ·exact⟨r,rfl,rfl⟩
 obtain⟨r,h1,h2⟩:=key s.Steps [] rfl
 exact⟨r,by rw[Pu];exact h1,by rw[JB];exact h2⟩
end TT
