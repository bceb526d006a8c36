import Derived.Test.YtkbbbbeagnfliaaGreatDoorTP2SelOkA
set_option linter.unusedVariables false
set_option linter.unusedSimpArgs false
namespace TT
open Go
theorem Ae {x y:ByteArray} (h:x.size+y.size≤1000000000):Af x y=some (x++y):=by unfold Af;rw[if_pos (by omega)]
theorem AD (x y:ByteArray):(x++y).size=x.size+y.size:=ByteArray.size_append
theorem TL (x y z:ByteArray):x++y++z=x++(y++z):=HA (by simp)
theorem A9z (s:ByteArray):(∀j,j<s.size→KA s j≠58)∧Lib.indexB s ⟨#[58]⟩= -1∨∃k,k<s.size∧KA s k=58∧(∀j,j<k→KA s j≠58)∧Lib.indexB s ⟨#[58]⟩=k:=by
 have hlen:s.data.toList.length=s.size:=Array.length_toList
 have hby:∀j (h:j<s.size),KA s j=(s.data.toList[j]'(by omega)).toNat:=fun j h=>by
  show((s.data[j]!).toNat)=_
  rw[Array.getElem_toList,getElem!_pos s.data j h]
 have hocc:∀j,j<s.size→Lib.occAt s.data.toList [58] j=decide (KA s j=58):=fun j h=>by
  unfold Lib.occAt
  rw[List.drop_eq_getElem_cons (by omega:j<s.data.toList.length)]
  simp only[List.isPrefixOf,Bool.and_true]
  rw[hby j h,Bool.eq_iff_iff,beq_iff_eq,decide_eq_true_iff]
  constructor
  ·intro e;rw[←e];rfl
  ·intro e;exact(UInt8.toNat_inj.1 (by rw[e];rfl)).symm
 have hend:∀j,s.size≤j→Lib.occAt s.data.toList [58] j=false:=fun j h=>by
  unfold Lib.occAt
  rw[List.drop_eq_nil_of_le (by omega)];rfl
 rcases uv s s.size with h|⟨k,h1,h2,h3⟩
 ·refine .inl ⟨h, ?_⟩
  exact Lib.index_none fun j hj=>by
   by_cases hjs:j<s.size
   ·rw[hocc j hjs];simp[h j hjs]
   ·exact hend j (by omega)
 ·refine .inr ⟨k,h1,h2,h3, ?_⟩
  exact Lib.index_first (by omega) (by rw[hocc k h1];simp[h2]) fun j hj=>by rw[hocc j (by omega)];simp[h3 j hj]
theorem A0E (s:ByteArray) (hs:s.size≤4000000):∃r,Bx s=some r∧DG s=some r:=by
 cases hp:Bj s with
 |true=>
  refine⟨(⟨#[]⟩,s,true), ?_, ?_⟩
  ·rw[Bx,(BP s hs).1,hp];rfl
  ·rw[DG,(BP s hs).2.1,hp];rfl
 |false=>
  have hi:DG s=(strings_Cut s ⟨#[58]⟩>>=fun r1=>if r1.2.2 then BT r1.1>>=fun r2=>if r2 then BT r1.2.1>>=fun r3=>if r3 then some (r1.1,r1.2.1,true)else some (⟨#[]⟩,⟨#[]⟩,false)else some (⟨#[]⟩,⟨#[]⟩,false)else some (⟨#[]⟩,⟨#[]⟩,false)):=by
   rw[DG,(BP s hs).2.1,hp];rfl
  rw[hi,strings_Cut,if_pos (by omega)]
  rcases ZY s hs hp with ⟨h0,e⟩|⟨k,k1,k2,k3,e⟩
  ·rcases A9z s with ⟨_,h⟩|⟨k,k1,k2,_⟩
   ·obtain⟨_,_,c3⟩:=Lib.cutB_miss s ⟨#[58]⟩ h
    have c3':(Zb s ⟨#[58]⟩).2.2=false:=c3
    refine⟨_,e, ?_⟩
    simp only[A1,c3',bf,if_false]
   ·exact absurd k2 (h0 k k1)
  ·rcases A9z s with ⟨h0,_⟩|⟨k',j1,j2,j3,h⟩
   ·exact absurd k2 (h0 k k1)
   ·have hk:k'=k:=by
     rcases Nat.lt_trichotomy k' k with h'|h'|h'
     ·exact absurd j2 (k3 k' h')
     ·exact h'
     ·exact absurd k2 (j3 k h')
    subst hk
    obtain⟨c1,c2,c3⟩:=Lib.cutB_hit s ⟨#[58]⟩ k' h
    have c1':(Zb s ⟨#[58]⟩).1=s.extract 0 k':=c1
    have c2':(Zb s ⟨#[58]⟩).2.1=s.extract (k'+1) s.size:=c2
    have c3':(Zb s ⟨#[58]⟩).2.2=true:=c3
    have p1:=(BP (s.extract 0 k') (by simp;omega)).2.1
    have p2:=(BP (s.extract (k'+1) s.size) (by simp;omega)).2.1
    simp only[A1,c1',c2',c3',if_true,p1,p2]
    cases hb1:Bj (s.extract 0 k')<;>cases hb2:Bj (s.extract (k'+1) s.size)<;>rw[hb1,hb2]at e
    ·exact⟨(⟨#[]⟩,⟨#[]⟩,false),e,rfl⟩
    ·exact⟨(⟨#[]⟩,⟨#[]⟩,false),e,rfl⟩
    ·exact⟨(⟨#[]⟩,⟨#[]⟩,false),e,rfl⟩
    ·exact⟨(s.extract 0 k',s.extract (k'+1) s.size,true),e,rfl⟩
theorem ZZ (pre loc:ByteArray) (h1:pre.size≤1500000) (h2:loc.size≤1500000):∃r,Az pre loc=some r∧BX pre loc=some r∧r.size≤3000001:=by
 have key:∀s:ByteArray,s.size≤3000001→∃r,Bb pre loc s=some r∧Da pre loc s=some r∧r.size≤3000001:=fun s hs=>by
  obtain⟨q,q1,q2⟩:=A0E s (by omega)
  have he:(⟨#[]⟩:ByteArray).size≤3000001:=by decide
  rw[Bb,Da,q1,q2]
  simp only[A1]
  cases q.2.2 with
  |false=>exact⟨_,rfl,rfl,he⟩
  |true=>
   cases IN q.1 pre with
   |true=>exact⟨_,rfl,rfl,he⟩
   |false=>
    cases IN q.2.1 loc with
    |true=>exact⟨_,rfl,rfl,he⟩
    |false=>exact⟨_,rfl,rfl,hs⟩
 have hc:(⟨#[58]⟩:ByteArray).size=1:=rfl
 rw[Az,BX]
 cases IN pre ⟨#[]⟩with
 |false=>exact key loc (by omega)
 |true=>
  have hz:=AD pre ⟨#[58]⟩
  simp only[if_true,Ae (show pre.size+(⟨#[58]⟩:ByteArray).size≤1000000000 by omega),Ae (show(pre++⟨#[58]⟩).size+loc.size≤1000000000 by omega),A1]
  exact key _ (by rw[AD,hz];omega)
theorem nY (s:ByteArray) (hs:s.size≤1500000):∃r,FW s=some r∧Em s=some r∧r.size≤1500002:=by
 have d1:(⟨#[34]⟩:ByteArray).size=1:=rfl
 have d2:(⟨#[39]⟩:ByteArray).size=1:=rfl
 have z1:=AD ⟨#[34]⟩ s
 have z2:=AD ⟨#[39]⟩ s
 rw[FW,Em,(WZ s ⟨#[39]⟩ (by decide) (by omega) (by decide)).1,(WZ s ⟨#[39]⟩ (by decide) (by omega) (by decide)).2]
 simp only[A1]
 cases Er s ⟨#[39]⟩with
 |true=>
  simp only[if_true,Ae (show(⟨#[34]⟩:ByteArray).size+s.size≤1000000000 by omega),Ae (show((⟨#[34]⟩:ByteArray)++s).size+(⟨#[34]⟩:ByteArray).size≤1000000000 by omega),A1]
  exact⟨_,rfl,rfl,by rw[AD,z1];omega⟩
 |false=>
  simp only[bf,if_false,Ae (show(⟨#[39]⟩:ByteArray).size+s.size≤1000000000 by omega),Ae (show((⟨#[39]⟩:ByteArray)++s).size+(⟨#[39]⟩:ByteArray).size≤1000000000 by omega),A1]
  exact⟨_,rfl,rfl,by rw[AD,z2];omega⟩
theorem A9U (s:ByteArray):DF s 0=some s:=by rw[DF,ZA (by omega)];rfl
theorem A6N (s:ByteArray) (u:Nat) (hu:0<u) (hb:u≤1000000) (hs:s.size≤1000000):DF s u=DF (⟨#[UInt8.ofNat (48+u%10)]⟩++s) ((u/10:Nat):Int):=by
 have e1:A1T (u:Int) 10=some ((u%10:Nat):Int):=by
  unfold A1T
  rw[if_neg (by decide)]
  congr 1
 have e2:A1S (u:Int) 10=some ((u/10:Nat):Int):=by
  unfold A1S
  rw[if_neg (by decide)]
  congr 1
  rw[show((u:Int).tdiv 10)=((u/10:Nat):Int)from rfl,IntKind.wrap_i64]
  omega
 have e3:((wr .u8 (Ac 48 ((u%10:Nat):Int)))).toNat=48+u%10:=by
  rw[Cc (by omega) (by omega)]
  unfold wr
  rw[IntKind.wrap_u8]
  omega
 have e4:(⟨#[UInt8.ofNat (48+u%10)]⟩:ByteArray).size=1:=rfl
 rw[DF,RL (by omega),e1]
 simp only[if_true,A1,e3,e2]
 rw[show((([UInt8.ofNat (48+u%10)]:List UInt8).toArray))= #[UInt8.ofNat (48+u%10)]from rfl,Ae (by omega)]
 rfl
theorem A0u : ∀ (n u:Nat) (s:ByteArray),u≤n→0<u→u≤1000000→s.size+u≤1000000→DF s u=some (⟨(Lib.decDigits u).toArray⟩++s)
 |0,u,s,h,h0,_,_=>by omega
 |n+1,u,s,h,h0,hb,hs=>by
  rw[A6N s u h0 hb (by omega),Lib.decDigits]
  by_cases hu:u<10
  ·rw[dif_pos hu,show u/10=0 by omega,show u%10=u by omega]
   exact A9U _
  ·have e4:(⟨#[UInt8.ofNat (48+u%10)]⟩:ByteArray).size=1:=rfl
   rw[dif_neg hu,A0u n (u/10) _ (by omega) (by omega) (by omega) (by rw[AD];omega)]
   congr 1
   exact HA (by simp)
theorem A0v : ∀ (n u:Nat),u≤n→(Lib.decDigits u).length≤u+1
 |0,u,h=>by rw[Lib.decDigits,dif_pos (by omega)];simp
 |n+1,u,h=>by
  rw[Lib.decDigits]
  by_cases hu:u<10
  ·rw[dif_pos hu];simp
  ·rw[dif_neg hu]
   have:=A0v n (u/10) (by omega)
   simp only[List.length_append,List.length_singleton]
   omega
theorem A6O (n:Int) (h1:1≤n) (h2:n≤999):∃r,RE n=some r∧strconv_Itoa n=some r∧r.size≤1000:=by
 have e0:(⟨#[]⟩:ByteArray).size=0:=rfl
 refine⟨lY n, ?_,by rw[strconv_Itoa,if_pos ⟨by omega,by omega⟩], ?_⟩
 ·rw[RE]
  have:=A0u n.toNat n.toNat ⟨#[]⟩ (Nat.le_refl _) (by omega) (by omega) (by omega)
  rw[show((n.toNat:Nat):Int)=n by omega]at this
  rw[this,lY,Lib.itoa,if_neg (by omega)]
  congr 1
  exact HA (by simp)
 ·rw[lY,Lib.itoa,if_neg (by omega)]
  have:=A0v n.toNat n.toNat (Nat.le_refl _)
  show(Lib.decDigits n.toNat).toArray.size≤1000
  rw[List.size_toArray];omega
theorem A2h (p:GPred) (hs:p.sz≤1500000) (hn:p.Kind=1→1≤p.N∧p.N≤999):∃t,Oe p=some t∧KM p=some t∧t.size≤5000000:=by
 have hz:=GPred.sz_eq p
 have a1:(⟨#[91]⟩:ByteArray).size=1:=rfl
 have a2:(⟨#[93]⟩:ByteArray).size=1:=rfl
 have a3:(⟨#[91,64]⟩:ByteArray).size=2:=rfl
 have a4:(⟨#[61]⟩:ByteArray).size=1:=rfl
 have a5:(⟨#[91,46,61]⟩:ByteArray).size=3:=rfl
 obtain⟨j,j1,j2,j3⟩:=ZZ p.Pre p.Local (by omega) (by omega)
 obtain⟨q,q1,q2,q3⟩:=nY p.Val (by omega)
 rw[Oe,KM]
 by_cases k1:p.Kind=1
 ·obtain⟨n,n1,n2,n3⟩:=A6O p.N (hn k1).1 (hn k1).2
  have z1:=AD ⟨#[91]⟩ n
  have z2:=AD (⟨#[91]⟩++n) ⟨#[93]⟩
  simp only[RM k1,if_true,n1,n2,A1,Ae (show(⟨#[91]⟩:ByteArray).size+n.size≤1000000000 by omega),Ae (show((⟨#[91]⟩:ByteArray)++n).size+(⟨#[93]⟩:ByteArray).size≤1000000000 by omega)]
  exact⟨_,rfl,rfl,by omega⟩
 ·by_cases k2:p.Kind=2
  ·have z1:=AD ⟨#[91,64]⟩ j
   have z2:=AD (⟨#[91,64]⟩++j) ⟨#[61]⟩
   have z3:=AD (⟨#[91,64]⟩++j++⟨#[61]⟩) q
   have z4:=AD (⟨#[91,64]⟩++j++⟨#[61]⟩++q) ⟨#[93]⟩
   simp only[C4 k1,RM k2,if_true,bf,if_false,j1,j2,q1,q2,A1,Ae (show(⟨#[91,64]⟩:ByteArray).size+j.size≤1000000000 by omega),Ae (show((⟨#[91,64]⟩:ByteArray)++j).size+(⟨#[61]⟩:ByteArray).size≤1000000000 by omega),
    Ae (show((⟨#[91,64]⟩:ByteArray)++j++⟨#[61]⟩).size+q.size≤1000000000 by omega),Ae (show((⟨#[91,64]⟩:ByteArray)++j++⟨#[61]⟩++q).size+(⟨#[93]⟩:ByteArray).size≤1000000000 by omega)]
   exact⟨_,rfl,rfl,by omega⟩
  ·by_cases k3:p.Kind=3
   ·have z1:=AD ⟨#[91]⟩ j
    have z2:=AD (⟨#[91]⟩++j) ⟨#[61]⟩
    have z3:=AD (⟨#[91]⟩++j++⟨#[61]⟩) q
    have z4:=AD (⟨#[91]⟩++j++⟨#[61]⟩++q) ⟨#[93]⟩
    simp only[C4 k1,C4 k2,RM k3,if_true,bf,if_false,j1,j2,q1,q2,A1,Ae (show(⟨#[91]⟩:ByteArray).size+j.size≤1000000000 by omega),Ae (show((⟨#[91]⟩:ByteArray)++j).size+(⟨#[61]⟩:ByteArray).size≤1000000000 by omega),
     Ae (show((⟨#[91]⟩:ByteArray)++j++⟨#[61]⟩).size+q.size≤1000000000 by omega),Ae (show((⟨#[91]⟩:ByteArray)++j++⟨#[61]⟩++q).size+(⟨#[93]⟩:ByteArray).size≤1000000000 by omega)]
    exact⟨_,rfl,rfl,by omega⟩
   ·have z1:=AD ⟨#[91,46,61]⟩ q
    have z2:=AD (⟨#[91,46,61]⟩++q) ⟨#[93]⟩
    simp only[C4 k1,C4 k2,C4 k3,bf,if_false,q1,q2,A1,Ae (show(⟨#[91,46,61]⟩:ByteArray).size+q.size≤1000000000 by omega),Ae (show((⟨#[91,46,61]⟩:ByteArray)++q).size+(⟨#[93]⟩:ByteArray).size≤1000000000 by omega)]
    exact⟨_,rfl,rfl,by omega⟩
theorem A6P (p:GPred) (kind:Int) (hs:p.sz≤1500000) (hb:XL p kind=true) (hk:p.Kind=1):1≤p.N∧p.N≤999:=by
 have h:=(uw p kind hs).2
 rw[hb]at h
 by_cases hn:1≤p.N∧p.N≤999
 ·exact hn
 ·exfalso
  have hin:I3 p.N 1 999=some false:=by rw[s9];simp;omega
  have hj:∀a b,G4 a b p=some false:=fun a b=>by rw[G4,RM hk,hin];rfl
  rw[Hk,G5,G5]at h
  simp only[hj,ite_self]at h
  cases h
theorem A2i (x:GStp) (last:Bool) (hs:x.sz≤1500000) (h:JA x last=some true):x.Preds.length≤3∧Q0 x=true∧1≤x.Kind∧x.Kind≤7:=by
 have hz:=GStp.sz_eq x
 have hzp:∀p∈x.Preds,p.sz≤1500000:=fun p hp=>by have:=BA GPred.sz hp;omega
 have q1:=nW x (by omega) hzp
 rw[JA,q1]at h
 by_cases g3:IR (AF x.Preds) 3=true
 ·simp[g3]at h
 by_cases pb:Q0 x=true
 ·refine⟨?_,pb, ?_⟩
  ·rcases Nat.lt_or_ge 3 x.Preds.length with h'|h'
   ·exact absurd (RL (by simp only[AF];omega)) g3
   ·exact h'
  ·by_cases hk:1≤x.Kind∧x.Kind≤7
   ·exact hk
   ·exfalso
    have f1:AX x.Kind 1=false:=C4 (by omega)
    have f2:AX x.Kind 2=false:=C4 (by omega)
    have f3:AX x.Kind 3=false:=C4 (by omega)
    have f4:AX x.Kind 4=false:=C4 (by omega)
    have f5:AX x.Kind 5=false:=C4 (by omega)
    have f6:AX x.Kind 6=false:=C4 (by omega)
    have f7:AX x.Kind 7=false:=C4 (by omega)
    have hj:∀a b,E3 a b (!Q0 x,x)=some false:=fun a b=>by
     rw[E3,E2,E2]
     simp[f1,f2,f3,f4,f5,f6,f7]
    simp only[g3,A1,hj,ite_self]at h
    simp at h
 ·simp[g3,pb,A1]at h
theorem A0F (s:GSel) (hs:s.sz≤1500000) (h:JB s=some true):s.Steps.length≤8∧∀x∈s.Steps,x.Preds.length≤3∧Q0 x=true∧1≤x.Kind∧x.Kind≤7:=by
 have hz:=GSel.sz_eq s
 obtain⟨v,v1,v2⟩:=ut s.Id (by omega)
 have key:∀rest pre:List GStp,pre++rest=s.Steps→Di s pre.length=some true→s.Steps.length≤8∧∀x∈rest,x.Preds.length≤3∧Q0 x=true∧1≤x.Kind∧x.Kind≤7:=by
  intro rest
  induction rest with
  |nil=>
   intro pre hp h
   refine⟨?_,fun x hx=>by cases hx⟩
   rcases Nat.lt_or_ge 8 s.Steps.length with h'|h'
   ·have hl:TG (AF s.Steps) 8=false:=nA (by simp only[AF];omega)
    rw[Di,CZ hp,v2]at h
    simp[hl,A1]at h
   ·exact h'
  |cons x rest ih=>
   intro pre hp h
   have hx:x.sz≤1500000:=by have:=BA GStp.sz (show x∈s.Steps by rw[←hp];simp);omega
   obtain⟨b,b1,b2⟩:=xf x (AX (pre.length:Int) (AY (AF s.Steps) 1)) hx
   rw[Di,BZ hp,BI hp,C2 hp (by rw[BB];omega)]at h
   simp only[if_true,A1,b2]at h
   cases b with
   |false=>simp at h
   |true=>
    simp only[if_true]at h
    obtain⟨g1,g2⟩:=ih (pre++[x]) (CC hp) h
    refine⟨g1,fun y hy=> ?_⟩
    rcases List.mem_cons.1 hy with rfl|hy
    ·exact A2i y _ hx b2
    ·exact g2 y hy
 rw[JB]at h
 exact key s.Steps [] rfl h
theorem A2j (x:GStp) (hs:x.sz≤1500000) (hk:1≤x.Kind∧x.Kind≤7):∃t,KL x=some t∧FQ x=Cq t 0 x∧t.size≤4000000:=by
 have hz:=GStp.sz_eq x
 obtain⟨j,j1,j2,j3⟩:=ZZ x.Pre x.Local (by omega) (by omega)
 have a1:(⟨#[112,114,111,99,101,115,115,105,110,103,45,105,110,115,116,114,117,99,116,105,111,110,40,39]⟩:ByteArray).size=24:=rfl
 have a2:(⟨#[39,41]⟩:ByteArray).size=2:=rfl
 have a3:(⟨#[64]⟩:ByteArray).size=1:=rfl
 have a4:(⟨#[110,97,109,101,115,112,97,99,101,58,58]⟩:ByteArray).size=11:=rfl
 have z1:=AD ⟨#[112,114,111,99,101,115,115,105,110,103,45,105,110,115,116,114,117,99,116,105,111,110,40,39]⟩ x.Local
 have z2:=AD (⟨#[112,114,111,99,101,115,115,105,110,103,45,105,110,115,116,114,117,99,116,105,111,110,40,39]⟩++x.Local) ⟨#[39,41]⟩
 have z3:=AD ⟨#[64]⟩ j
 have z4:=AD ⟨#[110,97,109,101,115,112,97,99,101,58,58]⟩ x.Local
 have c1:=Ae (show(⟨#[112,114,111,99,101,115,115,105,110,103,45,105,110,115,116,114,117,99,116,105,111,110,40,39]⟩:ByteArray).size+x.Local.size≤1000000000 by omega)
 have c2:=Ae (show((⟨#[112,114,111,99,101,115,115,105,110,103,45,105,110,115,116,114,117,99,116,105,111,110,40,39]⟩:ByteArray)++x.Local).size+(⟨#[39,41]⟩:ByteArray).size≤1000000000 by omega)
 have c3:=Ae (show(⟨#[64]⟩:ByteArray).size+j.size≤1000000000 by omega)
 have c4:=Ae (show(⟨#[110,97,109,101,115,112,97,99,101,58,58]⟩:ByteArray).size+x.Local.size≤1000000000 by omega)
 have hk':x.Kind=1∨x.Kind=2∨x.Kind=3∨x.Kind=4∨x.Kind=5∨x.Kind=6∨x.Kind=7:=by omega
 rw[KL,FQ]
 simp only[CH,c1,c2,c3,c4,j1,j2,A1]
 rcases hk' with k|k|k|k|k|k|k
 ·rw[k];exact⟨j,rfl,rfl,by omega⟩
 ·rw[k];exact⟨_,rfl,rfl,by decide⟩
 ·rw[k];exact⟨_,rfl,rfl,by decide⟩
 ·rw[k];exact⟨_,rfl,rfl,by decide⟩
 ·rw[k,WV]
  cases Bq x.Local ⟨#[]⟩with
  |true=>exact⟨_,rfl,rfl,by decide⟩
  |false=>exact⟨_,rfl,rfl,by omega⟩
 ·rw[k];exact⟨_,rfl,rfl,by omega⟩
 ·rw[k];exact⟨_,rfl,rfl,by omega⟩
theorem A0G (x:GStp) (hs:x.sz≤1500000) (hb:Q0 x=true):∀rest pre:List GPred,pre++rest=x.Preds→∃T:ByteArray,T.size≤rest.length*5000000∧
  (∀s1:ByteArray,s1.size+rest.length*5000000≤900000000→Cq s1 pre.length x=some (s1++T))∧
  (∀(out:ByteArray) (s:GSel) (k:Int),out.size+rest.length*5000000≤900000000→EL out s k x pre.length=D3 (out++T) s (Ac k 1)):=by
 have hz:=GStp.sz_eq x
 intro rest
 induction rest with
 |nil=>
  intro pre hp
  have e0:∀s1:ByteArray,s1++(⟨#[]⟩:ByteArray)=s1:=fun s1=>HA (by simp)
  exact⟨⟨#[]⟩,by decide,fun s1 _=>by rw[Cq,CZ hp,e0];rfl,fun out s k _=>by rw[EL,CZ hp,e0];rfl⟩
 |cons p rest ih=>
  intro pre hp
  obtain⟨T,t1,t2,t3⟩:=ih (pre++[p]) (CC hp)
  have hm:p∈x.Preds:=by rw[←hp];simp
  have hps:p.sz≤1500000:=by have:=BA GPred.sz hm;omega
  have hpb:XL p x.Kind=true:=List.all_eq_true.1 hb p hm
  obtain⟨t,u1,u2,u3⟩:=A2h p hps (A6P p x.Kind hps hpb)
  refine⟨t++T, ?_,fun s1 h=> ?_,fun out s k h=> ?_⟩
  ·rw[AD,List.length_cons];omega
  ·rw[List.length_cons]at h
   have z:=AD s1 t
   rw[Cq,BZ hp,BI hp,C2 hp (by rw[BB];omega)]
   simp only[if_true,A1,u1,Ae (show s1.size+t.size≤1000000000 by omega)]
   rw[t2 (s1++t) (by omega),TL]
  ·rw[List.length_cons]at h
   have z:=AD out t
   rw[EL,BZ hp,BI hp,C2 hp (by rw[BB];omega)]
   simp only[if_true,A1,u2,Ae (show out.size+t.size≤1000000000 by omega)]
   rw[t3 (out++t) s k (by omega),TL]
theorem ADD (x:GStp) (hs:x.sz≤1500000) (hf:x.Preds.length≤3∧Q0 x=true∧1≤x.Kind∧x.Kind≤7):∃t:ByteArray,t.size≤20000000∧FQ x=some t∧
  ∀(out:ByteArray) (s:GSel) (k:Int),out.size≤800000000→D2 out s k x.Deep x=D3 (out++t) s (Ac k 1):=by
 obtain⟨h3,hb,hk⟩:=hf
 obtain⟨t,a1,a2,a3⟩:=A2j x hs hk
 obtain⟨T,t1,t2,t3⟩:=A0G x hs hb x.Preds [] rfl
 have t2':Cq t 0 x=some (t++T):=t2 t (by omega)
 refine⟨t++T,by rw[AD];omega,by rw[a2,t2'],fun out s k h=> ?_⟩
 have z:=AD out t
 have t3':EL (out++t) s k x 0=D3 (out++t++T) s (Ac k 1):=t3 (out++t) s k (by omega)
 have e:(GStp.mk x.Deep x.Kind x.Pre x.Local x.Preds)=x:=rfl
 rw[D2,e,a1]
 simp only[A1,Ae (show out.size+t.size≤1000000000 by omega)]
 rw[t3',TL]
theorem A0H (s:GSel) (hs:s.sz≤1500000) (hf:∀x∈s.Steps,x.Preds.length≤3∧Q0 x=true∧1≤x.Kind∧x.Kind≤7):∀(rest pre:List GStp) (out:ByteArray),pre++rest=s.Steps→out.size+rest.length*20000010≤700000000→∃r,By out pre.length s=some r∧D3 out s pre.length=some r∧r.size≤200:=by
 have hz:=GSel.sz_eq s
 intro rest
 induction rest with
 |nil=>
  intro pre out hp h
  rw[By,D3,CZ hp]
  simp only[bf,if_false]
  cases e:IR (AL out) 200
  ·refine⟨_,rfl,rfl, ?_⟩
   by_cases h2:out.size≤200
   ·exact h2
   ·rw[RL (by simp only[AL];omega)]at e;cases e
  ·exact⟨_,rfl,rfl,Nat.zero_le _⟩
 |cons x rest ih=>
  intro pre out hp h
  rw[List.length_cons]at h
  have hm:x∈s.Steps:=by rw[←hp];simp
  have hx:x.sz≤1500000:=by have:=BA GStp.sz hm;omega
  obtain⟨t,b1,b2,b3⟩:=ADD x hx (hf x hm)
  have go:∀o:ByteArray,o.size≤out.size+2→∃r,By (o++t) (Ac (pre.length:Int) 1) s=some r∧D2 o s pre.length x.Deep x=some r∧r.size≤200:=fun o ho=>by
   rw[b3 o s pre.length (by omega),C2 hp (by rw[BB];omega)]
   exact ih (pre++[x]) (o++t) (CC hp) (by rw[AD];omega)
  have a1:(⟨#[47,47]⟩:ByteArray).size=2:=rfl
  have a2:(⟨#[47]⟩:ByteArray).size=1:=rfl
  have z1:=AD out ⟨#[47,47]⟩
  have z2:=AD out ⟨#[47]⟩
  have c1:=Ae (show out.size+(⟨#[47,47]⟩:ByteArray).size≤1000000000 by omega)
  have c2:=Ae (show out.size+(⟨#[47]⟩:ByteArray).size≤1000000000 by omega)
  have c3:=Ae (show(out++(⟨#[47,47]⟩:ByteArray)).size+t.size≤1000000000 by omega)
  have c4:=Ae (show(out++(⟨#[47]⟩:ByteArray)).size+t.size≤1000000000 by omega)
  have c5:=Ae (show out.size+t.size≤1000000000 by omega)
  rw[By,D3,BZ hp,BI hp]
  simp only[if_true,A1,c1,c2]
  cases hd:x.Deep with
  |true=>
   have e:GStp.mk true x.Kind x.Pre x.Local x.Preds=x:=by rw[←hd]
   obtain⟨r,r1,r2,r3⟩:=go (out++⟨#[47,47]⟩) (by omega)
   rw[hd]at r2
   refine⟨r, ?_,r2,r3⟩
   simp only[if_true,e,b2,A1,c3]
   exact r1
  |false=>
   have e:GStp.mk false x.Kind x.Pre x.Local x.Preds=x:=by rw[←hd]
   simp only[bf,if_false,e,b2,A1,c4,c5]
   cases IR (pre.length:Int) 0 with
   |true=>
    obtain⟨r,r1,r2,r3⟩:=go (out++⟨#[47]⟩) (by omega)
    rw[hd]at r2
    exact⟨r,r1,r2,r3⟩
   |false=>
    cases IN s.Id ⟨#[]⟩with
    |true=>
     obtain⟨r,r1,r2,r3⟩:=go (out++⟨#[47]⟩) (by omega)
     rw[hd]at r2
     exact⟨r,r1,r2,r3⟩
    |false=>
     obtain⟨r,r1,r2,r3⟩:=go out (by omega)
     rw[hd]at r2
     exact⟨r,r1,r2,r3⟩
theorem eu (s:GSel) (hok:s.ok) (hs:s.sz≤1048576):∃r,Jh s=some r∧I4 s=some r∧r.size≤200:=by
 have hz:=GSel.sz_eq s
 obtain⟨b,b1,b2⟩:=sK s (by omega)
 rw[Jh,I4,b1,b2]
 simp only[A1]
 cases b with
 |false=>exact⟨_,rfl,rfl,Nat.zero_le _⟩
 |true=>
  obtain⟨h8,hf⟩:=A0F s (by omega) b2
  have go:∀out:ByteArray,out.size≤2000000→∃r,Fe out s=some r∧Ff out s=some r∧r.size≤200:=fun out ho=>by
   rw[Fe,Ff]
   exact A0H s (by omega) hf s.Steps [] out rfl (by omega)
  simp only[if_true]
  cases IN s.Id ⟨#[]⟩with
  |false=>exact go ⟨#[]⟩ (by decide)
  |true=>
   obtain⟨q,q1,q2,q3⟩:=nY s.Id (by omega)
   have a1:(⟨#[105,100,40]⟩:ByteArray).size=3:=rfl
   have a2:(⟨#[41]⟩:ByteArray).size=1:=rfl
   have z1:=AD ⟨#[105,100,40]⟩ q
   have z2:=AD (⟨#[105,100,40]⟩++q) ⟨#[41]⟩
   simp only[if_true,q1,q2,A1,Ae (show(⟨#[105,100,40]⟩:ByteArray).size+q.size≤1000000000 by omega),Ae (show((⟨#[105,100,40]⟩:ByteArray)++q).size+(⟨#[41]⟩:ByteArray).size≤1000000000 by omega)]
   exact go _ (by omega)
end TT
