import Derived.Test.YtpmnlfgdicmiiaaGreatDoorTDU
set_option linter.unusedVariables false
set_option linter.unusedSimpArgs false
namespace TT
open Go
def H3 (w:World) (B:Nat→Prop):List FA→List Hy→(Nat→Prop)→Prop
 | [],ls,S=>ls=[]∧Emp S
 |e::es,ls,S=>∃rows l ls' S1 S2,e= .mem rows 0 true∧ls=(l,rows)::ls'∧H1 w B l.1 l.2 rows S1∧H3 w B es ls' S2∧BK S S1 S2
theorem H3.length {w:World} {B:Nat→Prop}:∀{es:List FA} {ls:List Hy} {S:Nat→Prop},H3 w B es ls S→ls.length=es.length
 | [],ls,S,h=>by simp only[H3]at h;simp[h.1]
 |e::es,ls,S,h=>by
  simp only[H3]at h
  obtain⟨rows,l,ls',S1,S2,_,rfl,_,h2,_⟩:=h
  simp[H3.length h2]
theorem H3.append {w:World} {B:Nat→Prop}:∀{es es':List FA} {ls ls':List Hy} {S S1 S2:Nat→Prop},H3 w B es ls S1→H3 w B es' ls' S2→BK S S1 S2→H3 w B (es++es') (ls++ls') S
 | [],es',ls,ls',S,S1,S2,h,h',hs=>by
  simp only[H3]at h
  obtain⟨rfl,he⟩:=h
  have:S=S2:=funext fun b=>propext ⟨fun h=>((hs.1 b).1 h).resolve_left (he b),fun h=>hs.right h⟩
  rw[this];exact h'
 |e::es,es',ls,ls',S,S1,S2,h,h',hs=>by
  simp only[H3]at h
  obtain⟨rows,l,ls1,T1,T2,rfl,rfl,h1,h2,h3⟩:=h
  obtain⟨F,f1,f2⟩:=BK.assoc hs h3
  simp only[List.cons_append,H3]
  exact⟨rows,l,ls1++ls',T1,F,rfl,rfl,h1,H3.append h2 h' f2,f1⟩
theorem H3.parts {w:World} {B:Nat→Prop}:∀{es:List FA} {ls:List Hy} {S:Nat→Prop},H3 w B es ls S→∃part:Nat→Nat→Prop,
  (∀(j:Nat) e,es[j]? =some e→∃rows l,e= .mem rows 0 true∧ls[j]? =some (l,rows)∧H1 w B l.1 l.2 rows (part j))∧(∀j j' b,part j b→part j' b→j=j')∧(∀j b,part j b→S b)∧(∀j,es.length≤j→Emp (part j))
 | [],ls,S,h=>⟨fun _ _=>False,fun j e h=>by simp at h,fun _ _ _ h=>h.elim,fun _ _ h=>h.elim,fun _ _ _ h=>h⟩
 |e::es,ls,S,h=>by
  simp only[H3]at h
  obtain⟨rows,l,ls1,S1,S2,rfl,rfl,h1,h2,h3⟩:=h
  obtain⟨part,p1,p2,p3,p4⟩:=H3.parts h2
  refine⟨fun j=>match j with|0=>S1|j+1=>part j, ?_, ?_, ?_, ?_⟩
  ·intro j e hj
   cases j with
   |zero=>simp at hj;subst hj;exact⟨rows,l,rfl,by simp,h1⟩
   |succ j=>obtain⟨rows',l',g1,g2,g3⟩:=p1 j e (by simpa using hj);exact⟨rows',l',g1,by simpa using g2,g3⟩
  ·intro j j' b hj hj'
   cases j with
   |zero=>cases j' with
    |zero=>rfl
    |succ j'=>exact absurd (p3 j' b hj') (h3.2 b hj)
   |succ j=>cases j' with
    |zero=>exact absurd (p3 j b hj) (h3.2 b hj')
    |succ j'=>rw[p2 j j' b hj hj']
  ·intro j b hj
   cases j with
   |zero=>exact h3.left hj
   |succ j=>exact h3.right (p3 j b hj)
  ·intro j hj
   cases j with
   |zero=>simp at hj
   |succ j=>exact p4 j (by simpa using hj)
mutual
theorem A2l {w:World} {B:Nat→Prop}:∀{a:NH} {u:Value} {S:Nat→Prop} {ls:List Hy} {t k:Nat},Bo w B a u S ls→H3 w B (inV t k a).2 ls S∧∀ρ r,Rm t k (inV t k a).2 (ls.map Prod.fst) ρ r→A6 w B ρ r (inV t k a).1 u
 | .t c,u,S,ls,t,k,h=>by
  simp only[Bo]at h
  obtain⟨h1,h2,h3,rfl⟩:=h
  refine⟨⟨rfl,h3⟩,fun ρ r _=> ?_⟩
  simp only[inV,A6];exact⟨h1,h2⟩
 | .agg as,u,S,ls,t,k,h=>by
  simp only[Bo]at h
  obtain⟨us,rfl,h⟩:=h
  obtain⟨h1,h2⟩:=rV (t:=t) (k:=k) h
  refine⟨h1,fun ρ r hp=> ?_⟩
  simp only[inV,A6];exact⟨us,rfl,h2 ρ r hp⟩
 | .ln rows,u,S,ls,t,k,h=>by
  simp only[Bo]at h
  obtain⟨q,cap,rfl,hs,rfl⟩:=h
  refine⟨?_,fun ρ r hp=> ?_⟩
  ·simp only[inV,H3]
   exact⟨rows,(q,cap),[],S,fun _=>False,rfl,rfl,hs,⟨rfl,fun _ h=>h⟩,(BK.of_emp_left (fun _ h=>h)).comm⟩
  ·obtain⟨e1,e2⟩:=hp.2 0 _ rfl
   have e3:=hp.1 0 _ rfl
   rw[Nat.add_zero]at e1 e2 e3
   simp only[inV,A6]
   refine⟨e2,⟨q,cap,rfl, ?_,hs.capLe⟩, ?_⟩
   ·rcases hs with ⟨_,f1,f2,_⟩|⟨_,_,_,_,_,_,_,f3,_⟩
    ·simp[f2]
    ·exact f3.1
   ·intro rows' stt fx hg
    rw[e1]at hg;cases hg
    exact⟨Nat.le_refl _,fun _=>by rw[e3]⟩
 | .lp cells off,u,S,ls,t,k,h=>by
  simp only[Bo]at h
  obtain⟨b,cap,rfl,ho,hs,rfl⟩:=h
  refine⟨?_,fun ρ r hp=> ?_⟩
  ·simp only[inV,H3]
   exact⟨[cells],(some ⟨b,0,none⟩,cap),[],S,fun _=>False,rfl,rfl,hs,⟨rfl,fun _ h=>h⟩,(BK.of_emp_left (fun _ h=>h)).comm⟩
  ·obtain⟨e1,e2⟩:=hp.2 0 _ rfl
   have e3:=hp.1 0 _ rfl
   rw[Nat.add_zero]at e1 e2 e3
   simp only[inV,A6]
   refine⟨e2,_,rfl, ?_⟩
   intro rows' stt fx hg
   rw[e1]at hg;cases hg
   refine⟨fun _=>by simp,fun h=>absurd rfl h,fun _ _=>⟨fun h=>absurd rfl h,fun row' hr' hl=>⟨b,off,⟨by rw[e3],row',by simpa [D5] using hr',hl,by omega⟩,rfl⟩⟩⟩
 | .pp cells,u,S,ls,t,k,h=>by
  simp only[Bo]at h
  obtain⟨h1,h3,rfl⟩:=h
  refine⟨⟨rfl,h3⟩,fun ρ r _=> ?_⟩
  simp only[inV,A6];exact h1
 | .fn f caps,u,S,ls,t,k,h=>by
  simp only[Bo]at h
  obtain⟨us,rfl,h⟩:=h
  obtain⟨h1,h2⟩:=rV (t:=t) (k:=k) h
  refine⟨h1,fun ρ r hp=> ?_⟩
  simp only[inV,A6];exact⟨us,rfl,h2 ρ r hp⟩
theorem rV {w:World} {B:Nat→Prop}:∀{as:List NH} {us:List Value} {S:Nat→Prop} {ls:List Hy} {t k:Nat},BC w B as us S ls→H3 w B (jq t k as).2 ls S∧∀ρ r,Rm t k (jq t k as).2 (ls.map Prod.fst) ρ r→AJ w B ρ r (jq t k as).1 us
 | [],us,S,ls,t,k,h=>by
  simp only[BC]at h
  obtain⟨rfl,h3,rfl⟩:=h
  exact⟨⟨rfl,h3⟩,fun ρ r _=>by simp only[jq,AJ]⟩
 |a::as,us,S,ls,t,k,h=>by
  simp only[BC]at h
  obtain⟨u,us',S1,S2,l1,l2,rfl,h1,h2,h3,rfl⟩:=h
  obtain⟨g1,g2⟩:=A2l (t:=t) (k:=k) h1
  obtain⟨g3,g4⟩:=rV (t:=t) (k:=k+(inV t k a).2.length) h2
  refine⟨by simp only[jq];exact g1.append g3 h3,fun ρ r hp=> ?_⟩
  simp only[jq,List.map_append]at hp ⊢
  simp only[AJ]
  exact⟨u,us',rfl,g2 ρ r hp.left,g4 ρ r (hp.right (by rw[List.length_map,g1.length]))⟩
end
structure Ins (w:World) (B:Nat→Prop) (args:List NH) (us:List Value) (S:Nat→Prop) (t0:Nat) (lls:List (List Hy)) (part:Nat→Nat→Nat→Prop):Prop where
 len:lls.length=args.length
 ulen:us.length=args.length
 ents:∀(i:Nat) a l,args[i]? =some a→lls[i]? =some l→(inV (t0+i) 0 a).2.length=l.length∧∀(k:Nat) e,(inV (t0+i) 0 a).2[k]? =some e→∃rows lc,e= .mem rows 0 true∧l[k]? =some (lc,rows)∧H1 w B lc.1 lc.2 rows (part i k)
 reps:∀(i:Nat) a l u,args[i]? =some a→lls[i]? =some l→us[i]? =some u→∀ρ r,Rm (t0+i) 0 (inV (t0+i) 0 a).2 (l.map Prod.fst) ρ r→A6 w B ρ r (inV (t0+i) 0 a).1 u
 dis:∀i k i' k' b,part i k b→part i' k' b→i=i'∧k=k'
 sub:∀i k b,part i k b→S b
 out:∀i k,(∀l,lls[i]? =some l→l.length≤k)→Emp (part i k)
theorem A2m {w:World} {B:Nat→Prop}:∀{args:List NH} {us:List Value} {S:Nat→Prop} {ls:List Hy} (t0:Nat),BC w B args us S ls→∃lls part,lls.flatten=ls∧Ins w B args us S t0 lls part
 | [],us,S,ls,t0,h=>by
  simp only[BC]at h
  obtain⟨rfl,h3,rfl⟩:=h
  exact⟨[],fun _ _ _=>False,rfl,rfl,rfl,fun i a l h=>by simp at h,fun i a l u h=>by simp at h,fun _ _ _ _ _ h=>h.elim,fun _ _ _ h=>h.elim,fun _ _ _ _ h=>h⟩
 |a::as,us,S,ls,t0,h=>by
  simp only[BC]at h
  obtain⟨u,us',S1,S2,l1,l2,rfl,h1,h2,h3,rfl⟩:=h
  obtain⟨g1,g2⟩:=A2l (t:=t0) (k:=0) h1
  obtain⟨p0,q1,q2,q3,q4⟩:=g1.parts
  obtain⟨lls,part,rfl,I⟩:=A2m (t0+1) h2
  have he:∀i,t0+1+i=t0+(i+1):=fun i=>by omega
  refine⟨l1::lls,fun i=>match i with|0=>p0|i+1=>part i,rfl,by simp[I.len],by simp[I.ulen], ?_, ?_, ?_, ?_, ?_⟩
  ·intro i a' l ha hl
   cases i with
   |zero=>
    simp at ha hl
    subst ha;subst hl
    refine⟨(g1.length).symm,fun k e hk=> ?_⟩
    obtain⟨rows,lc,r1,r2,r3⟩:=q1 k e hk
    exact⟨rows,lc,r1,r2,r3⟩
   |succ i=>have:=I.ents i a' l (by simpa using ha) (by simpa using hl);rwa [he]at this
  ·intro i a' l u' ha hl hu ρ r hp
   cases i with
   |zero=>
    simp at ha hl hu
    subst ha;subst hl;subst hu
    exact g2 ρ r hp
   |succ i=>
    have:=I.reps i a' l u' (by simpa using ha) (by simpa using hl) (by simpa using hu) ρ r
    rw[he]at this
    exact this hp
  ·intro i k i' k' b hb hb'
   cases i with
   |zero=>cases i' with
    |zero=>exact⟨rfl,q2 k k' b hb hb'⟩
    |succ i'=>exact absurd (I.sub i' k' b hb') (h3.2 b (q3 k b hb))
   |succ i=>cases i' with
    |zero=>exact absurd (I.sub i k b hb) (h3.2 b (q3 k' b hb'))
    |succ i'=>obtain⟨rfl,rfl⟩:=I.dis i k i' k' b hb hb';exact⟨rfl,rfl⟩
  ·intro i k b hb
   cases i with
   |zero=>exact h3.left (q3 k b hb)
   |succ i=>exact h3.right (I.sub i k b hb)
  ·intro i k hk
   cases i with
   |zero=>exact q4 k (by rw[←g1.length];exact hk l1 (by simp))
   |succ i=>exact I.out i k (fun l hl=>hk l (by simpa using hl))
theorem bT : ∀ (args:List NH) (t i:Nat),(Rj t args)[i]? =(args[i]?).map fun a=>inV (t+i) 0 a
 | [],t,i=>by simp[Rj]
 |a::as,t,0=>by simp[Rj]
 |a::as,t,i+1=>by
  simp only[Rj,List.getElem?_cons_succ]
  rw[bT as (t+1) i,show t+1+i=t+(i+1) by omega]
theorem G6 : ∀ (args:List NH) (t:Nat),(Rj t args).length=args.length
 | [],t=>rfl
 |a::as,t=>by simp[Rj,G6 as (t+1)]
theorem rW (nt:Nat) (args:List NH) (t:Nat):((enter nt args).r).getD t []=match args[t]? with|some a=>(inV t 0 a).2|none=>[]:=by
 simp only[enter,List.getD]
 by_cases h:t<args.length
 ·rw[List.getElem?_append_left (by simp[G6,h]),List.getElem?_map,bT]
  simp[h]
 ·rw[List.getElem?_append_right (by simp[G6];omega)]
  simp[List.getElem?_eq_none (Nat.le_of_not_lt h),List.getElem?_replicate]
  split<;>rfl
theorem A6K (nt:Nat) (args:List NH) (t:Nat):((enter nt args).s).getD t .dead=match args[t]? with|some a=>(inV t 0 a).1|none=> .dead:=by
 simp only[enter,List.getD]
 by_cases h:t<args.length
 ·rw[List.getElem?_append_left (by simp[G6,h]),List.getElem?_map,bT]
  simp[h]
 ·rw[List.getElem?_append_right (by simp[G6];omega)]
  simp[List.getElem?_eq_none (Nat.le_of_not_lt h),List.getElem?_replicate]
  split<;>rfl
def qOf (lls:List (List Hy)) (id:Id):HG:=((lls.getD id.1 []).getD id.2 default).1
def nOf (lls:List (List Hy)) (id:Id):Nat:=((lls.getD id.1 []).getD id.2 default).2.length
theorem A0b {P:Program} {G:Gt} {w:World} {B L:Nat→Prop} {args:List NH} {us:List Value} {lls:List (List Hy)} {part:Nat→Nat→Nat→Prop} {nt:Nat} (I:Ins w B args us L 0 lls part) (hL:∀b,L b→¬B b) (hB:∀b,B b→b<w.heap.size) (hG:G.ok B w) (hn:args.length≤nt):
  HH ⟨P,G,w,B,L,hG,hL,hB,qOf lls,nOf lls⟩ (enter nt args) { tmps:=us.toArray++Array.replicate (nt-us.toArray.size) undef,defers:=[] } w:=by
 have hul:us.length=args.length:=I.ulen
 have hgetE:∀id:Id,Ac (enter nt args).r id=match args[id.1]? with|some a=>((inV id.1 0 a).2).getD id.2 .dead|none=> .dead:=by
  intro id
  simp only[Ac,rW]
  cases args[id.1]?<;>simp
 have hent:∀id e,e≠ .dead→Ac (enter nt args).r id=e→∃rows l,e= .mem rows 0 true∧lls[id.1]? =some l∧l[id.2]? =some (qOf lls id,rows)∧H1 w B (qOf lls id).1 (qOf lls id).2 rows (part id.1 id.2):=by
  intro id e hne he
  rw[hgetE]at he
  cases ha:args[id.1]? with
  |none=>rw[ha]at he;exact absurd he.symm hne
  |some a=>
   rw[ha]at he
   have hlt:=(List.getElem?_eq_some_iff.1 ha).1
   obtain⟨lx,hl⟩:∃l,lls[id.1]? =some l:=⟨_,List.getElem?_eq_getElem (by rw[I.len];exact hlt)⟩
   obtain⟨e1,e2⟩:=I.ents id.1 a _ ha hl
   rw[Nat.zero_add]at e1 e2
   cases hk:(inV id.1 0 a).2[id.2]? with
   |none=>simp[List.getD,hk]at he;exact absurd he.symm hne
   |some e'=>
    simp[List.getD,hk]at he
    subst he
    obtain⟨rows,lc,f1,f2,f3⟩:=e2 id.2 e' hk
    have hq:qOf lls id=lc:=by simp[qOf,List.getD,hl,f2]
    exact⟨rows,_,f1,hl,by rw[hq];exact f2,by rw[hq];exact f3⟩
 refine⟨B,qOf lls,fun id b=>part id.1 id.2 b, ?_, ?_, ?_, ?_,rfl⟩
 ·constructor
  ·intro id
   cases he:Ac (enter nt args).r id with
   |dead=>
    refine I.out id.1 id.2 fun l hl=> ?_
    rw[hgetE]at he
    have hlt:id.1<args.length:=by rw[←I.len];exact(List.getElem?_eq_some_iff.1 hl).1
    have ha:args[id.1]? =some args[id.1]:=by simp[hlt]
    obtain⟨e1,e2⟩:=I.ents id.1 _ l ha hl
    rw[Nat.zero_add]at e1 e2
    rw[ha]at he
    rcases Nat.lt_or_ge id.2 l.length with h|h
    ·obtain⟨rows,lc,f1,_⟩:=e2 id.2 (inV id.1 0 args[id.1]).2[id.2] (by simp[e1,h])
     simp[List.getD,e1,h]at he
     rw[he]at f1;cases f1
    ·exact h
   |mem rows stt fx=>
    obtain⟨rows',l,f1,f2,f3,f4⟩:=hent id _ (by simp) he
    cases f1
    refine⟨f4,fun _=>⟨rfl, ?_⟩⟩
    simp[nOf,List.getD,f2,f3]
  ·intro id id' b h h'
   obtain⟨e1,e2⟩:=I.dis _ _ _ _ b h h'
   exact Prod.ext e1 e2
  ·exact fun id b h=>hL b (I.sub _ _ b h)
  ·exact fun b h=>h.elim
  ·exact fun id b h=>h.elim
  ·exact hB
  ·exact fun b h=>h.elim
  ·exact fun id b h=> .inl (I.sub _ _ b h)
  ·exact fun b h=>h.elim
  ·exact fun b h=>h
  ·exact fun b h=> .inl h
  ·exact Nat.le_refl _
  ·exact fun b _ _=>rfl
  ·rfl
  ·rfl
  ·rfl
 ·intro t
  rw[A6K]
  cases ha:args[t]? with
  |none=>simp only[A6]
  |some a=>
   have hlt:=(List.getElem?_eq_some_iff.1 ha).1
   obtain⟨lx,hl⟩:∃l,lls[t]? =some l:=⟨_,List.getElem?_eq_getElem (by rw[I.len];exact hlt)⟩
   obtain⟨ux,hu⟩:∃u,us[t]? =some u:=⟨_,List.getElem?_eq_getElem (by rw[hul];exact hlt)⟩
   have hv:(us.toArray++Array.replicate (nt-us.toArray.size) undef).getD t undef=ux:=by
    rw[Array.getD_eq_getD_getElem?,Array.getElem?_append_left (by simp[hul,hlt])]
    simp[hu]
   show A6 w B (qOf lls) (enter nt args).r (inV t 0 a).1 _
   rw[hv]
   have:=I.reps t a _ _ ha hl hu (qOf lls) (enter nt args).r
   rw[Nat.zero_add]at this
   refine this ⟨fun j l hj=> ?_,fun j e hj=> ?_⟩
   ·rw[Nat.zero_add]
    rw[List.getElem?_map]at hj
    obtain⟨x,hx,rfl⟩:=Option.map_eq_some_iff.1 hj
    simp[qOf,List.getD,hl,hx]
   ·rw[Nat.zero_add]
    refine⟨?_, ?_⟩
    ·rw[hgetE];simp only[ha];simp[List.getD,hj]
    ·unfold Au;rw[rW];simp only[ha];exact(List.getElem?_eq_some_iff.1 hj).1
 ·simp[enter,G6,hul]
 ·simp[enter,G6]
end TT
namespace TT
open Go
section
variable {P:Program} {c:Ctx} {w w':World} {B B' B2:Nat→Prop} {ρ ρ':Id→HG} {Sf:Id→Nat→Prop} {X:Nat→Prop} {r r' r0:R} {a:Act} {s:List V}
def A0c (P:Program):RK→ResultVar→Bool
 | .tmp t, .tmp t'=>t==t'
 | .cell t n ag, .cell a ty=>t==a&&ldB P ty n ag&&decide (0<n)
 |_,_=>false
def qD (P:Program):List RK→List ResultVar→Bool
 | [],[]=>true
 |x::xs,y::ys=>A0c P x y&&qD P xs ys
 |_,_=>false
def qE (tmps:Array Value):ResultVar→Sem Value
 | .tmp t=>pure (tmps.getD t undef)
 | .cell a t=>do loadVar t (←asAddr (tmps.getD a undef))
theorem A2n {α:Type} {call:Ai} {d:Nat} {x:α×R} {q:RK} {y:ResultVar} {k:V→M α} (hag:A0c P q y=true) (hrun:(A0G s q k).run call d r=some x) (hI:E5 c w B ρ Sf X r) (hs:FO w B ρ r s a):
  ∃v u,(k v).run call d r=some x∧A6 w B ρ r v u∧(qE a.tmps y).run P w= .ok u w:=by
 cases q with
 |tmp t=>
  cases y with
  |cell _ _=>simp[A0c]at hag
  |tmp t'=>
   simp only[A0c,beq_iff_eq]at hag
   subst hag
   simp only[A0G]at hrun
   exact⟨_,_,hrun,hs t,rfl⟩
 |cell t n ag=>
  cases y with
  |tmp _=>simp[A0c]at hag
  |cell a' ty=>
   simp only[A0c,bz,beq_iff_eq,decide_eq_true_eq]at hag
   obtain⟨⟨rfl,h1⟩,h0⟩:=hag
   have hx:=hs t
   simp only[A0G]at hrun
   split at hrun
   ·rename_i id p i off m st he
    rw[he]at hx
    simp only[M.run]at hrun
    split at hrun
    ·rename_i rows stt fx hg
     split at hrun
     ·rename_i row hr
      split at hrun
      ·rename_i hle
       obtain⟨b,k',us,e1,e2,e3,e4,e5⟩:=Vm hI hg hx hr h0 hle
       have hld:(qE a.tmps (.cell t ty)).run P w= .ok (KJ ag us) w:=by
        simp only[qE]
        rw[e1]
        simp only[asAddr]
        rw[Sem.run_bind]
        simp[gP h1 e2 e3]
       cases ag with
       |true=>
        simp only[if_true]at hrun
        exact⟨_,_,hrun,NK (ag:=true) e4 (by simp),hld⟩
       |false=>
        simp only[bf,if_false]at hrun
        split at hrun
        ·rename_i v hv
         rw[hv]at e4
         exact⟨_,_,hrun,NK (ag:=false) e4 (by simp),hld⟩
        ·simp[M.run]at hrun
      ·simp[M.run]at hrun
     ·simp[M.run]at hrun
    ·simp[M.run]at hrun
   ·simp[M.run]at hrun
theorem zp {α:Type} (v:V) (k:T→M α):tw v k=take v k:=by cases v<;>rfl
theorem ui {α:Type}:∀(vs:List V) (k:List T→M α),pd vs k=FN vs k
 | [],k=>rfl
 |v::vs,k=>by
  simp only[pd,FN,zp]
  congr 1
  funext t
  exact ui vs _
theorem A2o {α:Type} {call:Ai} {d:Nat} {x:α×R} {v:V} {u:Value} {k:RV→M α} (hrun:(jr v k).run call d r=some x) (hI:E5 c w B ρ Sf X r) (hv:A6 w B ρ r v u):
  ∃rv S Sf' r',(k rv).run call d r'=some x∧Vr w B rv u S∧E5 c w B ρ Sf' (fun b=>X b∨S b) r'∧(∀b,S b→¬X b)∧PW w B ρ r r':=by
 have one:(tw v fun t=>k (.t t)).run call d r=some x→∃rv S Sf' r',(k rv).run call d r'=some x∧Vr w B rv u S∧E5 c w B ρ Sf' (fun b=>X b∨S b) r'∧(∀b,S b→¬X b)∧PW w B ρ r r':=by
  intro hrun
  rw[zp]at hrun
  obtain⟨t,S,Sf1,r1,g1,g2,g3,g4,g5,g6,g7⟩:=cU hrun hI hv
  exact⟨.t t,S,Sf1,r1,g1,⟨g2,g3⟩,g4,g5,g6⟩
 cases v with
 |agg cs=>
  simp only[jr]at hrun
  rw[ui]at hrun
  simp only[A6]at hv
  obtain⟨us,rfl,hv⟩:=hv
  obtain⟨ts,S,Sf1,r1,g1,g2,g3,g4,g5,g6,g7⟩:=Pf hrun hI hv
  exact⟨.agg ts,S,Sf1,r1,g1,⟨us,rfl,g2⟩,g3,g4,g5⟩
 |ptr id p i off n st=>
  simp only[jr]at hrun
  split at hrun
  ·rename_i hcond
   simp only[bz,List.isEmpty_iff,decide_eq_true_eq,beq_iff_eq]at hcond
   obtain⟨⟨⟨rfl,rfl⟩,rfl⟩,rfl⟩:=hcond
   simp only[M.run]at hrun
   split at hrun
   ·rename_i cells stt fx he
    split at hrun
    ·simp[M.run]at hrun
    ·simp only[M.run]at hrun
     simp only[A6]at hv
     obtain⟨_,ad,rfl,hp⟩:=hv
     obtain⟨hm,_⟩:=hI.mem he
     have hcl:0<cells.length:=by
      rcases hm with ⟨_,_,h,_⟩|⟨_,sz,_,_,_,_,_,_,_,_,h0,_,h10⟩
      ·cases h
      ·simp only[Cf]at h10
       obtain⟨_,_,h1,_⟩:=h10
       omega
     obtain⟨_,g2⟩:=(hp _ _ _ he).2.2 (fun _=>rfl) (fun h=>absurd rfl h)
     obtain⟨b,o,⟨l1,row,l2,l3,l4⟩,rfl⟩:=g2 cells (by simp[D5]) hcl
     obtain⟨h1,h2⟩:=hI.gone he (e:= .dead) rfl
     refine⟨.box cells,Sf id,_,_,hrun, ?_,h1,fun b hb hx=>hI.xd id b hx hb,h2⟩
     exact⟨b,(ρ id).2,by rw[l4];simp,by rw[←l1];exact hm⟩
   ·simp[M.run]at hrun
  ·simp[M.run]at hrun
 |_=>exact one (by simpa only[jr] using hrun)
theorem uj {α:Type} {call:Ai} {d:Nat} {x:α×R}:∀{qs:List RK} {ys:List ResultVar} {k:List RV→M α} {Sf:Id→Nat→Prop} {X:Nat→Prop} {r:R},qD P qs ys=true→(ni s qs k).run call d r=some x→E5 c w B ρ Sf X r→FO w B ρ r s a→
  ∃rvs us S Sf' r',(k rvs).run call d r'=some x∧Eu w B rvs us S∧E5 c w B ρ Sf' (fun b=>X b∨S b) r'∧(∀b,S b→¬X b)∧(∀t,(r'.getD t []).length=(r.getD t []).length)∧(ys.mapM (qE a.tmps)).run P w= .ok us w
 | [],ys,k,Sf,X,r,hag,hrun,hI,hs=>by
  cases ys with
  |cons y ys=>simp[qD]at hag
  |nil=>
   simp only[ni]at hrun
   exact⟨[],[],fun _=>False,Sf,r,hrun,⟨rfl,fun _ h=>h⟩,hI.congrX (fun b=>by simp),fun _ h=>h.elim,fun _=>rfl,by simp⟩
 |q::qs,ys,k,Sf,X,r,hag,hrun,hI,hs=>by
  cases ys with
  |nil=>simp[qD]at hag
  |cons y ys=>
   simp only[qD,bz]at hag
   simp only[ni]at hrun
   obtain⟨v,u,h1,h2,h3⟩:=A2n hag.1 hrun hI hs
   obtain⟨rv,S1,Sf1,r1,g1,g2,g3,g4,g5⟩:=A2o h1 hI h2
   obtain⟨rvs,us,S2,Sf2,r2,k1,k2,k3,k4,k5,k6⟩:=uj hag.2 g1 g3 (fun t=>g5.claims _ _ (hs t))
   refine⟨rv::rvs,u::us,fun b=>S1 b∨S2 b,Sf2,r2,k1, ?_,k3.congrX (fun b=>by simp[or_assoc]), ?_,fun t=>(k5 t).trans (g5.len t), ?_⟩
   ·simp only[Eu]
    exact⟨u,us,S1,S2,rfl,g2,k2,BK.mk' fun b h h'=>k4 b h' (.inr h)⟩
   ·intro b hb
    rcases hb with h|h
    ·exact g4 b h
    ·exact fun hx=>k4 b h (.inl hx)
   ·rw[List.mapM_cons,Sem.run_bind,h3]
    simp[Sem.run_bind,k6]
theorem uk {fn:Func} {tmps:Array Value} {us:List Value} (h:(fn.results.toList.mapM (qE tmps)).run P w= .ok us w):(results fn tmps).run P w= .ok (kD us) w:=by
 have he:results fn tmps=(do let vs←fn.results.mapM (qE tmps);pure (if h:vs.size=1 then vs[0]else .tuple vs):Sem Value):=by
  unfold results
  congr 1
 rw[he,Array.mapM_eq_mapM_toList]
 simp only[map_eq_pure_bind,Sem.run_bind,h,Result.andThen_ok]
 have:(if h:us.length=1 then us[0]else Value.tuple us.toArray)=kD us:=by
  match us with
  | []=>rfl
  | [u]=>rfl
  |u::v::us=>simp[kD]
 simp[Sem.run_bind,this]
theorem BT.append : ∀ {ls ls':List Hy} {os os':List (Option Rows)} {S S':Nat→Prop},BT w B ls os S→BT w B ls' os' S'→(∀b,S b→¬S' b)→BT w B (ls++ls') (os++os') (fun b=>S b∨S' b)
 | [],ls',os,os',S,S',h,h',hd=>by
  simp only[BT]at h
  obtain⟨rfl,he⟩:=h
  have:(fun b=>S b∨S' b)=S':=funext fun b=>propext ⟨fun h=>h.resolve_left (he b), .inr⟩
  rw[this];exact h'
 |l::ls,ls',os,os',S,S',h,h',hd=>by
  simp only[BT]at h
  obtain⟨o,os1,S1,S2,rfl,h1,h2,h3⟩:=h
  simp only[List.cons_append,BT]
  refine⟨o,os1++os',S1,_,rfl,h1,BT.append h2 h' (fun b hb=>hd b (h3.right hb)),⟨fun b=> ?_,fun b hb hb'=> ?_⟩⟩
  ·show(S b∨S' b)↔_
   rw[h3.1];exact or_assoc
  ·rcases hb' with h|h
   ·exact h3.2 b hb h
   ·exact hd b (h3.left hb) h
theorem qF : ∀ (es:List FA) (ls:List Hy) (f:Nat→Nat→Prop),es.length=ls.length→(∀(k:Nat) rows stt l,es[k]? =some (.mem rows stt true)→ls[k]? =some l→H1 w B l.1.1 l.1.2 rows (f k)∧rows.length=l.2.length)→(∀k k' b,f k b→f k' b→k=k')→
  BT w B ls (es.map js) (fun b=>∃k rows stt,es[k]? =some (.mem rows stt true)∧f k b)
 | [],ls,f,hl,h,hd=>by
  cases ls with
  |cons l ls=>simp at hl
  |nil=>simp only[List.map_nil,BT];exact⟨trivial,fun b hb=>by obtain⟨k,rows,stt,h,_⟩:=hb;simp at h⟩
 |e::es,ls,f,hl,h,hd=>by
  cases ls with
  |nil=>simp at hl
  |cons l ls=>
   have ih:=qF es ls (fun k=>f (k+1)) (by simpa using hl) (fun k rows stt l' he hl'=>h (k+1) rows stt l' (by simpa using he) (by simpa using hl')) (fun k k' b h1 h2=>by have:=hd _ _ b h1 h2;omega)
   simp only[List.map_cons,BT]
   refine⟨_,_,fun b=>∃rows stt,e= .mem rows stt true∧f 0 b,_,rfl, ?_,ih,⟨fun b=>⟨?_, ?_⟩, ?_⟩⟩
   ·cases e with
    |dead=>exact fun b hb=>by obtain⟨_,_,h,_⟩:=hb;cases h
    |mem rows stt fx=>cases fx with
     |false=>exact fun b hb=>by obtain⟨_,_,h,_⟩:=hb;cases h
     |true=>
      obtain⟨h1,h2⟩:=h 0 rows stt l (by simp) (by simp)
      have he:(fun b=>∃rows' stt',FA.mem rows stt true= .mem rows' stt' true∧f 0 b)=f 0:=funext fun b=>propext ⟨fun⟨_,_,_,h⟩=>h,fun h=>⟨rows,stt,rfl,h⟩⟩
      rw[he]
      exact⟨h1,h2⟩
   ·rintro ⟨k,rows,stt,h1,h2⟩
    cases k with
    |zero=>simp at h1;exact .inl ⟨rows,stt,h1,h2⟩
    |succ k=>exact .inr ⟨k,rows,stt,by simpa using h1,h2⟩
   ·rintro (⟨rows,stt,h1,h2⟩|⟨k,rows,stt,h1,h2⟩)
    ·exact⟨0,rows,stt,by simp[h1],h2⟩
    ·exact⟨k+1,rows,stt,by simpa using h1,h2⟩
   ·rintro b ⟨_,_,_,h1⟩ ⟨k,_,_,_,h2⟩
    have:=hd _ _ b h1 h2
    omega
theorem kS : ∀ (ess:List (List FA)) (lls:List (List Hy)) (f:Nat→Nat→Nat→Prop),ess.map (·.length)=lls.map (·.length)→(∀(t k:Nat) es ls rows stt l,ess[t]? =some es→lls[t]? =some ls→es[k]? =some (.mem rows stt true)→ls[k]? =some l→H1 w B l.1.1 l.1.2 rows (f t k)∧rows.length=l.2.length)→
  (∀t k t' k' b,f t k b→f t' k' b→t=t'∧k=k')→∃S,BT w B lls.flatten (ess.flatMap fun es=>es.map js) S∧∀b,S b→∃t k es rows stt,ess[t]? =some es∧es[k]? =some (.mem rows stt true)∧f t k b
 | [],lls,f,hl,h,hd=>by
  cases lls with
  |cons l ls=>simp at hl
  |nil=>exact⟨fun _=>False,⟨rfl,fun _ h=>h⟩,fun _ h=>h.elim⟩
 |es::ess,lls,f,hl,h,hd=>by
  cases lls with
  |nil=>simp at hl
  |cons ls lls=>
   simp only[List.map_cons,List.cons.injEq]at hl
   obtain⟨S,h1,h2⟩:=kS ess lls (fun t=>f (t+1)) hl.2 (fun t k es' ls' rows stt l a1 a2 a3 a4=>h (t+1) k es' ls' rows stt l (by simpa using a1) (by simpa using a2) a3 a4) (fun t k t' k' b x y=>by have:=hd _ _ _ _ b x y;omega)
   have h3:=qF (w:=w) (B:=B) es ls (f 0) hl.1 (fun k rows stt l a1 a2=>h 0 k es ls rows stt l (by simp) (by simp) a1 a2) (fun k k' b x y=>(hd _ _ _ _ b x y).2)
   refine⟨fun b=>(∃k rows stt,es[k]? =some (.mem rows stt true)∧f 0 k b)∨S b, ?_, ?_⟩
   ·rw[List.flatten_cons,List.flatMap_cons]
    exact BT.append h3 h1 (fun b hb hb'=>by
     obtain⟨k,_,_,_,x⟩:=hb
     obtain⟨t,k',_,_,_,_,_,y⟩:=h2 b hb'
     have:=hd _ _ _ _ b x y
     omega)
   ·intro b hb
    rcases hb with ⟨k,rows,stt,x,y⟩|hb
    ·exact⟨0,k,es,rows,stt,by simp,x,y⟩
    ·obtain⟨t,k,es',rows,stt,x,y,z⟩:=h2 b hb
     exact⟨t+1,k,es',rows,stt,by simpa using x,y,z⟩
def CQ (P:Program) (f:FuncId) (fn:F):Bool:=match P.funcs[f]? with
 |some g=>g.name != "runtime.NumGoroutine" &&fn.nt==g.ntmps&&qD P fn.res g.results.toList&&(match g.body with|some code=>(match fn.co with|none=>agK P fn.body code|some (.k k)=>Ph P k code|some (.m _)=>false)|none=>false)
 |none=>false
theorem xp {G:Gt} {call:Ai} (hS:EY G P call) (hm:P.follows .mixedOrders=true) {lf:Nat} {f:FuncId} {fn:F} (hag:CQ P f fn=true) {args:List NH} {res:BD} (h:nk call lf fn args=some res):
  NN P f=true∧∀w B L us ls,BC w B args us L ls→(∀b,L b→¬B b)→(∀b,B b→b<w.heap.size)→G.ok B w→Calls P f us.toArray w (xG w B L ls res):=by
 unfold CQ at hag
 cases hf:P.funcs[f]? with
 |none=>rw[hf]at hag;cases hag
 |some g=>
  rw[hf]at hag
  simp only[bz,bne_iff_ne,ne_eq,beq_iff_eq]at hag
  obtain⟨⟨⟨h1,h2⟩,h3⟩,h4⟩:=hag
  cases hb:g.body with
  |none=>rw[hb]at h4;cases h4
  |some code=>
   rw[hb]at h4
   refine⟨by simp[NN,hf,hb,h1],fun w B L us ls hA hL hB hG=> ?_⟩
   obtain⟨lls,part,rfl,I⟩:=A2m 0 hA
   have hn:args.length≤fn.nt:=by
    unfold nk at h
    cases hco:fn.co with
    |none=>
     rw[hco]at h
     unfold iH at h
     by_cases hn:args.length≤fn.nt
     ·exact hn
     ·simp only[if_neg hn]at h;cases h
    |some k=>
     cases k with
     |m m=>rw[hco]at h4;cases h4
     |k k=>
     rw[hco]at h
     obtain⟨x,hx,_⟩:=Option.bind_eq_some_iff.1 h
     unfold iH at hx
     by_cases hn:args.length≤fn.nt
     ·exact hn
     ·rw[if_neg hn]at hx;cases hx
   have hsim:=A0b (P:=P) (G:=G) I hL hB hG hn
   rw[h2]at hsim
   refine calls_of_wp hf hb ?_
   rw[←h2]
   rw[←h2]at hsim
   have theEnd:∀body,iH call lf fn.nt fn.res body args=some res→∃q,Di call lf body (enter fn.nt args)=some q∧∀a' w',HH ⟨P,G,w,B,L,hG,hL,hB,qOf lls,nOf lls⟩ q.2 a' w'→bodyPost P g (xG w B L lls.flatten res) (ns q.1) a' w':=by
    intro body h
    unfold iH at h
    rw[if_pos hn]at h
    obtain⟨q,k1,k2⟩:=Option.bind_eq_some_iff.1 h
    refine⟨q,k1,fun a' w' hs'=> ?_⟩
    have fin:((ni q.2.s fn.res M.ret).run (fun _ _=>none) 0 q.2.r).bind (fun o=>if Xs o.2 args.length=Xs (enter fn.nt args).r args.length then some { vals:=o.1,after:=jt o.2 args.length }else none)=some res→
      a'.defers=[]∧∃v,(results g a'.tmps).run P w'= .ok v w'∧xG w B L lls.flatten res (.returned v) w':=by
     intro k2
     obtain⟨o,m1,m2⟩:=Option.bind_eq_some_iff.1 k2
     split at m2
     ·rename_i hsh
      simp only[oi]at m2
      subst m2
      obtain⟨B',ρ',Sf',hI,hs,hz,hl,hd⟩:=hs'
      obtain⟨rvs,us',Sr,Sf2,r2,n1,n2,n3,n4,n5,n6⟩:=uj h3 m1 hI hs
      simp only[M.run,oi]at n1
      subst n1
      refine⟨hd,kD us',uk n6, ?_⟩
      have hI3:E5 _ w' B' ρ' Sf2 Sr r2:=n3.congrX (fun b=>by simp)
      have hlen:(r2.take args.length).map (·.length)=lls.map (·.length):=by
       have e1:Xs (enter fn.nt args).r args.length=lls.map (·.length):=by
        apply List.ext_getElem?
        intro i
        simp only[Xs,List.getElem?_map,List.getElem?_take]
        by_cases hi:i<args.length
        ·rw[if_pos hi]
         have hg:=rW fn.nt args i
         have ha:args[i]? =some args[i]:=by simp[hi]
         obtain⟨lx,hlx⟩:∃l,lls[i]? =some l:=⟨_,List.getElem?_eq_getElem (by rw[I.len];exact hi)⟩
         obtain⟨e2,_⟩:=I.ents i _ lx ha hlx
         rw[Nat.zero_add]at e2
         rw[ha]at hg
         rw[hlx]
         have hlt:i<(enter fn.nt args).r.length:=by simp[enter,G6];omega
         have hgi:(enter fn.nt args).r[i]? =some (inV i 0 args[i]).2:=by
          rw[List.getElem?_eq_getElem hlt]
          simp only[List.getD,List.getElem?_eq_getElem hlt,Option.getD_some]at hg
          rw[hg]
         rw[hgi]
         simp[e2]
        ·rw[if_neg hi,List.getElem?_eq_none (by rw[I.len];omega)]
         rfl
       exact hsh.trans e1
      obtain⟨Sa,p1,p2⟩:=kS (w:=w') (B:=B') (r2.take args.length) lls (fun t k=>Sf2 (t,k)) hlen (fun t k es ls rows stt l a1 a2 a3 a4=>by
       have hes:r2.getD t []=es:=by
        have:r2[t]? =some es:=by
         rw[List.getElem?_take]at a1
         split at a1
         ·exact a1
         ·cases a1
        simp[List.getD,this]
       have hg:Ac r2 (t,k)= .mem rows stt true:=by simp only[Ac];rw[hes];simp[List.getD,a3]
       obtain⟨b1,b2⟩:=hI3.mem hg
       obtain⟨b3,b4⟩:=b2 rfl
       have hq:qOf lls (t,k)=l.1:=by simp[qOf,List.getD,a2,a4]
       have hnn:nOf lls (t,k)=l.2.length:=by simp[nOf,List.getD,a2,a4]
       simp only at b3 b4
       rw[b3,hq]at b1
       exact⟨b1,by rw[b4,hnn]⟩) (fun t k t' k' b x y=>by
        have:=hI3.disj _ _ b x y
        exact⟨congrArg Prod.fst this,congrArg Prod.snd this⟩)
      have hSa:∀b,Sa b→∃id,Sf2 id b:=fun b hb=>by obtain⟨t,k,_,_,_,_,_,h⟩:=p2 b hb;exact⟨(t,k),h⟩
      exact⟨B',Sr,Sa,us',{
       val:=rfl
       vals:=n2
       after:=p1
       dis:=fun b hb hb'=>by obtain⟨id,h⟩:=hSa b hb';exact hI3.xd id b hb h
       nr:=hI3.xb
       na:=fun b hb=>by obtain⟨id,h⟩:=hSa b hb;exact hI3.nb id b h
       old:=hI3.old
       sh:=hI3.sh
       ownr:=hI3.ownX
       owna:=fun b hb=>by obtain⟨id,h⟩:=hSa b hb;exact hI3.own id b h
       inB:=hI3.inB
       frame:=hI3.frame
       size:=hI3.size
       os:=hI3.os
       tape:=hI3.tape
       output:=hI3.output }⟩
     ·cases m2
    obtain⟨e1,s1⟩:=q
    cases e1 with
    |exit id=>simp at k2
    |normal=>exact fin k2
    |ret=>exact fin k2
   unfold nk at h
   cases hco:fn.co with
   |none=>
    rw[hco]at h h4
    obtain⟨q,k1,k2⟩:=theEnd _ h
    exact EJ hS hm h4 k1 hsim k2
   |some k=>
    cases k with
    |m m=>rw[hco]at h4;cases h4
    |k k=>
    rw[hco]at h h4
    obtain⟨x,hx,h⟩:=Option.bind_eq_some_iff.1 h
    obtain⟨y,hy,h⟩:=Option.bind_eq_some_iff.1 h
    by_cases hxy:x=y
    ·rw[if_pos hxy]at h
     obtain rfl:=Option.some.inj h
     subst hxy
     exact Hz hS hm h4 (fun v=>by
      cases v
      ·exact theEnd _ hy
      ·exact theEnd _ hx) hsim
    ·rw[if_neg hxy]at h;cases h
def ACR (G:Gt) (P:Program) (f:FuncId) (m:List NH→M BD):Prop:=∀call,EY G P call→∀args res r',(m args).run call 0 []=some (res,r')→
 NN P f=true∧∀w B L us ls,BC w B args us L ls→(∀b,L b→¬B b)→(∀b,B b→b<w.heap.size)→G.ok B w→Calls P f us.toArray w (xG w B L ls res)
def AgH (G:Gt) (P:Program) (f:FuncId) (fn:F):Prop:=CQ P f fn=true∨∃m,fn.co=some (.m m)∧ACR G P f m
theorem Y1 {G:Gt} {FT:nj} {X:Ai} (hX:EY G P X) (hm:P.follows .mixedOrders=true) (hF:∀f fn,FT f=some fn→AgH G P f fn):∀n,EY G P (J0 FT X n)
 |0=>fun f args res h=>by simp[J0]at h
 |n+1=>fun f args res h=>by
  simp only[J0]at h
  split at h
  ·rename_i r hr
   simp only[oi]at h
   subst h
   exact hX f args r hr
  ·obtain⟨fn,h1,h2⟩:=Option.bind_eq_some_iff.1 h
   rcases hF f fn h1 with hag|⟨m,hc,hH⟩
   ·exact xp (Y1 hX hm hF n) hm hag h2
   ·unfold nk at h2
    rw[hc]at h2
    obtain⟨⟨x,r'⟩,e1,e2⟩:=Option.map_eq_some_iff.1 h2
    simp only at e2
    subst e2
    exact hH _ (Y1 hX hm hF n) args _ _ e1
end
end TT
