import Derived.Test.YtpmnlfgdicmiiaaGreatDoorTD
import Derived.Laws.MakeOwn
set_option linter.unusedVariables false
set_option linter.unusedSimpArgs false
namespace TT
open Go
theorem Bb.shift {w:World}:∀(p:Path) {q:Option Addr} {rows:Rows} {i c j b k:Nat} {row:List T},Bb w q rows p i c b k→(D5 rows p).bind (·[i]?)=some row→c+j<row.length→Bb w q rows p i (c+j) b (k+j)
 | [],q,rows,i,c,j,b,k,row,⟨h1,row',h2,h3,h4⟩,hr,hl=>by
  simp only[D5,Option.bind_some]at hr
  rw[h2]at hr
  simp only[oi]at hr
  subst hr
  exact⟨h1,_,h2,hl,by omega⟩
 |(i0,c0)::p,q,rows,i,c,j,b,k,row,⟨b0,row0,rows1,q1,n1,cap1,h1,h2,h3,h4,h5⟩,hr,hl=>by
  simp only[D5,h2,Option.bind_some,h3]at hr
  exact⟨b0,row0,rows1,q1,n1,cap1,h1,h2,h3,h4,Bb.shift p h5 hr hl⟩
theorem KI {rows:Rows} {p:Path} {i c:Nat} {row:List T} (h:(D5 rows p).bind (·[i]?)=some row):CR rows p i c=row[c]? :=by
 simp only[CR]
 obtain⟨rs,h1,h2⟩:=Option.bind_eq_some_iff.1 h
 rw[h1,Option.bind_some,h2,Option.bind_some]
theorem zd {rows:Rows} {p:Path} {i:Nat} {row:List T} (h:(D5 rows p).bind (·[i]?)=some row):ju p i<rows.length:=by
 cases p with
 |nil=>
  simp only[D5,Option.bind_some]at h
  exact(List.getElem?_eq_some_iff.1 h).1
 |cons x p=>
  obtain⟨i0,c0⟩:=x
  simp only[D5]at h
  simp only[ju]
  cases h0:rows[i0]? with
  |none=>simp[h0]at h
  |some r=>exact(List.getElem?_eq_some_iff.1 h0).1
theorem WW {rows:Rows} {stt:Nat} {p:Path} {i n st:Nat} {row:List T} (h:Dw rows stt p i n st=some row):
  (D5 rows p).bind (·[i]?)=some row∧(p=[]→rows.length=n)∧(p≠[]→st=stt):=by
 unfold Dw at h
 split at h
 ·split at h
  ·rename_i e
   exact⟨by simpa only[D5,Option.bind_some] using h,fun _=>e,fun h=>absurd rfl h⟩
  ·cases h
 ·split at h
  ·rename_i e
   exact⟨h,⟨fun h=>(by cases h),fun _=>e⟩⟩
  ·cases h
theorem Bb.put {w w':World} {B:Nat→Prop}:∀(p:Path) {q:Option Addr} {cap:Nat} {rows:Rows} {S:Nat→Prop} {i c b k:Nat} {t t':T},H1 w B q cap rows S→CR rows p i c=some t→Bb w q rows p i c b k→
  (∀x o,¬(x=b∧o=k)→w'.cell? ⟨x,o,none⟩=w.cell? ⟨x,o,none⟩)→Bb w' q (Bn rows p i c t') p i c b k∧S b
 | [],q,cap,rows,S,i,c,b,k,t,t',ho,hg,⟨h1,row,h2,h3,h4⟩,hs=>by
  refine⟨⟨h1,row.set c t', ?_,by simpa using h3,by simpa using h4⟩, ?_⟩
  ·simp only[Bn,ID,h2]
   have:=(List.getElem?_eq_some_iff.1 h2).1
   simp[this]
  ·rcases ho with ⟨h,_⟩|⟨b',sz,e,cur,S',g3,g4,g5,g6,g7,g8,g9,g10⟩
   ·rw[h]at h1;cases h1
   ·rw[h1]at g3
    simp only[oi,Addr.mk.injEq,and_true]at g3
    subst g3
    exact g9.left rfl
 |(i0,c0)::p,q,cap,rows,S,i,c,b,k,t,t',ho,hg,h,hs=>by
  obtain⟨b0,row,rows1,q1,n1,cap1,g1,g2,g3,g4,g5⟩:=h
  have hgc:CR rows [] i0 c0=some (.sl true rows1):=by simp only[CR,D5,Option.bind_some,g2,g3]
  obtain⟨b',k',cur,e,u,S1,S2,l1,l2,l3,l4,l5,l6,l7,_⟩:=H1.lens [] ho hgc
  obtain⟨e1,row',e2,e3,e4⟩:=l1
  rw[g1]at e1
  simp only[oi,Addr.mk.injEq,and_true]at e1
  subst e1
  rw[g2]at e2;cases e2
  have hc:w.cell? ⟨b0,i0*row.length+c0,none⟩=some u:=by rw[l2.cell _,←e4];exact l3
  rw[hc]at g4
  simp only[oi]at g4
  obtain⟨q2,cap2,hu,hs2⟩:=FM.1 l5
  rw[hu]at g4
  injection g4 with f1 f2 f3
  subst f1
  have hg':CR rows1 p i c=some t:=by
   have:=hg
   simp only[CR,D5,g2,Option.bind_some,g3]at this
   exact this
  obtain⟨m1,m2⟩:=Bb.put p (t':=t') hs2 hg' g5 hs
  have hne:b0≠b:=fun e=>by subst e;exact l6.2 b0 m2 l7
  refine⟨⟨b0,row.set c0 (.sl true (Bn rows1 p i c t')),Bn rows1 p i c t',q2,n1,cap1,g1, ?_, ?_, ?_,m1⟩,l6.left m2⟩
  ·simp only[Bn,g2,Option.bind_some,g3,ID]
   have:=(List.getElem?_eq_some_iff.1 g2).1
   simp[this]
  ·have:=(List.getElem?_eq_some_iff.1 g3).1
   simp[this]
  ·rw[List.length_set,hs _ _ (fun e=>hne e.1),hc,hu,f2,f3]
section
variable {P:Program} {c:Ctx} {w:World} {B:Nat→Prop} {ρ:Id→HG} {Sf:Id→Nat→Prop} {X:Nat→Prop} {r:R} {a:Act} {o:Oper}
def Gx (w:World) (b k:Nat) (us:List Value):Prop:=∀(j:Nat) u,us[j]? =some u→w.cell? ⟨b,k+j,none⟩=some u
theorem Gx.cons {b k:Nat} {u:Value} {us:List Value} (h0:w.cell? ⟨b,k,none⟩=some u) (h:Gx w b (k+1) us):Gx w b k (u::us):=by
 intro j v hj
 cases j with
 |zero=>simp at hj;subst hj;simpa using h0
 |succ j=>have:=h j v (by simpa using hj);rwa [show k+1+j=k+(j+1) by omega]at this
def KJ (ag:Bool) (us:List Value):Value:=if ag then .agg us.toArray else us.headD undef
def xC (ag:Bool) (vs:List V):V:=if ag then .agg vs else vs.headD .dead
theorem NK {ag:Bool} {vs:List V} {us:List Value} (h:AJ w B ρ r vs us) (hl:ag=false→vs.length=1):A6 w B ρ r (xC ag vs) (KJ ag us):=by
 cases ag with
 |true=>simp only[xC,KJ,if_true,A6];exact⟨_,rfl,by simpa using h⟩
 |false=>
  cases vs with
  |nil=>simp at hl
  |cons v vs=>
   simp only[AJ]at h
   obtain⟨u,us',rfl,h1,h2⟩:=h
   simpa [xC,KJ] using h1
def ldB (P:Program) (t:TypeId) (n:Nat) (ag:Bool):Bool:=match P.underlying t with
 |some (.struct _)=>ag&&(match P.info? t with|some i=>i.size==n|none=>false)
 |some (.array _ _)=>ag&&(match P.info? t with|some i=>i.size==n|none=>false)
 |some _=> !ag&&n==1
 |none=>false
theorem uB {t:TypeId} {i:TypeInfo} (h:P.info? t=some i):(typeInfo t).run P w= .ok i w:=by
 simp[typeInfo,h]
theorem Jb {t:TypeId} {i:TypeInfo} (h:P.info? t=some i):(Go.sizeOf t).run P w= .ok i.size w:=by
 unfold Go.sizeOf
 rw[Sem.run_bind,uB h]
 rfl
theorem cV {t:TypeId} {i:TypeInfo} {z:Value} (h:P.info? t=some i) (hz:i.zero=some z):(zeroValue t).run P w= .ok z w:=by
 unfold zeroValue
 rw[Sem.run_bind,uB h]
 simp[hz]
theorem pg {t:TypeId} {d:TypeDesc} (h:P.underlying t=some d):(isAgg t).run P w= .ok (match d with| .struct _=>true| .array _ _=>true|_=>false) w:=by
 unfold isAgg
 rw[Sem.run_bind,run_underlying h]
 cases d<;>rfl
theorem DB (b k j:Nat):(⟨b,k,none⟩:Addr).add j=⟨b,k+j,none⟩:=by
 cases j with
 |zero=>simp[Addr.add]
 |succ j=>simp[Addr.add]
theorem gP {t:TypeId} {n:Nat} {ag:Bool} (h:ldB P t n ag=true) {b k:Nat} {us:List Value} (hl:us.length=n) (hc:Gx w b k us):(loadVar t ⟨b,k,none⟩).run P w= .ok (KJ ag us) w:=by
 have hcells:∀n,us.length=n→(loadCells ⟨b,k,none⟩ n).run P w= .ok us.toArray w:=by
  intro n hn
  subst hn
  exact run_loadCells_list w ⟨b,k,none⟩ us (fun j v hj=>by rw[DB];exact hc j v hj)
 unfold ldB at h
 unfold loadVar
 rw[Sem.run_bind]
 have one:ag=false→n=1→(load ⟨b,k,none⟩).run P w= .ok (KJ ag us) w:=by
  intro e1 e2
  subst e1 e2
  match us,hl with
  | [u],_=>
   have h0:=hc 0 u (by simp)
   simp only[load,Sem.run,Nat.add_zero]at h0 ⊢
   rw[h0]
   simp[KJ]
 have agg:ag=true→(match P.info? t with|some i=>i.size==n|none=>false)=true→((do let s←sizeOf t;let cs←loadCells ⟨b,k,none⟩ s;pure (.agg cs)):Sem Value).run P w= .ok (KJ ag us) w:=by
  intro e1 e2
  subst e1
  cases hi:P.info? t with
  |none=>rw[hi]at e2;cases e2
  |some i=>
   rw[hi]at e2
   have e3:i.size=n:=by simpa using e2
   simp[Jb hi,e3,hcells n hl,KJ]
 cases hd:P.underlying t with
 |none=>rw[hd]at h;cases h
 |some d=>
  rw[hd]at h
  rw[pg hd]
  simp only[Result.andThen_ok]
  cases d<;>simp only[bz,Bool.not_eq_true',beq_iff_eq]at h ⊢
  case struct=>exact agg h.1 h.2
  case array=>exact agg h.1 h.2
  all_goals exact one h.1 h.2
theorem A2K {t:TypeId} {n:Nat} {ag:Bool} {y:Operand} (h:o.op= .load t y) (hb:ldB P t n ag=true) {b k:Nat} (hy:a.eval y= .pointer (some ⟨b,k,none⟩)) {us:List Value} (hl:us.length=n) (hc:Gx w b k us):
  PY P o a w (KJ ag us) w:=by
 refine Dx (s:=Instr.loadAt t (.pointer (some ⟨b,k,none⟩))) (by unfold execOp;rw[h];simp only[hy]) ?_
 simp only[Instr.loadAt,Instr.sureAddr]
 rw[Sem.run_bind]
 simp[gP hb hl hc]
theorem k8 (hI:E5 c w B ρ Sf X r) {id:Id} {rows:Rows} {stt:Nat} {fx:Bool} (h0:Ac r id= .mem rows stt fx) {p:Path} {i b:Nat} {row:List T} (hr:(D5 rows p).bind (·[i]?)=some row):
  ∀(ts:List T) (off k:Nat),(∀j t,ts[j]? =some t→row[off+j]? =some t)→(ts≠[]→Bb w (ρ id).1 rows p i off b k)→
   ∃us,us.length=ts.length∧Gx w b k us∧AJ w B ρ r (Pb id p i off stt ts) us
 | [],off,k,_,_=>⟨[],rfl,fun j u h=>by simp at h,by simp[Pb,AJ]⟩
 |t::ts,off,k,ht,hl=>by
  have hloc:=hl (by simp)
  have hrow0:row[off]? =some t:=by simpa using ht 0 t (by simp)
  have hg:CR rows p i off=some t:=by rw[KI hr];exact hrow0
  obtain⟨hm,_⟩:=hI.mem h0
  obtain⟨b',k',cur,e,u,S1,S2,l1,l2,l3,l4,l5,l6,l7,_⟩:=H1.lens p hm hg
  obtain⟨rfl,rfl⟩:=Bb.unique p l1 hloc
  have hcell:w.cell? ⟨b',k',none⟩=some u:=by rw[l2.cell _];exact l3
  obtain⟨us,h1,h2,h3⟩:=k8 hI h0 hr ts (off+1) (k'+1) (fun j t' hj=>by have:=ht (j+1) t' (by simpa using hj);rwa [show off+1+j=off+(j+1) by omega]) (by
   intro hne
   refine Bb.shift p hloc hr ?_
   cases ts with
   |nil=>exact absurd rfl hne
   |cons t1 ts=>
    have:=ht 1 t1 (by simp)
    exact(List.getElem?_eq_some_iff.1 this).1)
  refine⟨u::us,by simp[h1],Gx.cons hcell h2, ?_⟩
  simp only[Pb,AJ]
  refine⟨u,us,rfl, ?_,h3⟩
  have hth:Au r id:=DA (by rw[h0];simp)
  cases t with
  |v x=>
   simp only[Fb]at l5
   simp only[Lq,A6,EV];exact⟨l5.1,l4⟩
  |hole=>simp only[Lq,A6]
  |pp _=>simp only[Fb,EV]at l5;simp only[Lq,A6];exact l5.1
  |fn _ _=>simp only[Fb,EV]at l5;simp only[Lq,A6];exact l5.1.imp fun _ h=>⟨h.1,h.2.reps⟩
  |sl ow rows1=>cases ow with
   |false=>
    simp only[Fb]at l5
    simp only[Lq,A6];exact⟨l5.1,l4⟩
   |true=>
    simp only[Lq,A6]
    obtain⟨q1,cap1,hu,hs⟩:=FM.1 l5
    refine⟨hth,⟨q1,cap1,hu, ?_⟩, ?_⟩
    ·rcases hs with ⟨_,e1,e2,_⟩|⟨_,_,_,_,_,_,_,e3,_⟩
     ·simp[e2]
     ·exact e3.1
    ·intro rows' stt' fx' hg'
     rw[h0]at hg';cases hg'
     exact⟨Nat.le_refl _,fun _=>⟨zd hr,fun rs _ _=>⟨b',k',hloc,hcell⟩⟩⟩
theorem Vm (hI:E5 c w B ρ Sf X r) {id:Id} {rows:Rows} {stt:Nat} {fx:Bool} (h0:Ac r id= .mem rows stt fx) {p:Path} {i off m st n:Nat} {u:Value} (hv:A6 w B ρ r (.ptr id p i off m st) u)
  {row:List T} (hr:Dw rows stt p i m st=some row) (hn:0<n) (hl:off+n≤row.length):
  ∃b k us,u= .pointer (some ⟨b,k,none⟩)∧us.length=n∧Gx w b k us∧AJ w B ρ r (Pb id p i off stt ((row.drop off).take n)) us∧Bb w (ρ id).1 rows p i off b k:=by
 obtain⟨r1,r2,r3⟩:=WW hr
 simp only[A6]at hv
 obtain⟨hth,ad,rfl,hp⟩:=hv
 obtain⟨g1,g2⟩:=(hp rows stt fx h0).2.2 r2 r3
 obtain⟨b,k,l1,rfl⟩:=g2 row r1 (by omega)
 obtain⟨us,h1,h2,h3⟩:=k8 hI h0 r1 ((row.drop off).take n) off k (fun j t hj=>by
  rw[List.getElem?_take]at hj
  split at hj
  ·rwa [List.getElem?_drop]at hj
  ·cases hj) (fun _=>l1)
 refine⟨b,k,us,rfl,by rw[h1];simp;omega,h2,h3,l1⟩
theorem A9E {c:T} {u:Value} (h:A6 w B ρ r (.t c) u):A6 w B ρ r (tV c) u:=by
 cases c with
 |pp cs=>simp only[A6,EV]at h;simp only[tV,A6];exact h.1
 |fn f cs=>simp only[A6,EV]at h;simp only[tV,A6];exact h.1.imp fun _ h=>⟨h.1,h.2.reps⟩
 |_=>exact h
theorem ze : ∀ {ts:List T} {us:List Value},AJ w B ρ r (ts.map V.t) us→AJ w B ρ r (ts.map tV) us
 | [],us,h=>h
 |t::ts,us,h=>by
  simp only[List.map_cons,AJ]at h ⊢
  obtain⟨u,us',e,h1,h2⟩:=h
  exact⟨u,us',e,A9E h1,ze h2⟩
theorem uC : ∀ (ts:List T) {b o:Nat} (n:Nat),Ml w B b o ts→n≤ts.length→∃us,us.length=n∧Gx w b o us∧AJ w B ρ r ((ts.take n).map V.t) us
 |_,b,o,0,h,_=>⟨[],rfl,fun j u h=>by simp at h,by simp[AJ]⟩
 | [],b,o,n+1,h,hn=>by simp at hn
 |t::ts,b,o,n+1,h,hn=>by
  simp only[Ml]at h
  obtain⟨⟨u,h1,h2,h3⟩,h4⟩:=h
  obtain⟨us,g1,g2,g3⟩:=uC ts n h4 (by simpa using hn)
  refine⟨u::us,by simp[g1],Gx.cons h1 g2, ?_⟩
  simp only[List.take_succ_cons,List.map_cons,AJ]
  exact⟨u,us,rfl,by simp only[A6];exact⟨h3,h2⟩,g3⟩
theorem Ml.drop : ∀ (ts:List T) {b o:Nat} (n:Nat),Ml w B b o ts→n≤ts.length→Ml w B b (o+n) (ts.drop n)
 |ts,b,o,0,h,_=>by simpa using h
 | [],b,o,n+1,h,hn=>by simp at hn
 |t::ts,b,o,n+1,h,hn=>by
  simp only[Ml]at h
  have:=Ml.drop ts (o:=o+1) n h.2 (by simpa using hn)
  rw[show o+1+n=o+(n+1) by omega]at this
  simpa using this
end
end TT
namespace TT
open Go
theorem ph : ∀ (p:Path) {rows:Rows} {j k:Nat} {rs:Rows},CR rows p j k=some (.sl true rs)→D5 rows (p++[(j,k)])=some rs
 | [],rows,j,k,rs,h=>by
  simp only[CR,D5,Option.bind_some]at h
  simp only[List.nil_append,D5,h]
 |(i0,c0)::p,rows,j,k,rs,h=>by
  simp only[CR,D5]at h
  simp only[List.cons_append,D5]
  cases hrc:rows[i0]?.bind (·[c0]?)with
  |none=>simp[hrc]at h
  |some t0=>
   cases t0 with
   |v x=>simp[hrc]at h
   |hole=>simp[hrc]at h
   |pp _=>simp[hrc]at h
   |fn _ _=>simp[hrc]at h
   |sl own rows1=>cases own with
    |false=>simp[hrc]at h
    |true=>
     simp only[hrc]at h
     exact ph p h
theorem Bb.snoc {w:World}:∀(p:Path) {q:Option Addr} {rows:Rows} {j k b o:Nat} {rs:Rows} {q1:Option Addr} {n1 cap1 i c b1 k1:Nat},Bb w q rows p j k b o→CR rows p j k=some (.sl true rs)→
  w.cell? ⟨b,o,none⟩=some (.slice q1 n1 cap1)→Bb w q1 rs [] i c b1 k1→Bb w q rows (p++[(j,k)]) i c b1 k1
 | [],q,rows,j,k,b,o,rs,q1,n1,cap1,i,c,b1,k1,⟨h1,row,h2,h3,h4⟩,hg,hc,hl=>by
  simp only[CR,D5,Option.bind_some,h2]at hg
  subst h4
  exact⟨b,row,rs,q1,n1,cap1,h1,h2,hg,hc,hl⟩
 |(i0,c0)::p,q,rows,j,k,b,o,rs,q1,n1,cap1,i,c,b1,k1,⟨b0,row,rows1,q2,n2,cap2,h1,h2,h3,h4,h5⟩,hg,hc,hl=>by
  simp only[CR,D5,h2,Option.bind_some,h3]at hg
  exact⟨b0,row,rows1,q2,n2,cap2,h1,h2,h3,h4,Bb.snoc p h5 hg hc hl⟩
theorem A0K (p:Path) (j k i:Nat):ju (p++[(j,k)]) i=ju p j:=by
 cases p with
 |nil=>rfl
 |cons x p=>rfl
theorem uD {rows:Rows} {p:Path} {i k:Nat} {t:T} (h:CR rows p i k=some t):ju p i<rows.length:=by
 simp only[CR]at h
 obtain⟨rs,h1,h2⟩:=Option.bind_eq_some_iff.1 h
 obtain⟨row,h3,h4⟩:=Option.bind_eq_some_iff.1 h2
 exact zd (p:=p) (i:=i) (row:=row) (by rw[h1];exact h3)
section
variable {P:Program} {c:Ctx} {w:World} {B:Nat→Prop} {ρ:Id→HG} {Sf:Id→Nat→Prop} {X:Nat→Prop} {r:R} {a:Act} {o:Oper}
theorem CK.get : ∀ {rs:Rows} {b o sz i:Nat} {row:List T},CK w B b o sz rs→rs[i]? =some row→row.length=sz∧Ml w B b (o+i*sz) row
 | [],b,o,sz,i,row,_,h=>by simp at h
 |r0::rs,b,o,sz,0,row,hh,h=>by
  simp only[CK]at hh
  simp at h;subst h
  exact⟨hh.1,by simpa using hh.2.1⟩
 |r0::rs,b,o,sz,i+1,row,hh,h=>by
  simp only[CK]at hh
  have:=CK.get hh.2.2 (i:=i) (by simpa using h)
  rw[show o+sz+i*sz=o+(i+1)*sz by rw[Nat.add_mul];omega]at this
  exact this
def faB (P:Program) (t:TypeId) (f off:Nat):Bool:=match P.underlying t with
 |some (.struct fs)=>(match fs[f]? with
  |some fd=>fd.offset==off&&(match P.info? fd.type with|some i=>i.size != 0|none=>false)
  |none=>false)
 |_=>false
theorem qx {t:TypeId} {f off:Nat} {y:Operand} (h:o.op= .fieldAddr t y f) (hb:faB P t f off=true) {ad:Addr} (hy:a.eval y= .pointer (some ad)):PY P o a w (.pointer (some (ad.add off))) w:=by
 refine Dx (s:=Instr.fieldAt t (.pointer (some ad)) f) (by unfold execOp;rw[h];simp only[hy]) ?_
 unfold faB at hb
 cases hd:P.underlying t with
 |none=>rw[hd]at hb;cases hb
 |some d=>
  rw[hd]at hb
  cases d<;>simp only[]at hb<;>try (cases hb;done)
  rename_i fs
  cases hf:fs[f]? with
  |none=>rw[hf]at hb;cases hb
  |some fd=>
   rw[hf]at hb
   simp only[bz,beq_iff_eq]at hb
   cases hi:P.info? fd.type with
   |none=>rw[hi]at hb;exact absurd hb.2 (by simp)
   |some i=>
    rw[hi]at hb
    have hne:i.size≠0:=by simpa using hb.2
    simp[Instr.fieldAt,run_underlying hd,hf,Instr.sureAddr,fieldPlace,Jb hi,hne,hb.1]
def aaB (P:Program) (t:TypeId) (n:Int) (off:Nat):Bool:=match P.underlying t with
 |some (.array len e)=>decide (0≤n∧n<(len:Int))&&(match P.info? e with|some i=>n.toNat*i.size==off|none=>false)
 |_=>false
theorem qy {t:TypeId} {kd:IntKind} {n:Int} {off:Nat} {y:Operand} (h:o.op= .indexAddr t y (.const (.int kd n))) (hb:aaB P t n off=true) {ad:Addr} (hy:a.eval y= .pointer (some ad)):PY P o a w (.pointer (some (ad.add off))) w:=by
 refine Dx (s:=Instr.indexAt t (.pointer (some ad)) (.int kd n)) (by unfold execOp;rw[h];simp only[hy];rfl) ?_
 unfold aaB at hb
 cases hd:P.underlying t with
 |none=>rw[hd]at hb;cases hb
 |some d=>
  rw[hd]at hb
  cases d<;>simp only[]at hb<;>try (cases hb;done)
  rename_i len e
  simp only[bz,decide_eq_true_eq]at hb
  obtain⟨hn,hb⟩:=hb
  cases hi:P.info? e with
  |none=>rw[hi]at hb;cases hb
  |some i=>
   rw[hi]at hb
   have hoff:n.toNat*i.size=off:=by simpa using hb
   simp[Instr.indexAt,asIntOf,run_underlying hd,hn,Jb hi,Instr.sureAddr,hoff]
def iaB (P:Program) (t:TypeId) (sz:Nat):Bool:=match P.underlying t with
 |some (.slice e)=>(match P.info? e with|some i=>i.size==sz|none=>false)
 |_=>false
theorem A2L {t:TypeId} {sz:Nat} (h:iaB P t sz=true):∃e i,P.underlying t=some (.slice e)∧P.info? e=some i∧i.size=sz:=by
 unfold iaB at h
 cases hd:P.underlying t with
 |none=>rw[hd]at h;cases h
 |some d=>
  rw[hd]at h
  cases d<;>simp only[]at h<;>try (cases h;done)
  rename_i e
  cases hi:P.info? e with
  |none=>rw[hi]at h;cases h
  |some i=>rw[hi]at h;exact⟨e,i,rfl,hi,by simpa using h⟩
theorem qz {t:TypeId} {sz:Nat} {x y:Operand} (h:o.op= .indexAddr t x y) (hb:iaB P t sz=true) {b k len cap:Nat} (hx:a.eval x= .slice (some ⟨b,k,none⟩) len cap) {kd:IntKind} {n:Int} (hy:a.eval y= .int kd n) (h0:0≤n) (h1:n.toNat<len):
  PY P o a w (.pointer (some ⟨b,k+n.toNat*sz,none⟩)) w:=by
 refine Dx (s:=Instr.indexAt t (.slice (some ⟨b,k,none⟩) len cap) (.int kd n)) (by unfold execOp;rw[h];simp only[hx,hy]) ?_
 obtain⟨e,i,hd,hi,hs⟩:=A2L hb
 have hn:0≤n∧n<(len:Int):=⟨h0,by omega⟩
 simp[Instr.indexAt,asIntOf,run_underlying hd,hn,Jb hi,hs,DB]
theorem A0L {rows:Rows} {ow:Bool} {u:Value} (hv:A6 w B ρ r (.t (.sl ow rows)) u) {n sz:Nat} {row:List T} (hr:rows[n]? =some row) (hs:row.length=sz):
  ∃b k cap,u= .slice (some ⟨b,k,none⟩) rows.length cap∧n<rows.length∧A6 w B ρ r (.pp row) (.pointer (some ⟨b,k+n*sz,none⟩)):=by
 simp only[A6]at hv
 cases ow with
 |true=>have:=hv.1;simp only[EV]at this
 |false=>
  have h1:=hv.1
  simp only[EV]at h1
  obtain⟨q,cap,rfl,h2,h3,h4⟩:=h1
  have hlt:n<rows.length:=(List.getElem?_eq_some_iff.1 hr).1
  rcases h4 with h4|⟨b,k,sz',rfl,h5,h6,h7⟩
  ·subst h4;simp at hr
  ·obtain⟨g1,g2⟩:=CK.get h7 hr
   refine⟨b,k,cap,rfl,hlt, ?_⟩
   simp only[A6]
   exact⟨b,_,rfl,h5,by rw[←hs,g1];exact g2⟩
theorem A9F (hI:E5 c w B ρ Sf X r) {id:Id} {m:Nat} {u:Value} (hv:A6 w B ρ r (.ref id m) u) {rows:Rows} {stt:Nat} {fx:Bool} (h0:Ac r id= .mem rows stt fx) (hm:rows.length=m) {n sz:Nat} {row:List T} (hr:rows[n]? =some row) (hs:row.length=sz):
  ∃b k cap,u= .slice (some ⟨b,k,none⟩) m cap∧n<m∧A6 w B ρ r (.ptr id [] n 0 m 0) (.pointer (some ⟨b,k+n*sz,none⟩)):=by
 simp only[A6]at hv
 obtain⟨hth,_,hv⟩:=hv
 obtain⟨_,hu⟩:=hv rows stt fx h0
 have hu:=hu hm
 have hlt:n<rows.length:=(List.getElem?_eq_some_iff.1 hr).1
 obtain⟨ho,_⟩:=hI.mem h0
 rcases ho with ⟨_,_,h,_⟩|⟨b,sz',e,cur,S',h3,h4,h5,h6,h7,h8,h9,h10⟩
 ·subst h;simp at hr
 ·refine⟨b,0,_,by rw[hu,h3],by omega, ?_⟩
  simp only[A6]
  refine⟨hth,_,rfl, ?_⟩
  intro rows' stt' fx' hg
  rw[h0]at hg;cases hg
  refine⟨fun _=>by omega,fun h=>absurd rfl h,fun _ _=>⟨fun h=>absurd rfl h, ?_⟩⟩
  intro row' hrow' hl
  simp only[D5,Option.bind_some]at hrow'
  rw[hr]at hrow';cases hrow'
  exact⟨b,n*row.length,⟨h3,row,hr,hl,by omega⟩,by rw[hs];simp⟩
theorem A9G (hI:E5 c w B ρ Sf X r) {id:Id} {p:Path} {j k m st:Nat} {u:Value} (hv:A6 w B ρ r (.sub id p j k m st) u) {rows:Rows} {fx:Bool} (h0:Ac r id= .mem rows st fx) {rs:Rows} (hg:CR rows p j k=some (.sl true rs))
  (hm:rs.length=m) {n sz:Nat} {row:List T} (hr:rs[n]? =some row) (hs:row.length=sz):
  ∃b k' cap,u= .slice (some ⟨b,k',none⟩) m cap∧n<m∧A6 w B ρ r (.ptr id (p++[(j,k)]) n 0 m st) (.pointer (some ⟨b,k'+n*sz,none⟩)):=by
 simp only[A6]at hv
 obtain⟨hth,_,hv⟩:=hv
 obtain⟨b,o,l1,l2⟩:=((hv rows st fx h0).2 rfl).2 rs hg hm
 have hlt:n<rs.length:=(List.getElem?_eq_some_iff.1 hr).1
 obtain⟨ho,_⟩:=hI.mem h0
 obtain⟨b',o',cur,e,u',S1,S2,m1,m2,m3,m4,m5,m6,m7,_⟩:=H1.lens p ho hg
 obtain⟨rfl,rfl⟩:=Bb.unique p m1 l1
 rw[m2.cell _,m3]at l2
 simp only[oi]at l2
 subst l2
 obtain⟨q1,cap1,hu,hs1⟩:=FM.1 m5
 have hcell:w.cell? ⟨b',o',none⟩=some (.slice q1 rs.length cap1):=by rw[m2.cell _,m3,hu]
 rcases hs1 with ⟨_,_,h,_⟩|⟨b1,sz',e1,cur1,S',h3,h4,h5,h6,h7,h8,h9,h10⟩
 ·subst h;simp at hr
 ·refine⟨b1,0,cap1,by rw[hu,h3,hm],by omega, ?_⟩
  simp only[A6]
  refine⟨hth,_,rfl, ?_⟩
  intro rows' stt' fx' hg'
  rw[h0]at hg';cases hg'
  refine⟨fun h=>by simp at h,fun _=>Nat.le_refl _,fun _ _=>⟨fun _=>by rw[A0K];exact uD hg, ?_⟩⟩
  intro row' hrow' hl
  rw[ph p hg,Option.bind_some]at hrow'
  rw[hr]at hrow';cases hrow'
  refine⟨b1,n*row.length, ?_,by rw[hs];simp⟩
  exact Bb.snoc p m1 hg hcell ⟨h3,row,hr,hl,by omega⟩
theorem rA {id:Id} {p:Path} {i off' off m st:Nat} {u:Value} (hv:A6 w B ρ r (.ptr id p i off' m st) u):∃ad:Addr,u= .pointer (some ad)∧A6 w B ρ r (.ptr id p i (off'+off) m st) (.pointer (some (ad.add off))):=by
 simp only[A6]at hv
 obtain⟨hth,ad,rfl,hp⟩:=hv
 refine⟨ad,rfl, ?_⟩
 simp only[A6]
 refine⟨hth,_,rfl, ?_⟩
 intro rows stt fx hg
 obtain⟨g1,g2,g3⟩:=hp rows stt fx hg
 refine⟨g1,g2,fun e e'=>⟨(g3 e e').1,fun row hr hl=> ?_⟩⟩
 obtain⟨b',k',l1,l2⟩:=(g3 e e').2 row hr (by omega)
 subst l2
 exact⟨b',k'+off,Bb.shift p l1 hr hl,DB _ _ _⟩
end
end TT
namespace TT
open Go
section
variable {P:Program} {c:Ctx} {w w':World} {B:Nat→Prop} {ρ:Id→HG} {Sf:Id→Nat→Prop} {X:Nat→Prop} {r:R} {a:Act} {o:Oper}
theorem Vn {w w':World} {ob:Obj} (hw:w'.heap=w.heap.push ob) {b:Nat} (hb:b<w.heap.size):w'.heap[b]? =w.heap[b]? :=by
 rw[hw,Array.getElem?_push,if_neg (by omega)]
theorem k9 {w w':World} {ob:Obj} (hw:w'.heap=w.heap.push ob):w'.heap[w.heap.size]? =some ob:=by
 rw[hw,Array.getElem?_push,if_pos rfl]
theorem H1.capLe {q:Option Addr} {cap:Nat} {rows:Rows} {S:Nat→Prop} (h:H1 w B q cap rows S):cap≤maxLen:=by
 rcases h with ⟨_,h,_⟩|⟨_,_,_,_,_,_,_,_,h,_⟩
 ·omega
 ·exact h
theorem H1.inHeap {q:Option Addr} {cap:Nat} {rows:Rows} {S:Nat→Prop} (h:H1 w B q cap rows S):WT w S:=
 Fb.inHeap (FM.2 ⟨q,cap,rfl,h⟩)
theorem Rl.inHeap {id:Id} {S:Nat→Prop} {e:FA} (h:Rl c w B ρ r id S e):WT w S:=by
 cases e with
 |dead=>exact fun b hb=>absurd hb (h b)
 |mem rows stt fx=>exact H1.inHeap h.1
theorem E5.kept_push (hI:E5 c w B ρ Sf X r) {ob:Obj} (hw:w'.heap=w.heap.push ob) (id:Id):jx w w' B ρ r id:=by
 intro rows stt fx hg
 obtain⟨h1,_⟩:=hI.mem hg
 exact⟨Sf id,h1,fun b hb=>Vn hw (H1.inHeap h1 b hb)⟩
theorem E5.alloc (hI:E5 c w B ρ Sf X r) {cur:Array Value} {e:TypeId} (hw:w'.heap=w.heap.push (.cells cur e (0,0))) (hos:w'.os=w.os) (htp:w'.tape=w.tape) (hout:w'.output=w.output)
  {rows:Rows} {cap sz d:Nat} {S:Nat→Prop} (hd:d<r.length) (hr:r.getD d []=[]) (ho:Cf w' B w.heap.size 0 sz rows S) (hlen:rows.length≤cap) (hnil:rows=[]→cap=0) (hcap:cap≤maxLen) (hsz:cur.size=cap*sz) (h0:0<sz) (hS:∀b,S b→X b):
  ∃ρ' Sf',E5 c w' B ρ' Sf' (fun _=>False) (r.set d [.mem rows 0 false])∧(∀v u,A6 w B ρ r v u→A6 w' B ρ' (r.set d [.mem rows 0 false]) v u)∧ρ' (d,0)=(some ⟨w.heap.size,0,none⟩,cap):=by
 have hsame:∀D:Nat→Prop,(∀b,D b→b<w.heap.size)→Fx D w w':=fun D h b hb=>Vn hw (h b hb)
 let ρ':Id→HG:=fun id=>if id.1=d then(some ⟨w.heap.size,0,none⟩,cap)else ρ id
 let Sf':Id→Nat→Prop:=fun id b=>if id.1=d then id.2=0∧(b=w.heap.size∨S b)else Sf id b
 have hρ:∀id:Id,id.1≠d→ρ' id=ρ id:=fun id h=>if_neg h
 have hclaims:∀v u,A6 w B ρ r v u→A6 w' B ρ' (r.set d [.mem rows 0 false]) v u:=fun v u h=>
  bM hd hr hρ (EI (fun _ h=>h) (hsame B hI.inB) (hI.kept_push hw) h)
 have hsub:∀id b,Sf' id b→(id.1=d∧id.2=0∧(b=w.heap.size∨X b))∨(id.1≠d∧Sf id b):=by
  intro id b h
  by_cases e1:id.1=d
  ·have h':id.2=0∧(b=w.heap.size∨S b):=by simpa only[Sf',if_pos e1] using h
   exact .inl ⟨e1,h'.1,h'.2.imp (fun h=>h) (hS b)⟩
  ·exact .inr ⟨e1,by simpa only[Sf',if_neg e1] using h⟩
 have hlt:∀id b,Sf id b→b<w.heap.size:=fun id b h=>(hI.ents id).inHeap b h
 refine⟨ρ',Sf', ?_,hclaims,if_pos rfl⟩
 constructor
 ·intro id
  rw[RH hd hr]
  by_cases e1:id.1=d
  ·rw[if_pos e1]
   have hS':Sf' id=fun b=>id.2=0∧(b=w.heap.size∨S b):=funext fun b=>by simp only[Sf',if_pos e1]
   rw[hS']
   obtain⟨i1,i2⟩:=id
   cases i2 with
   |zero=>
    simp only[List.getD_cons_zero]
    have hq:ρ' (i1,0)=(some ⟨w.heap.size,0,none⟩,cap):=if_pos e1
    unfold Rl
    rw[hq]
    refine⟨.inr ⟨w.heap.size,sz,e,cur,S,rfl,SW.of (k9 hw),⟨hlen,hnil⟩,hcap,hsz,h0,⟨fun b=> ?_, ?_⟩,ho⟩,fun h=>by cases h⟩
    ·simp
    ·rintro b rfl hb
     exact absurd (hI.inX _ (hS _ hb)) (by omega)
   |succ n=>exact fun b hb=>by simp at hb
  ·rw[if_neg e1]
   have hS':Sf' id=Sf id:=funext fun b=>by simp only[Sf',if_neg e1]
   rw[hS']
   have h1:=hI.ents id
   cases he:Ac r id with
   |dead=>rw[he]at h1;exact h1
   |mem rows1 stt fx=>
    rw[he]at h1
    exact⟨by rw[hρ id e1];exact H1.same (fun _ h=>h) (hsame B hI.inB) (hsame _ (hlt id)) h1.1,fun h=>by rw[hρ id e1];exact h1.2 h⟩
 ·intro id id' b h h'
  rcases hsub id b h with ⟨a1,a2,a3⟩|⟨a1,a2⟩<;>rcases hsub id' b h' with ⟨b1,b2,b3⟩|⟨b1,b2⟩
  ·exact Prod.ext (a1.trans b1.symm) (a2.trans b2.symm)
  ·rcases a3 with rfl|a3
   ·exact absurd (hlt id' _ b2) (by omega)
   ·exact absurd b2 (hI.xd id' b a3)
  ·rcases b3 with rfl|b3
   ·exact absurd (hlt id _ a2) (by omega)
   ·exact absurd a2 (hI.xd id b b3)
  ·exact hI.disj id id' b a2 b2
 ·intro id b h
  rcases hsub id b h with ⟨a1,a2,a3⟩|⟨a1,a2⟩
  ·rcases a3 with rfl|a3
   ·exact fun hb=>absurd (hI.inB _ hb) (by omega)
   ·exact hI.xb b a3
  ·exact hI.nb id b a2
 ·exact fun b h=>h.elim
 ·exact fun id b h=>h.elim
 ·exact fun b hb=>by rw[hw,Array.size_push];exact Nat.lt_succ_of_lt (hI.inB b hb)
 ·exact fun b h=>h.elim
 ·intro id b h
  rcases hsub id b h with ⟨a1,a2,a3⟩|⟨a1,a2⟩
  ·rcases a3 with rfl|a3
   ·exact .inr hI.size
   ·exact hI.ownX b a3
  ·exact hI.own id b a2
 ·exact fun b h=>h.elim
 ·exact hI.old
 ·exact hI.sh
 ·rw[hw,Array.size_push];exact Nat.le_succ_of_le hI.size
 ·intro b hb hn
  rw[Vn hw (Nat.lt_of_lt_of_le hb hI.size)]
  exact hI.frame b hb hn
 ·rw[hos];exact hI.os
 ·rw[htp];exact hI.tape
 ·rw[hout];exact hI.output
theorem ef {d:Nat} {es:List FA} (hd:d<r.length) {k:Nat} (hk:k<es.length):Au (r.set d es) (d,k):=by
 simp[Au,List.getD,hd,hk]
theorem ZN {d cap:Nat} {rows:Rows} {q:Option Addr} {B':Nat→Prop} {ρ':Id→HG} (hd:d<r.length) (hr:r.getD d []=[]) (hρ:ρ' (d,0)=(q,cap)) (hc:rows.length≤cap) (hM:cap≤maxLen):
  A6 w' B' ρ' (r.set d [.mem rows 0 false]) (.ref (d,0) rows.length) (.slice q rows.length cap):=by
 simp only[A6]
 refine⟨ef hd (by simp),⟨q,cap,rfl,hc,hM⟩, ?_⟩
 intro rows' stt fx hg
 rw[RH hd hr,if_pos rfl]at hg
 simp only[List.getD_cons_zero,FA.mem.injEq]at hg
 obtain⟨rfl,rfl,rfl⟩:=hg
 exact⟨Nat.le_refl _,fun _=>by rw[hρ]⟩
theorem rC {d cap b:Nat} {row:List T} {B':Nat→Prop} {ρ':Id→HG} (hd:d<r.length) (hr:r.getD d []=[]) (hρ:ρ' (d,0)=(some ⟨b,0,none⟩,cap)):
  A6 w' B' ρ' (r.set d [.mem [row] 0 false]) (.ptr (d,0) [] 0 0 1 0) (.pointer (some ⟨b,0,none⟩)):=by
 simp only[A6]
 refine⟨ef hd (by simp),_,rfl, ?_⟩
 intro rows' stt fx hg
 rw[RH hd hr,if_pos rfl]at hg
 simp only[List.getD_cons_zero,FA.mem.injEq]at hg
 obtain⟨rfl,rfl,rfl⟩:=hg
 refine⟨fun _=>by simp,fun h=>absurd rfl h,fun _ _=>⟨fun h=>absurd rfl h,fun row' hr' hl=>⟨b,0,⟨by rw[hρ],row',by simpa [D5] using hr',hl,by omega⟩,rfl⟩⟩⟩
def Al (w:World) (B:Nat→Prop) (sz:Nat):Rows→List (List Value)→(Nat→Prop)→Prop
 | [],uss,S=>uss=[]∧Emp S
 |t::ts,uss,S=>∃us uss' S1 S2,uss=us::uss'∧t.length=sz∧CS w B t us S1∧Al w B sz ts uss' S2∧BK S S1 S2
theorem Al.same {B':Nat→Prop} (hB:∀b,B b→B' b) (h:Fx B w w') {sz:Nat}:∀{ts:Rows} {us:List (List Value)} {S:Nat→Prop},Fx S w w'→Al w B sz ts us S→Al w' B' sz ts us S
 | [],us,S,_,hh=>by simpa only[Al] using hh
 |t::ts,us,S,hS,hh=>by
  simp only[Al]at hh ⊢
  obtain⟨u,us',S1,S2,rfl,h0,h1,h2,h3⟩:=hh
  exact⟨u,us',S1,S2,rfl,h0,CS.same hB h (fun x hx=>hS x (h3.left hx)) h1,Al.same hB h (fun x hx=>hS x (h3.right hx)) h2,h3⟩
theorem Cf.of_values {b sz:Nat}:∀{ts:Rows} {uss:List (List Value)} {S:Nat→Prop} {o:Nat},Al w B sz ts uss S→(∀(j:Nat) u,uss.flatten[j]? =some u→w.cell? ⟨b,o+j,none⟩=some u)→Cf w B b o sz ts S
 | [],us,S,o,h,hc=>by simp only[Al]at h;simp only[Cf];exact h.2
 |t::ts,us,S,o,h,hc=>by
  simp only[Al]at h
  obtain⟨u,us',S1,S2,rfl,h0,h1,h2,h3⟩:=h
  have hl:u.length=sz:=by rw[CS.length h1,h0]
  simp only[Cf]
  refine⟨S1,S2,h0,Ng.of_values h1 (fun j v hj=> ?_),Cf.of_values h2 (fun j v hj=> ?_),h3⟩
  ·refine hc j v ?_
   have hlt:=(List.getElem?_eq_some_iff.1 hj).1
   rw[List.flatten_cons,List.getElem?_append_left hlt];exact hj
  ·have:=hc (sz+j) v (by rw[List.flatten_cons,List.getElem?_append_right (by omega),hl,Nat.add_sub_cancel_left];exact hj)
   rwa [show o+sz+j=o+(sz+j) by omega]
theorem Vo {ob:Array Value} {e:TypeId} (hw:w'.heap=w.heap.push (.cells ob e (0,0))) {o j:Nat}:w'.cell? ⟨w.heap.size,o+j,none⟩=ob[o+j]? :=jm (k9 hw)
def kA (P:Program) (t:TypeId) (z:List T):Bool:=match P.info? t with
 |some i=>(match i.zero with|some v=>eqZ z v.cells.toList&& !z.isEmpty&&i.size==z.length|none=>false)
 |none=>false
theorem bN {t:TypeId} {z:List T} (h:kA P t z=true):∃i v,P.info? t=some i∧i.zero=some v∧eqZ z v.cells.toList=true∧z≠[]∧i.size=z.length:=by
 unfold kA at h
 cases hi:P.info? t with
 |none=>rw[hi]at h;cases h
 |some i=>
  rw[hi]at h
  cases hz:i.zero with
  |none=>simp only[hz]at h;cases h
  |some v=>
   simp only[hz,bz,Bool.not_eq_true',beq_iff_eq]at h
   exact⟨i,v,rfl,hz,h.1.1,fun e=>by rw[e]at h;simp at h,h.2⟩
theorem A2M (hI:E5 c w B ρ Sf (fun _=>False) r) {t:TypeId} {z:List T} (h:o.op= .alloc t) (hz:kA P t z=true) {d:Nat} (hd:d<r.length) (hr:r.getD d []=[]):
  ∃w' u ρ' Sf',PY P o a w u w'∧E5 c w' B ρ' Sf' (fun _=>False) (r.set d [.mem [z] 0 false])∧(∀v u,A6 w B ρ r v u→A6 w' B ρ' (r.set d [.mem [z] 0 false]) v u)∧A6 w' B ρ' (r.set d [.mem [z] 0 false]) (.ptr (d,0) [] 0 0 1 0) u:=by
 obtain⟨i,v,hi,hv,he,hne,hsz⟩:=bN hz
 obtain⟨_,g2,g3⟩:=Vl (w:=w.alloc (.cells v.cells t)) (B:=B) (ρ:=ρ) (r:=r) he
 have hw:(w.alloc (.cells v.cells t)).heap=w.heap.push (.cells v.cells t (0,0)):=rfl
 obtain⟨ρ',Sf',k1,k2,k3⟩:=hI.alloc (w':=w.alloc (.cells v.cells t)) (rows:=[z]) (cap:=1) (sz:=z.length) (S:=fun _=>False) hw rfl rfl rfl hd hr
  (Cf.of_values (uss:=[v.cells.toList]) (by
    simp only[Al]
    exact⟨_,_,_,_,rfl,trivial,g2,⟨rfl,fun _ h=>h⟩,⟨fun b=>by simp,fun b (h:False)=>h.elim⟩⟩) (fun j u hj=>by
     rw[Vo hw]
     simpa using hj)) (by simp) (by simp) (by decide) (by rw[Nat.one_mul,g3];simp) (by cases z with|nil=>exact absurd rfl hne|cons x xs=>simp) (fun _ h=>h)
 refine⟨_, .pointer (some ⟨w.heap.size,0,none⟩),ρ',Sf', ?_,k1,k2,rC hd hr k3⟩
 refine Dx (s:=Instr.alloc t true (.tuple #[])) (by unfold execOp;rw[h]) ?_
 simp only[Instr.alloc]
 rw[Sem.run_bind,cV hi hv]
 simp[newVar,newRow]
theorem A0M {u:Value} (h:u.oneCell'=true):u.cells= #[u]:=by
 cases u<;>first|rfl|(simp[Value.oneCell']at h)
theorem NL {v:V} {u:Value} (hv:A6 w B ρ r v u) (hd:v≠ .dead):AJ w B ρ r (cellsOf v) u.cells.toList:=by
 have one:∀{v:V},A6 w B ρ r v u→u.cells= #[u]→AJ w B ρ r [v] u.cells.toList:=by
  intro v h1 h2
  rw[h2]
  simp only[AJ]
  exact⟨u,[],rfl,h1,rfl⟩
 cases v with
 |agg cs=>
  simp only[A6]at hv
  obtain⟨us,rfl,h⟩:=hv
  exact h
 |dead=>exact absurd rfl hd
 |t c=>refine one hv ?_;simp only[A6]at hv;exact A0M hv.2
 |nil=>refine one hv ?_;simp only[A6]at hv;rw[hv];rfl
 |ref id n=>refine one hv ?_;simp only[A6]at hv;obtain⟨_,⟨q,cap,rfl,_⟩,_⟩:=hv;rfl
 |sub id p i c n st=>refine one hv ?_;simp only[A6]at hv;obtain⟨_,⟨q,cap,rfl,_⟩,_⟩:=hv;rfl
 |ptr id p i off n st=>refine one hv ?_;simp only[A6]at hv;obtain⟨_,ad,rfl,_⟩:=hv;rfl
 |pp cs=>refine one hv ?_;simp only[A6]at hv;obtain⟨b,k,rfl,_⟩:=hv;rfl
 |fn f cs=>refine one hv ?_;simp only[A6]at hv;obtain⟨us,rfl,_⟩:=hv;rfl
 |tup cs=>refine one hv ?_;simp only[A6]at hv;obtain⟨us,rfl,_⟩:=hv;rfl
 |vb id off st cs=>refine one hv ?_;simp only[A6]at hv;obtain⟨_,⟨ad,rfl,_⟩,_⟩:=hv;rfl
 |vw id lo hi n=>refine one hv ?_;simp only[A6]at hv;obtain⟨_,_,_,rfl,_⟩:=hv;rfl
theorem bO {α:Type} {call:Ai} {d:Nat} {k:List T→M α} {x:α×R}:(FN (cellsOf .dead) k).run call d r≠some x:=by
 simp[cellsOf,FN,take,M.run]
theorem jb (hI:E5 c w B ρ Sf X r) {cur:Array Value} {e:TypeId} (hw:w'.heap=w.heap.push (.cells cur e (0,0))) (hos:w'.os=w.os) (htp:w'.tape=w.tape) (hout:w'.output=w.output)
  {rows:Rows} {uss:List (List Value)} {cap sz d:Nat} {S:Nat→Prop} (hd:d<r.length) (hr:r.getD d []=[]) (ho:Al w B sz rows uss S) (hcur:∀(j:Nat) u,uss.flatten[j]? =some u→cur[j]? =some u)
  (hlen:rows.length≤cap) (hnil:rows=[]→cap=0) (hcap:cap≤maxLen) (hsz:cur.size=cap*sz) (h0:0<sz) (hS:∀b,S b→X b):
  ∃ρ' Sf',E5 c w' B ρ' Sf' (fun _=>False) (r.set d [.mem rows 0 false])∧(∀v u,A6 w B ρ r v u→A6 w' B ρ' (r.set d [.mem rows 0 false]) v u)∧ρ' (d,0)=(some ⟨w.heap.size,0,none⟩,cap):=by
 have hsame:∀D:Nat→Prop,(∀b,D b→b<w.heap.size)→Fx D w w':=fun D h b hb=>Vn hw (h b hb)
 refine hI.alloc hw hos htp hout hd hr (Cf.of_values (Al.same (fun _ h=>h) (hsame B hI.inB) (hsame S fun b hb=>hI.inX b (hS b hb)) ho) fun j u hj=> ?_) hlen hnil hcap hsz h0 hS
 rw[Vo hw,Nat.zero_add]
 exact hcur j u hj
theorem Al.single {ts:List T} {us:List Value} {S:Nat→Prop} (h:CS w B ts us S):Al w B ts.length [ts] [us] S:=by
 simp only[Al]
 exact⟨us,[],S,fun _=>False,rfl,trivial,h,⟨rfl,fun _ h=>h⟩,⟨fun b=>by simp,fun b _ h=>h.elim⟩⟩
theorem QJ {α:Type} {call:Ai} {d:Nat} {es:List FA} {m:M α} {x:α×R} (h:(M.new es m).run call d r=some x):d<r.length∧r.getD d []=[]∧m.run call d (r.set d es)=some x:=by
 simp only[M.run]at h
 split at h
 ·rename_i hh
  simp only[bz,decide_eq_true_eq,List.isEmpty_iff]at hh
  exact⟨hh.1,hh.2,h⟩
 ·cases h
theorem A9H (hI:E5 c w B ρ Sf (fun _=>False) r) {t:TypeId} {y:Operand} {v:V} (h:o.op= .box t y) (hv:A6 w B ρ r v (a.eval y)) {call:Ai} {d:Nat} {x:V×R}
  (hrun:(FN (cellsOf v) fun ts=>if ts.isEmpty then M.fail else M.new [.mem [ts] 0 false] (M.ret (.ptr (d,0) [] 0 0 1 0))).run call d r=some x):
  ∃w' u ρ' Sf',PY P o a w u w'∧E5 c w' B ρ' Sf' (fun _=>False) x.2∧x.2.length=r.length∧(∀v u,A6 w B ρ r v u→A6 w' B ρ' x.2 v u)∧A6 w' B ρ' x.2 x.1 u:=by
 have hnd:v≠ .dead:=fun e=>by subst e;exact bO hrun
 obtain⟨ts,S,Sf1,r1,g1,g2,g3,g4,g5,g6,g7⟩:=Pf hrun hI (NL hv hnd)
 split at g1
 ·simp[M.run]at g1
 ·rename_i hne
  obtain⟨hd,hr,g1⟩:=QJ g1
  simp only[M.run,oi]at g1
  subst g1
  have hw:(w.alloc (.cells (a.eval y).cells t)).heap=w.heap.push (.cells (a.eval y).cells t (0,0)):=rfl
  have hl:=CS.length g2
  obtain⟨ρ',Sf',k1,k2,k3⟩:=jb g3 (w':=w.alloc (.cells (a.eval y).cells t)) hw rfl rfl rfl hd hr (cap:=1) (Al.single g2) (fun j u hj=>by simpa using hj) (by simp) (by simp) (by decide)
   (by rw[Nat.one_mul,←hl];simp) (by cases ts with|nil=>simp at hne|cons x xs=>simp) (fun b hb=> .inr hb)
  refine⟨_, .pointer (some ⟨w.heap.size,0,none⟩),ρ',Sf', ?_,k1,by rw[List.length_set,g5.size],fun v u hh=>k2 v u (g5.claims v u hh),rC hd hr k3⟩
  refine Dx (s:=Instr.box t (a.eval y)) (by unfold execOp;rw[h]) ?_
  simp[Instr.box,newVar,newRow]
theorem A6.one {v:V} {u:Value} (h:A6 w B ρ r v u) (h1:v.one=true):u.oneCell'=true:=by
 cases v with
 |t c=>simp only[A6]at h;exact h.2
 |nil=>simp only[A6]at h;rw[h];rfl
 |ref id n=>simp only[A6]at h;obtain⟨_,⟨q,cap,rfl,_⟩,_⟩:=h;rfl
 |sub id p i c n st=>simp only[A6]at h;obtain⟨_,⟨q,cap,rfl,_⟩,_⟩:=h;rfl
 |ptr id p i off n st=>simp only[A6]at h;obtain⟨_,ad,rfl,_⟩:=h;rfl
 |_=>simp[V.one]at h1
theorem CS.holes {w':World} {B':Nat→Prop}:∀{cs:List V} {us:List Value},AJ w B ρ r cs us→cs.all V.one=true→CS w' B' (List.replicate cs.length .hole) us (fun _=>False)
 | [],us,h,_=>by simp only[AJ]at h;subst h;exact⟨rfl,fun _ h=>h⟩
 |v::cs,us,h,h1=>by
  simp only[AJ]at h
  obtain⟨u,us',rfl,g1,g2⟩:=h
  simp only[List.all_cons,bz]at h1
  simp only[List.length_cons,List.replicate_succ,CS]
  exact⟨u,us',fun _=>False,fun _=>False,rfl,g1.one h1.1,by simp only[Fb];exact fun _ h=>h,CS.holes g2 h1.2,⟨fun b=>by simp,fun b h _=>h⟩⟩
theorem A62 (hI:E5 c w B ρ Sf (fun _=>False) r) {t:TypeId} {y:Operand} {cs:List V} (h:o.op= .box t y) (hv:A6 w B ρ r (.agg cs) (a.eval y)) {call:Ai} {d:Nat} {x:V×R}
  (hrun:(if cs.isEmpty|| !cs.all V.one then M.fail else M.new [.mem [List.replicate cs.length .hole] 0 false] (M.ret (.vb (d,0) 0 0 cs))).run call d r=some x):
  ∃w' u ρ' Sf',PY P o a w u w'∧E5 c w' B ρ' Sf' (fun _=>False) x.2∧x.2.length=r.length∧(∀v u,A6 w B ρ r v u→A6 w' B ρ' x.2 v u)∧A6 w' B ρ' x.2 x.1 u:=by
 split at hrun
 ·simp[M.run]at hrun
 ·rename_i hne
  obtain⟨hd,hr,g1⟩:=QJ hrun
  simp only[M.run,oi]at g1
  subst g1
  have hv0:=hv
  simp only[A6]at hv
  obtain⟨us,hu,hvs⟩:=hv
  have hl:=AJ.length hvs
  simp only[Bool.or_eq_true,Bool.not_eq_true',not_or,Bool.not_eq_false,Bool.not_eq_true]at hne
  obtain⟨hne,hone⟩:=hne
  have hcells:(a.eval y).cells=us:=by rw[hu];rfl
  have hw:(w.alloc (.cells (a.eval y).cells t)).heap=w.heap.push (.cells (a.eval y).cells t (0,0)):=rfl
  have hO:Al w B cs.length [List.replicate cs.length .hole] [us.toList] (fun _=>False):=by
   have:=Al.single (CS.holes (w':=w) (B':=B) hvs hone)
   rw[List.length_replicate]at this
   exact this
  obtain⟨ρ',Sf',k1,k2,k3⟩:=jb hI (w':=w.alloc (.cells (a.eval y).cells t)) hw rfl rfl rfl hd hr (cap:=1) hO (fun j u hj=>by rw[hcells];simpa using hj) (by simp) (by simp) (by decide)
   (by rw[Nat.one_mul,hcells,←hl];simp) (by cases cs with|nil=>simp at hne|cons x xs=>simp) (fun b hb=>hb.elim)
  refine⟨_, .pointer (some ⟨w.heap.size,0,none⟩),ρ',Sf', ?_,k1,by rw[List.length_set],k2, ?_⟩
  ·refine Dx (s:=Instr.box t (a.eval y)) (by unfold execOp;rw[h]) ?_
   simp[Instr.box,newVar,newRow]
  ·have hp:=rC (w':=w.alloc (.cells (a.eval y).cells t)) (B':=B) (row:=List.replicate cs.length .hole) hd hr k3
   have h2:=k2 _ _ hv0
   simp only[A6]at hp h2 ⊢
   obtain⟨p1,p2⟩:=hp
   obtain⟨us',e1,e2⟩:=h2
   rw[hu]at e1
   cases e1
   refine⟨p1,p2,us.toList,e2,fun rows stt fx hg=> ?_⟩
   rw[RH hd hr,if_pos rfl]at hg
   simp only[List.getD,List.getElem?_cons_zero,Option.getD_some,FA.mem.injEq]at hg
   obtain⟨rfl,rfl,rfl⟩:=hg
   refine⟨by simp,Nat.le_refl _,fun _ _=>⟨_,w.heap.size,rfl,by rw[List.length_replicate,hl],by rw[k3],fun j u hj=> ?_⟩⟩
   have:=Vo (w:=w) hw (o:=0) (j:=j)
   rw[Nat.zero_add]at this
   rw[this,hcells]
   simpa using hj
end
end TT
namespace TT
open Go
section
variable {P:Program} {c:Ctx} {w w':World} {B:Nat→Prop} {ρ:Id→HG} {Sf:Id→Nat→Prop} {X:Nat→Prop} {r:R} {a:Act} {o:Oper}
def Nh (w:World) (B:Nat→Prop) (ρ:Id→HG) (r:R):List (List V)→List (List Value)→Prop
 | [],uss=>uss=[]
 |vs::vss,uss=>∃us uss',uss=us::uss'∧AJ w B ρ r vs us∧Nh w B ρ r vss uss'
theorem Nh.step {r':R} (h:PW w B ρ r r'):∀{vs:List (List V)} {us:List (List Value)},Nh w B ρ r vs us→Nh w B ρ r' vs us
 | [],us,hh=>by simpa only[Nh] using hh
 |v::vs,us,hh=>by
  simp only[Nh]at hh ⊢
  obtain⟨u,us',rfl,h1,h2⟩:=hh
  exact⟨u,us',rfl,AJ.step h h1,Nh.step h h2⟩
theorem cW {α:Type} {call:Ai} {d sz:Nat}:∀{vss:List (List V)} {uss:List (List Value)} {k:Rows→M α} {x:α×R} {Sf:Id→Nat→Prop} {X:Nat→Prop} {r:R},(E2 vss k).run call d r=some x→E5 c w B ρ Sf X r→Nh w B ρ r vss uss→
  ∃tss Sf' r',(k tss).run call d r'=some x∧tss.length=vss.length∧tss.map (·.length)=vss.map (·.length)∧((∀t∈tss,t.length=sz)→∃S,Al w B sz tss uss S∧E5 c w B ρ Sf' (fun b=>X b∨S b) r'∧(∀b,S b→¬X b))∧PW w B ρ r r'
 | [],uss,k,x,Sf,X,r,hrun,hI,hv=>by
  simp only[Nh]at hv
  simp only[E2]at hrun
  refine⟨[],Sf,r,hrun,rfl,rfl,fun _=>⟨fun _=>False,by simp only[Al];exact⟨hv,fun _ h=>h⟩,hI.congrX (fun b=>by simp),fun _ h=>h.elim⟩,PW.refl ..⟩
 |vs::vss,uss0,k,x,Sf,X,r,hrun,hI,hv=>by
  simp only[Nh]at hv
  obtain⟨us,uss,rfl,h1,h2⟩:=hv
  simp only[E2]at hrun
  obtain⟨ts,S1,Sf1,r1,g1,g2,g3,g4,g5,g6,g7⟩:=Pf hrun hI h1
  obtain⟨tss,Sf2,r2,m1,m2,m5,m3,m4⟩:=cW (sz:=sz) g1 g3 (Nh.step g5 h2)
  refine⟨ts::tss,Sf2,r2,m1,by simp[m2],by simp[m5,g6], ?_,g5.trans m4⟩
  intro hall
  obtain⟨S2,n1,n2,n3⟩:=m3 fun t ht=>hall t (List.mem_cons_of_mem _ ht)
  refine⟨fun b=>S1 b∨S2 b, ?_,n2.congrX (fun b=>by simp[or_assoc]), ?_⟩
  ·simp only[Al]
   exact⟨us,uss,S1,S2,rfl,hall ts (List.mem_cons_self ..),g2,n1,BK.mk' fun b h h'=>n3 b h' (.inr h)⟩
  ·intro b h
   rcases h with h|h
   ·exact g4 b h
   ·exact fun hx=>n3 b h (.inl hx)
theorem A2N (us:List Value):∀(cs:Array Value) (off j0:Nat) (k:Nat),(us.zipIdx j0).foldl (fun cs (p:Value×Nat)=>cs.setIfInBounds (off+p.2) p.1) cs |>.toList[k]? =
  if off+j0≤k∧k<off+j0+us.length∧k<cs.size then us[k-(off+j0)]? else cs[k]? :=by
 induction us with
 |nil=>intro cs off j0 k;simp;omega
 |cons u us ih=>
  intro cs off j0 k
  simp only[List.zipIdx_cons,List.foldl_cons]
  rw[ih]
  simp only[Array.size_setIfInBounds,List.length_cons]
  by_cases h1:k=off+j0
  ·subst h1
   rw[if_neg (by omega)]
   by_cases h2:off+j0<cs.size
   ·rw[if_pos (by omega),Array.getElem?_setIfInBounds_self_of_lt h2];simp
   ·rw[if_neg (by omega),Array.getElem?_eq_none (by simp;omega),Array.getElem?_eq_none (by omega)]
  ·rw[Array.getElem?_setIfInBounds_ne (by omega)]
   by_cases h2:off+j0≤k∧k<off+j0+(us.length+1)∧k<cs.size
   ·rw[if_pos h2,if_pos (by omega),show k-(off+j0)=(k-(off+(j0+1)))+1 by omega,List.getElem?_cons_succ]
   ·rw[if_neg h2,if_neg (by omega)]
theorem nl (us:List Value):∀(cs:Array Value) (off j0:Nat),((us.zipIdx j0).foldl (fun cs (p:Value×Nat)=>cs.setIfInBounds (off+p.2) p.1) cs).size=cs.size:=by
 induction us with
 |nil=>intro cs off j0;rfl
 |cons u us ih=>intro cs off j0;simp only[List.zipIdx_cons,List.foldl_cons,ih,Array.size_setIfInBounds]
theorem uE {sz:Nat} (h0:0<sz):∀(ps:List (Nat×Value)) (k:Nat) (cs:Array Value),ps.map (·.1)=(List.range' k ps.length)→(∀p∈ps,p.2.cells.size=sz)→cs.size=(k+ps.length)*sz→
  ∃cs',Instr.fill (fun i=>some (i*sz,sz)) cs ps=some cs'∧cs'.size=cs.size∧(∀j,j<k*sz→cs'[j]? =cs[j]?)∧∀j,cs'[k*sz+j]? =((ps.map fun p=>p.2.cells.toList).flatten)[j]?
 | [],k,cs,_,_,hsz=>⟨cs,rfl,rfl,fun _ _=>rfl,fun j=>by
   rw[Array.getElem?_eq_none (by simp at hsz;omega)];simp⟩
 |p::ps,k,cs,hk,hp,hsz=>by
  simp only[List.map_cons,List.length_cons,List.range'_succ,List.cons.injEq]at hk
  obtain⟨i,v⟩:=p
  obtain⟨hi,hk⟩:=hk
  simp only at hi
  subst hi
  have hv:v.cells.size=sz:=hp (i,v) (List.mem_cons_self ..)
  simp only[List.length_cons]at hsz
  have hbig:i*sz+sz≤cs.size:=by rw[hsz,←Nat.succ_mul];exact Nat.mul_le_mul_right _ (by omega)
  let cs1:=v.cells.zipIdx.foldl (fun cs (p:Value×Nat)=>cs.setIfInBounds (i*sz+p.2) p.1) cs
  have hcs1:cs1=(v.cells.toList.zipIdx 0).foldl (fun cs (p:Value×Nat)=>cs.setIfInBounds (i*sz+p.2) p.1) cs:=by
   simp only[cs1,←Array.foldl_toList,Array.toList_zipIdx]
  have hsize1:cs1.size=cs.size:=by rw[hcs1,nl]
  have hget:∀k,cs1[k]? =if i*sz≤k∧k<i*sz+sz∧k<cs.size then v.cells[k-i*sz]? else cs[k]? :=by
   intro k
   have:=A2N v.cells.toList cs (i*sz) 0 k
   rw[←hcs1]at this
   simpa [hv] using this
  obtain⟨cs',f1,f2,f3,f4⟩:=uE h0 ps (i+1) cs1 hk (fun q hq=>hp q (List.mem_cons_of_mem _ hq)) (by rw[hsize1,hsz];congr 1;omega)
  refine⟨cs', ?_,by rw[f2,hsize1], ?_, ?_⟩
  ·simp only[Instr.fill]
   rw[if_neg (by simp[hv];omega)]
   exact f1
  ·intro j hj
   rw[f3 j (by rw[Nat.succ_mul];omega),hget,if_neg (by omega)]
  ·intro j
   simp only[List.map_cons,List.flatten_cons]
   by_cases hj:j<sz
   ·rw[List.getElem?_append_left (by simpa [hv] using hj),f3 _ (by rw[Nat.succ_mul];omega),hget,if_pos (by omega),Nat.add_sub_cancel_left]
    simp
   ·rw[List.getElem?_append_right (by simp[hv];omega)]
    have:=f4 (j-sz)
    rw[show(i+1)*sz+(j-sz)=i*sz+j by rw[Nat.succ_mul];omega]at this
    rw[this]
    simp[hv]
def xD (P:Program) (t:TypeId) (n sz:Nat):Bool:=match P.underlying t with
 |some (.slice e)=>(match P.info? e with|some i=>i.size==sz&&decide (0<sz)&&decide (n*sz≤16777216)&&i.zero.isSome|none=>false)
 |_=>false
theorem pi {t:TypeId} {n sz:Nat} (h:xD P t n sz=true):∃e i z,P.underlying t=some (.slice e)∧P.info? e=some i∧i.zero=some z∧i.size=sz∧0<sz∧n*sz≤16777216:=by
 unfold xD at h
 cases hd:P.underlying t with
 |none=>rw[hd]at h;cases h
 |some d=>
  rw[hd]at h
  cases d<;>simp only[]at h<;>try (cases h;done)
  rename_i e
  cases hi:P.info? e with
  |none=>rw[hi]at h;cases h
  |some i=>
   rw[hi]at h
   simp only[bz,beq_iff_eq,decide_eq_true_eq,Option.isSome_iff_exists]at h
   obtain⟨⟨⟨h1,h2⟩,h3⟩,z,h4⟩:=h
   exact⟨e,i,z,rfl,hi,h4,h1,h2,h3⟩
theorem A63 {t:TypeId} {n sz:Nat} {ps:Array (Nat×Value)} (hb:xD P t n sz=true) (hk:ps.toList.map (·.1)=List.range' 0 n) (hp:∀p∈ps.toList,p.2.cells.size=sz):
  ∃(cs:Array Value) (e:TypeId),(Instr.buildSlice t n ps).run P w= .ok (.slice (some ⟨w.heap.size,0,none⟩) n n) (w.alloc (.cells cs e))∧cs.size=n*sz∧∀j:Nat,cs[j]? =((ps.toList.map fun p=>p.2.cells.toList).flatten)[j]? :=by
 obtain⟨e,i,z,hd,hi,hz,hs,h0,hn⟩:=pi hb
 have hlen:ps.toList.length=n:=by
  have:=congrArg List.length hk
  simpa using this
 have key:∀zc:Array Value,∃cs',Instr.fill (fun i=>some (i*sz,sz)) ((Array.range (n*sz)).map (zc[· %zc.size]!)) ps.toList=some cs'∧cs'.size=n*sz∧∀j:Nat,cs'[j]? =((ps.toList.map fun p=>p.2.cells.toList).flatten)[j]? :=by
  intro zc
  obtain⟨cs',f1,f2,f3,f4⟩:=uE h0 ps.toList 0 ((Array.range (n*sz)).map (zc[· %zc.size]!)) (by rw[hlen];exact hk) hp (by simp[hlen])
  exact⟨cs',f1,by rw[f2];simp,fun j=>by simpa using f4 j⟩
 by_cases hc:n*sz=0
 ·obtain⟨cs',k1,k2,k3⟩:=key #[]
  refine⟨cs',e, ?_,k2,k3⟩
  simp only[Instr.buildSlice]
  simp only[Sem.run_bind,run_underlying hd,Result.andThen_ok,Jb hi,hs]
  rw[if_neg (by omega)]
  simp[hc,k1]at*
  rw[k1]
  simp[newRow]
 ·obtain⟨cs',k1,k2,k3⟩:=key z.cells
  refine⟨cs',e, ?_,k2,k3⟩
  simp only[Instr.buildSlice]
  simp only[Sem.run_bind,run_underlying hd,Result.andThen_ok,Jb hi,hs]
  rw[if_neg (by omega)]
  simp[hc,cV hi hz]
  rw[k1]
  simp[newRow]
end
end TT
namespace TT
open Go
section
variable {P:Program} {c:Ctx} {w w':World} {B:Nat→Prop} {ρ:Id→HG} {Sf:Id→Nat→Prop} {X:Nat→Prop} {r:R} {a:Act} {o:Oper}
theorem A64 {α:Type} {call:Ai} {d:Nat} {v:V} {k:T→M α} {x:α×R} (h:(take v k).run call d r=some x):v≠ .dead∧∃t r',(k t).run call d r'=some x:=by
 cases v with
 |t c=>exact⟨by simp,c,r,h⟩
 |nil=>exact⟨by simp,_,r,h⟩
 |ref id n=>
  refine⟨by simp, ?_⟩
  simp only[take,M.run]at h
  split at h
  ·split at h
   ·exact⟨_,_,h⟩
   ·simp[M.run]at h
  ·simp[M.run]at h
 |sub id p i ci n st=>
  refine⟨by simp, ?_⟩
  simp only[take,M.run]at h
  split at h
  ·split at h
   ·split at h
    ·split at h
     ·exact⟨_,_,h⟩
     ·simp[M.run]at h
    ·simp[M.run]at h
   ·simp[M.run]at h
  ·simp[M.run]at h
 |pp cs=>
  simp only[take]at h
  exact⟨by simp,_,_,h⟩
 |fn f caps=>
  refine⟨by simp, ?_⟩
  simp only[take]at h
  split at h
  ·exact⟨_,_,h⟩
  ·simp[M.run]at h
 |_=>simp[take,M.run]at h
theorem uF {α:Type} {call:Ai} {d:Nat}:∀{vs:List V} {k:List T→M α} {x:α×R} {r:R},(FN vs k).run call d r=some x→(∀v∈vs,v≠ .dead)∧∃t r',(k t).run call d r'=some x
 | [],k,x,r,h=>⟨by simp,_,_,h⟩
 |v::vs,k,x,r,h=>by
  simp only[FN]at h
  obtain⟨h1,t,r1,h2⟩:=A64 h
  obtain⟨h3,h4⟩:=uF h2
  refine⟨fun u hu=> ?_, ?_⟩
  ·rcases List.mem_cons.1 hu with rfl|hu
   ·exact h1
   ·exact h3 u hu
  ·obtain⟨ts,r2,h5⟩:=h4
   exact⟨_,_,h5⟩
theorem gQ {α:Type} {call:Ai} {d:Nat}:∀{vss:List (List V)} {k:Rows→M α} {x:α×R} {r:R},(E2 vss k).run call d r=some x→∀vs∈vss,∀v∈vs,v≠ .dead
 | [],k,x,r,h=>by simp
 |v::vs,k,x,r,h=>by
  simp only[E2]at h
  obtain⟨h1,t,r1,h2⟩:=uF h
  intro u hu
  rcases List.mem_cons.1 hu with rfl|hu
  ·exact h1
  ·exact gQ h2 u hu
theorem uG : ∀ {vs:List V} {us:List Value},AJ w B ρ r vs us→(∀v∈vs,v≠ .dead)→Nh w B ρ r (vs.map cellsOf) (us.map fun u=>u.cells.toList)
 | [],us,h,_=>by simp only[AJ]at h;subst h;simp[Nh]
 |v::vs,us,h,hn=>by
  simp only[AJ]at h
  obtain⟨u,us',rfl,h1,h2⟩:=h
  simp only[List.map_cons,Nh]
  exact⟨_,_,rfl,NL h1 (hn v (List.mem_cons_self ..)),uG h2 fun v hv=>hn v (List.mem_cons_of_mem _ hv)⟩
theorem Al.sizes {sz:Nat}:∀{ts:Rows} {uss:List (List Value)} {S:Nat→Prop},Al w B sz ts uss S→uss.length=ts.length∧∀us∈uss,us.length=sz
 | [],us,S,h=>by simp only[Al]at h;simp[h.1]
 |t::ts,us,S,h=>by
  simp only[Al]at h
  obtain⟨u,us',S1,S2,rfl,h0,h1,h2,h3⟩:=h
  obtain⟨g1,g2⟩:=Al.sizes h2
  refine⟨by simp[g1],fun x hx=> ?_⟩
  rcases List.mem_cons.1 hx with rfl|hx
  ·rw[CS.length h1,h0]
  ·exact g2 x hx
def cX (ps:List D2) (qs:List (Nat×Operand)) (n:Nat):Bool:=qs.map (·.1)==List.range' 0 n&&jy ps (qs.map (·.2))
theorem xE {vs:List V} (h:∀l∈vs.map cellsOf,∀v∈l,v≠ .dead):∀v∈vs,v≠ .dead:=by
 intro v hv e
 subst e
 exact h [.dead] (List.mem_map.2 ⟨.dead,hv,rfl⟩) .dead (List.mem_singleton.2 rfl) rfl
theorem A2O (hI:E5 c w B ρ Sf (fun _=>False) r) {t:TypeId} {n sz:Nat} {qs:Array (Nat×Operand)} {s:List V} {ps:List D2} (h:o.op= .buildSlice t n qs) (hb:xD P t n sz=true) (hp:cX ps qs.toList n=true) (hs:FO w B ρ r s a) {call:Ai} {d:Nat} {x:V×R}
  (hrun:(E2 (ps.map fun q=>cellsOf (A9 s q)) fun rs=>if rs.all fun r=>r.length==sz then .new [.mem rs 0 false] (.ret (.ref (d,0) rs.length))else .fail).run call d r=some x):
  ∃w' u ρ' Sf',PY P o a w u w'∧E5 c w' B ρ' Sf' (fun _=>False) x.2∧x.2.length=r.length∧(∀v u,A6 w B ρ r v u→A6 w' B ρ' x.2 v u)∧A6 w' B ρ' x.2 x.1 u:=by
 simp only[cX,bz,beq_iff_eq]at hp
 have hreps:=hs.evals hp.2
 have hm:(ps.map fun q=>cellsOf (A9 s q))=(ps.map (A9 s)).map cellsOf:=by simp
 rw[hm]at hrun
 have hnd:=xE (gQ hrun)
 obtain⟨tss,Sf1,r1,g1,g2,_,g3,g4⟩:=cW (sz:=sz) hrun hI (uG hreps hnd)
 split at g1
 ·rename_i hall
  have hall':∀t∈tss,t.length=sz:=by simpa using hall
  obtain⟨S,k1,k2,k3⟩:=g3 hall'
  obtain⟨hd,hr,g1⟩:=QJ g1
  simp only[M.run,oi]at g1
  subst g1
  have hpl:(qs.toList.map (·.2)).length=ps.length:=by
   have:=AJ.length hreps
   simpa using this
  have hnq:qs.toList.length=n:=by have:=congrArg List.length hp.1;simpa using this
  have hn:tss.length=n:=by rw[g2];simp only[List.length_map]at hpl ⊢;rw[←hpl,←hnq]
  obtain⟨s1,s2⟩:=Al.sizes k1
  obtain⟨cs,e,f1,f2,f3⟩:=A63 (w:=w) (ps:=qs.map fun(i,x)=>(i,a.eval x)) hb (by simpa [Function.comp_def] using hp.1) (by
   intro p hpm
   simp only[Array.toList_map,List.mem_map]at hpm
   obtain⟨q,hq,rfl⟩:=hpm
   have:=s2 (a.eval q.2).cells.toList (by
    simp only[List.mem_map]
    exact⟨a.eval q.2,⟨q.2,⟨q,hq,rfl⟩,rfl⟩,rfl⟩)
   simpa using this)
  obtain⟨_,_,_,_,_,_,_,h0,hbig⟩:=pi hb
  have hnle:n≤maxLen:=by
   have h1:n*1≤n*sz:=Nat.mul_le_mul_left _ h0
   have:maxLen=9223372036854775807:=rfl
   omega
  have hw:(w.alloc (.cells cs e)).heap=w.heap.push (.cells cs e (0,0)):=rfl
  obtain⟨ρ',Sf',m1,m2,m3⟩:=jb k2 (w':=w.alloc (.cells cs e)) hw rfl rfl rfl hd hr (cap:=n) k1 (fun j u hj=>by
   rw[f3 j]
   rw[←hj]
   congr 2
   simp[Function.comp_def]) (by omega) (fun h=>by rw[←hn,h];rfl) hnle f2 h0 (fun b hb=> .inr hb)
  refine⟨_,_,ρ',Sf',Dx (by unfold execOp;rw[h]) f1,m1,by rw[List.length_set,g4.size],fun v u hh=>m2 v u (g4.claims v u hh), ?_⟩
  have:=ZN (w':=w.alloc (.cells cs e)) (B':=B) (rows:=tss) hd hr m3 (by omega) hnle
  rw[hn]at this ⊢
  exact this
 ·simp[M.run]at g1
theorem uH (l:List Value):∀(n j:Nat),((List.replicate n l).flatten)[j]? =if j<n*l.length then l[j%l.length]? else none
 |0,j=>by simp
 |n+1,j=>by
  rw[List.replicate_succ,List.flatten_cons]
  by_cases h:j<l.length
  ·rw[List.getElem?_append_left h,if_pos (by rw[Nat.succ_mul];omega),Nat.mod_eq_of_lt h]
  ·rw[List.getElem?_append_right (by omega),uH l n,Nat.succ_mul]
   have hm:(j-l.length)%l.length=j%l.length:=by
    conv=>rhs;rw[show j=(j-l.length)+l.length by omega,Nat.add_mod_right]
   rw[hm]
   by_cases h2:j-l.length<n*l.length
   ·rw[if_pos h2,if_pos (by omega)]
   ·rw[if_neg h2,if_neg (by omega)]
theorem Al.rep {z:List T} {us:List Value} (h:CS w B z us (fun _=>False)):∀(n:Nat),Al w B z.length (List.replicate n z) (List.replicate n us) (fun _=>False)
 |0=>by simp only[List.replicate_zero,Al];exact⟨trivial,fun _ h=>h⟩
 |n+1=>by
  simp only[List.replicate_succ,Al]
  exact⟨us,_,_,_,rfl,trivial,h,Al.rep h n,⟨fun b=>by simp,fun b (h:False)=>h.elim⟩⟩
def A9I (P:Program) (t:TypeId) (z:List T) (byt:Nat):Bool:=match P.underlying t with
 |some (.slice e)=>kA P e z&&(match P.info? e with|some i=>i.bytes==byt|none=>false)
 |_=>false
theorem A9J (hI:E5 c w B ρ Sf (fun _=>False) r) {t:TypeId} {z:List T} {byt:Nat} {y:Operand} (h:o.op= .makeSlice t y y) (hb:A9I P t z byt=true) {kd:IntKind} {n:Int} (hy:a.eval y= .int kd n)
  (hn:0≤n) (hl:n.toNat*byt≤LIM) (h1:0<byt) {d:Nat} (hd:d<r.length) (hr:r.getD d []=[]):
  ∃w' u ρ' Sf',PY P o a w u w'∧E5 c w' B ρ' Sf' (fun _=>False) (r.set d [.mem (List.replicate n.toNat z) 0 false])∧(∀v u,A6 w B ρ r v u→A6 w' B ρ' (r.set d [.mem (List.replicate n.toNat z) 0 false]) v u)∧
   A6 w' B ρ' (r.set d [.mem (List.replicate n.toNat z) 0 false]) (.ref (d,0) n.toNat) u:=by
 unfold A9I at hb
 cases hu:P.underlying t with
 |none=>rw[hu]at hb;cases hb
 |some dd=>
  rw[hu]at hb
  cases dd<;>simp only[]at hb<;>try (cases hb;done)
  rename_i e
  simp only[bz]at hb
  obtain⟨i,v,hi,hv,he,hne,hsz⟩:=bN hb.1
  have hbyt:i.bytes=byt:=by have:=hb.2;rw[hi]at this;simpa using this
  have hLIM:LIM=140737488351232:=rfl
  have hN:n.toNat≤n.toNat*byt:=Nat.le_mul_of_pos_right _ h1
  have hmax:maxLen=9223372036854775807:=rfl
  have hb1:((i.bytes:Int)*n)≤281474976710656:=by
   have h2:((n.toNat*byt:Nat):Int)≤140737488351232:=by omega
   rw[Int.natCast_mul,Int.toNat_of_nonneg hn]at h2
   rw[hbyt,Int.mul_comm]
   omega
  have hrun:=run_make w t e i v hu hi hv kd kd n n hn (Int.le_refl _) hb1 (by omega)
  obtain⟨_,g2,g3⟩:=Vl (w:=w) (B:=B) (ρ:=ρ) (r:=r) he
  have hw:(w.alloc (.cells (madeCells v.cells (n.toNat*i.size)) e)).heap=w.heap.push (.cells (madeCells v.cells (n.toNat*i.size)) e (0,0)):=rfl
  have hzl:0<z.length:=by cases z with|nil=>exact absurd rfl hne|cons x xs=>simp
  have hvl:v.cells.size=z.length:=by rw[g3];simp
  obtain⟨ρ',Sf',m1,m2,m3⟩:=jb hI (w':=w.alloc (.cells (madeCells v.cells (n.toNat*i.size)) e)) hw rfl rfl rfl hd hr (cap:=n.toNat) (Al.rep g2 n.toNat) (fun j u hj=>by
   rw[uH]at hj
   split at hj
   ·rename_i hlt
    have hlt':j<n.toNat*v.cells.size:=by simpa using hlt
    simp only[madeCells,hsz]
    rw[Array.getElem?_map,Array.getElem?_range,if_pos (by rw[←hvl];exact hlt')]
    simp only[Option.map_some]
    rw[←hj]
    have hmod:j%v.cells.size<v.cells.size:=Nat.mod_lt _ (by omega)
    simp[hmod]
   ·cases hj) (by simp) (fun h=>by simpa using h) (by omega) (by rw[size_madeCells,hsz]) hzl (fun _ h=>h)
  refine⟨_,_,ρ',Sf',Dx (by unfold execOp;rw[h]) (by rw[hy];exact hrun),m1,m2, ?_⟩
  have:=ZN (w':=w.alloc (.cells (madeCells v.cells (n.toNat*i.size)) e)) (B':=B) (rows:=List.replicate n.toNat z) hd hr m3 (by simp) (by omega)
  simpa using this
end
end TT
namespace TT
open Go
section
variable {P:Program} {c:Ctx} {w w':World} {B:Nat→Prop} {ρ:Id→HG} {Sf:Id→Nat→Prop} {X:Nat→Prop} {r:R} {a:Act} {o:Oper} {id0:Id}
theorem E5.root (hI:E5 c w B ρ Sf X r) (hheap:∀b,b<w.heap.size→¬X b→w'.heap[b]? =w.heap[b]?) (hsize:w.heap.size≤w'.heap.size) (hos:w'.os=w.os) (htp:w'.tape=w.tape) (hout:w'.output=w.output)
  {rows:Rows} {q:Option Addr} {cap d:Nat} {S':Nat→Prop} (hd:d<r.length) (hr:r.getD d []=[]) (ho:H1 w' B q cap rows S') (hS:∀b,S' b→w.heap.size≤b∨X b):
  ∃ρ' Sf',E5 c w' B ρ' Sf' (fun _=>False) (r.set d [.mem rows 0 false])∧(∀v u,A6 w B ρ r v u→A6 w' B ρ' (r.set d [.mem rows 0 false]) v u)∧ρ' (d,0)=(q,cap):=by
 have hsame:∀D:Nat→Prop,(∀b,D b→b<w.heap.size)→(∀b,D b→¬X b)→Fx D w w':=fun D h h' b hb=>hheap b (h b hb) (h' b hb)
 let ρ':Id→HG:=fun id=>if id.1=d then(q,cap)else ρ id
 let Sf':Id→Nat→Prop:=fun id b=>if id.1=d then id.2=0∧S' b else Sf id b
 have hρ:∀id:Id,id.1≠d→ρ' id=ρ id:=fun id h=>if_neg h
 have hlt:∀id b,Sf id b→b<w.heap.size:=fun id b h=>(hI.ents id).inHeap b h
 have hSS:∀id,Fx (Sf id) w w':=fun id=>hsame _ (hlt id) fun b hb hx=>hI.xd id b hx hb
 have hBB:Fx B w w':=hsame B hI.inB fun b hb hx=>hI.xb b hx hb
 have hk:∀id,jx w w' B ρ r id:=fun id rows stt fx hg=>⟨Sf id,(hI.mem hg).1,hSS id⟩
 have hclaims:∀v u,A6 w B ρ r v u→A6 w' B ρ' (r.set d [.mem rows 0 false]) v u:=fun v u h=>
  bM hd hr hρ (EI (fun _ h=>h) hBB hk h)
 have hsub:∀id b,Sf' id b→(id.1=d∧id.2=0∧S' b)∨(id.1≠d∧Sf id b):=by
  intro id b h
  by_cases e1:id.1=d
  ·have h':id.2=0∧S' b:=by simpa only[Sf',if_pos e1] using h
   exact .inl ⟨e1,h'.1,h'.2⟩
  ·exact .inr ⟨e1,by simpa only[Sf',if_neg e1] using h⟩
 have hno:∀b,S' b→∀id,¬Sf id b:=by
  intro b hb id h
  rcases hS b hb with h'|h'
  ·exact absurd (hlt id b h) (by omega)
  ·exact hI.xd id b h' h
 refine⟨ρ',Sf', ?_,hclaims,if_pos rfl⟩
 constructor
 ·intro id
  rw[RH hd hr]
  by_cases e1:id.1=d
  ·rw[if_pos e1]
   have hS':Sf' id=fun b=>id.2=0∧S' b:=funext fun b=>by simp only[Sf',if_pos e1]
   rw[hS']
   obtain⟨i1,i2⟩:=id
   cases i2 with
   |zero=>
    simp only[List.getD_cons_zero]
    have hq:ρ' (i1,0)=(q,cap):=if_pos e1
    unfold Rl
    rw[hq]
    have he:(fun b=>True∧S' b)=S':=funext fun b=>by simp
    rw[he]
    exact⟨ho,fun h=>by cases h⟩
   |succ n=>exact fun b hb=>by simp at hb
  ·rw[if_neg e1]
   have hS':Sf' id=Sf id:=funext fun b=>by simp only[Sf',if_neg e1]
   rw[hS']
   have h1:=hI.ents id
   cases he:Ac r id with
   |dead=>rw[he]at h1;exact h1
   |mem rows1 stt fx=>
    rw[he]at h1
    exact⟨by rw[hρ id e1];exact H1.same (fun _ h=>h) hBB (hSS id) h1.1,fun h=>by rw[hρ id e1];exact h1.2 h⟩
 ·intro id id' b h h'
  rcases hsub id b h with ⟨a1,a2,a3⟩|⟨a1,a2⟩<;>rcases hsub id' b h' with ⟨b1,b2,b3⟩|⟨b1,b2⟩
  ·exact Prod.ext (a1.trans b1.symm) (a2.trans b2.symm)
  ·exact absurd b2 (hno b a3 id')
  ·exact absurd a2 (hno b b3 id)
  ·exact hI.disj id id' b a2 b2
 ·intro id b h
  rcases hsub id b h with ⟨a1,a2,a3⟩|⟨a1,a2⟩
  ·rcases hS b a3 with h'|h'
   ·exact fun hb=>absurd (hI.inB _ hb) (by omega)
   ·exact hI.xb b h'
  ·exact hI.nb id b a2
 ·exact fun b h=>h.elim
 ·exact fun id b h=>h.elim
 ·exact fun b hb=>Nat.lt_of_lt_of_le (hI.inB b hb) hsize
 ·exact fun b h=>h.elim
 ·intro id b h
  rcases hsub id b h with ⟨a1,a2,a3⟩|⟨a1,a2⟩
  ·rcases hS b a3 with h'|h'
   ·exact .inr (Nat.le_trans hI.size h')
   ·exact hI.ownX b h'
  ·exact hI.own id b a2
 ·exact fun b h=>h.elim
 ·exact hI.old
 ·exact hI.sh
 ·exact Nat.le_trans hI.size hsize
 ·intro b hb hn
  have hx:¬X b:=fun hx=>by
   rcases hI.ownX b hx with h|h
   ·exact hn h
   ·omega
  rw[hheap b (Nat.lt_of_lt_of_le hb hI.size) hx]
  exact hI.frame b hb hn
 ·rw[hos];exact hI.os
 ·rw[htp];exact hI.tape
 ·rw[hout];exact hI.output
theorem E5.turn (hI:E5 c w B ρ Sf X r) {rows:Rows} {stt:Nat} {fx:Bool} (h0:Ac r id0= .mem rows stt fx) (hheap:∀b,b<w.heap.size→¬X b→¬Sf id0 b→w'.heap[b]? =w.heap[b]?) (hsize:w.heap.size≤w'.heap.size)
  (hos:w'.os=w.os) (htp:w'.tape=w.tape) (hout:w'.output=w.output) {rows':Rows} {stt':Nat} {fx':Bool} {ρ':Id→HG} (hρ:∀id,id≠id0→ρ' id=ρ id) {S':Nat→Prop} (ho:H1 w' B (ρ' id0).1 (ρ' id0).2 rows' S')
  (hS:∀b,S' b→w.heap.size≤b∨X b∨Sf id0 b) (hfx:fx'=true→ρ' id0=c.q0 id0∧rows'.length=c.n0 id0)
  (hclaims:(∀id,id≠id0→jx w w' B ρ r id)→Fx B w w'→∀v u,A6 w B ρ r v u→A6 w' B ρ' (C3 r id0 (.mem rows' stt' fx')) v u):
  ∃Sf',E5 c w' B ρ' Sf' (fun _=>False) (C3 r id0 (.mem rows' stt' fx'))∧(∀v u,A6 w B ρ r v u→A6 w' B ρ' (C3 r id0 (.mem rows' stt' fx')) v u):=by
 have hlt:∀id b,Sf id b→b<w.heap.size:=fun id b h=>(hI.ents id).inHeap b h
 have hSS:∀id,id≠id0→Fx (Sf id) w w':=fun id hne b hb=>hheap b (hlt id b hb) (fun hx=>hI.xd id b hx hb) (fun h=>hne (hI.disj id id0 b hb h))
 have hBB:Fx B w w':=fun b hb=>hheap b (hI.inB b hb) (fun hx=>hI.xb b hx hb) (fun h=>hI.nb id0 b h hb)
 have hcl:=hclaims (fun id hne rows stt fx hg=>⟨Sf id,(hI.mem hg).1,hSS id hne⟩) hBB
 have hth:Au r id0:=DA (by rw[h0];simp)
 let Sf':Id→Nat→Prop:=fun id b=>(id≠id0∧Sf id b)∨(id=id0∧S' b)
 have hno:∀b,S' b→∀id,id≠id0→¬Sf id b:=by
  intro b hb id hne h
  rcases hS b hb with h'|h'|h'
  ·exact absurd (hlt id b h) (by omega)
  ·exact hI.xd id b h' h
  ·exact hne (hI.disj id id0 b h h')
 refine⟨Sf', ?_,hcl⟩
 constructor
 ·intro id
  by_cases e1:id0=id
  ·subst e1
   rw[AR hth]
   have he:Sf' id0=S':=funext fun b=>propext ⟨fun h=>h.elim (fun h=>absurd rfl h.1) (fun h=>h.2),fun h=> .inr ⟨rfl,h⟩⟩
   rw[he]
   exact⟨ho,hfx⟩
  ·rw[AX e1]
   have he:Sf' id=Sf id:=funext fun b=>propext ⟨fun h=>h.elim (fun h=>h.2) (fun h=>absurd h.1.symm e1),fun h=> .inl ⟨Ne.symm e1,h⟩⟩
   rw[he]
   have h1:=hI.ents id
   cases hh:Ac r id with
   |dead=>rw[hh]at h1;exact h1
   |mem rows1 stt1 fx1=>
    rw[hh]at h1
    exact⟨by rw[hρ id (Ne.symm e1)];exact H1.same (fun _ h=>h) hBB (hSS id (Ne.symm e1)) h1.1,fun h=>by rw[hρ id (Ne.symm e1)];exact h1.2 h⟩
 ·intro id id' b h h'
  rcases h with ⟨a1,a2⟩|⟨a1,a2⟩<;>rcases h' with ⟨b1,b2⟩|⟨b1,b2⟩
  ·exact hI.disj id id' b a2 b2
  ·exact absurd a2 (hno b b2 id a1)
  ·exact absurd b2 (hno b a2 id' b1)
  ·exact a1.trans b1.symm
 ·intro id b h
  rcases h with ⟨a1,a2⟩|⟨a1,a2⟩
  ·exact hI.nb id b a2
  ·rcases hS b a2 with h'|h'|h'
   ·exact fun hb=>absurd (hI.inB _ hb) (by omega)
   ·exact hI.xb b h'
   ·exact hI.nb id0 b h'
 ·exact fun b h=>h.elim
 ·exact fun id b h=>h.elim
 ·exact fun b hb=>Nat.lt_of_lt_of_le (hI.inB b hb) hsize
 ·exact fun b h=>h.elim
 ·intro id b h
  rcases h with ⟨a1,a2⟩|⟨a1,a2⟩
  ·exact hI.own id b a2
  ·rcases hS b a2 with h'|h'|h'
   ·exact .inr (Nat.le_trans hI.size h')
   ·exact hI.ownX b h'
   ·exact hI.own id0 b h'
 ·exact fun b h=>h.elim
 ·exact hI.old
 ·exact hI.sh
 ·exact Nat.le_trans hI.size hsize
 ·intro b hb hn
  have hx:¬X b:=fun hx=>by
   rcases hI.ownX b hx with h|h
   ·exact hn h
   ·omega
  have hs:¬Sf id0 b:=fun hx=>by
   rcases hI.own id0 b hx with h|h
   ·exact hn h
   ·omega
  rw[hheap b (Nat.lt_of_lt_of_le hb hI.size) hx hs]
  exact hI.frame b hb hn
 ·rw[hos];exact hI.os
 ·rw[htp];exact hI.tape
 ·rw[hout];exact hI.output
theorem X9 {w:World} {b k x:Nat} {u:Value} (h:x≠b):(w.setCell ⟨b,k,none⟩ u).heap[x]? =w.heap[x]? :=by
 simp[World.setCell,Array.getElem?_modify,Ne.symm h]
theorem Vp {b k:Nat} {cur:Array Value} {e:TypeId} {u0 u:Value} (h:SW w b cur e) (hc:cur[k]? =some u0) (h1:u.oneCell'=true):(store ⟨b,k,none⟩ u).run P w= .ok () (w.setCell ⟨b,k,none⟩ u):=by
 rw[run_store P w _ u .plain h1]
 have:w.cell? ⟨b,k,none⟩=some u0:=by rw[h.cell k];exact hc
 rw[this]
 have hf:w.frozen? ⟨b,k,none⟩=false:=h.free (Array.getElem?_eq_some_iff.1 hc).1
 simp[hf]
theorem Ni : ∀ (ts:List T) (rows:Rows) (p:Path) (i k:Nat),(K0 rows p i k ts).length=rows.length
 | [],rows,p,i,k=>rfl
 |t::ts,rows,p,i,k=>by simp only[K0,Ni,BZ]
theorem eh {rows:Rows} {p:Path} {I C:Nat} {t:T}:∀(i:Nat) (row':List T),(Bn rows p I C t)[i]? =some row'→∃row:List T,rows[i]? =some row∧row.length=row'.length:=by
 intro i row' h
 cases p with
 |nil=>
  obtain⟨row,h1,h2,_⟩:=Tc h
  exact⟨row,h1,h2⟩
 |cons x p=>
  obtain⟨i0,c0⟩:=x
  simp only[Bn]at h
  split at h
  ·obtain⟨row,h1,h2,_⟩:=Tc h
   exact⟨row,h1,h2⟩
  ·exact⟨row',h,rfl⟩
theorem bP : ∀ (ts:List T) {rows:Rows} {p:Path} {I C:Nat} (i:Nat) (row':List T),(K0 rows p I C ts)[i]? =some row'→∃row:List T,rows[i]? =some row∧row.length=row'.length
 | [],rows,p,I,C,i,row',h=>⟨row',h,rfl⟩
 |t::ts,rows,p,I,C,i,row',h=>by
  simp only[K0]at h
  obtain⟨row1,h1,h2⟩:=bP ts i row' h
  obtain⟨row,h3,h4⟩:=eh i row1 h1
  exact⟨row,h3,by omega⟩
theorem cY : ∀ (p:Path) {rows:Rows} {i k:Nat} {t:T} {row:List T},(D5 rows p).bind (·[i]?)=some row→(D5 (Bn rows p i k t) p).bind (·[i]?)=some (row.set k t)
 | [],rows,i,k,t,row,h=>by
  simp only[D5,Option.bind_some]at h
  simp only[Bn,D5,Option.bind_some,ID,h]
  have:=(List.getElem?_eq_some_iff.1 h).1
  simp[this]
 |(i0,c0)::p,rows,i,k,t,row,h=>by
  simp only[D5]at h
  cases hrc:rows[i0]?.bind (·[c0]?)with
  |none=>simp[hrc]at h
  |some t0=>
   cases t0 with
   |v x=>simp[hrc]at h
   |hole=>simp[hrc]at h
   |pp _=>simp[hrc]at h
   |fn _ _=>simp[hrc]at h
   |sl own rows1=>cases own with
    |false=>simp[hrc]at h
    |true=>
     simp only[hrc]at h
     obtain⟨row0,h1,h2⟩:=Option.bind_eq_some_iff.1 hrc
     have l1:=(List.getElem?_eq_some_iff.1 h1).1
     have l2:=(List.getElem?_eq_some_iff.1 h2).1
     have hset:Bn rows ((i0,c0)::p) i k t=rows.set i0 (row0.set c0 (.sl true (Bn rows1 p i k t))):=by simp only[Bn,hrc];simp only[ID,h1]
     have hget:(rows.set i0 (row0.set c0 (.sl true (Bn rows1 p i k t))))[i0]?.bind (·[c0]?)=some (.sl true (Bn rows1 p i k t)):=by simp[l1,l2]
     rw[hset]
     simp only[D5,hget]
     exact cY p h
theorem Tj {b i:Nat} {p:Path} {q:Option Addr} {cap:Nat}:∀(ts:List T) {us:List Value} {w:World} {rows:Rows} {row:List T} {S T':Nat→Prop} {k cc j:Nat},H1 w B q cap rows S→(D5 rows p).bind (·[i]?)=some row→cc+ts.length≤row.length→
  (ts≠[]→Bb w q rows p i cc b (k+j))→CS w B ts us T'→(∀x,T' x→¬S x)→(∀x,S x→¬B x)→(∀x,T' x→¬B x)→
  ∃w',(storeCells ⟨b,k,none⟩ us j).run P w= .ok () w'∧w'.heap.size=w.heap.size∧(∀x,x≠b→w'.heap[x]? =w.heap[x]?)∧w'.os=w.os∧w'.tape=w.tape∧w'.output=w.output∧
   ∃S',H1 w' B q cap (K0 rows p i cc ts) S'∧∀x,S' x→S x∨T' x
 | [],us,w,rows,row,S,T',k,cc,j,ho,hr,hl,hloc,hv,hd,hSB,hTB=>by
  simp only[CS]at hv
  rw[hv.1]
  exact⟨w,rfl,rfl,fun _ _=>rfl,rfl,rfl,rfl,S,ho,fun _ h=> .inl h⟩
 |t::ts,us,w,rows,row,S,T',k,cc,j,ho,hr,hl,hloc,hv,hd,hSB,hTB=>by
  simp only[CS]at hv
  obtain⟨u,us',T1,T2,rfl,hu1,hu2,hu3,hsp⟩:=hv
  have hloc:=hloc (by simp)
  have hlt:cc<row.length:=by simp at hl;omega
  have hg:CR rows p i cc=some row[cc]:=by rw[KI hr];simp[hlt]
  obtain⟨b',k',cur,e,u0,S1,S2,l1,l2,l3,l4,l5,l6,l7,l8⟩:=H1.lens p ho hg
  obtain⟨rfl,rfl⟩:=Bb.unique p l1 hloc
  have hrun:=Vp (P:=P) l2 l3 hu1
  have hSb:S b':=l6.right l7
  have hother:∀x,x≠b'→(w.setCell ⟨b',k+j,none⟩ u).heap[x]? =w.heap[x]? :=fun x hx=>X9 hx
  have hown:=l8 (w.setCell ⟨b',k+j,none⟩ u) B t u T1 (fun _ h=>h) (fun x hx=>hother x (fun e=>hSB b' hSb (e▸hx))) (fun x _ hx=>hother x hx) (SW.set l2) hu1
   (Fb.same (fun _ h=>h) (fun x hx=>hother x (fun e=>hSB b' hSb (e▸hx))) (fun x hx=>hother x (fun e=>hd x (hsp.left hx) (e▸hSb))) hu2) (fun x hx hx'=>hd x (hsp.left hx) (l6.right hx'))
  have hput:=Bb.put p (t':=t) (w':=w.setCell ⟨b',k+j,none⟩ u) ho hg hloc (fun x o' hne=>by
   by_cases e:x=b'
   ·subst e
    have ho':o'≠k+j:=fun e=>hne ⟨rfl,e⟩
    rw[(SW.set l2).cell _,l2.cell _,Array.getElem?_setIfInBounds_ne (Ne.symm ho')]
   ·exact Et (hother x e) o')
  obtain⟨w2,m1,m2,m3,m4,m5,m6,S',m7,m8⟩:=Tj ts (w:=w.setCell ⟨b',k+j,none⟩ u) (us:=us') (row:=row.set cc t) (k:=k) (cc:=cc+1) (j:=j+1) hown (cY p hr) (by simp at hl ⊢;omega) (fun hne=>by
   have:=Bb.shift (j:=1) p hput.1 (cY p hr) (by
    simp only[List.length_set]
    simp at hl
    have:0<ts.length:=List.length_pos_iff.2 hne
    omega)
   rwa [show k+(j+1)=k+j+1 by omega]) (CS.same (fun _ h=>h) (fun x hx=>hother x (fun e=>hSB b' hSb (e▸hx))) (fun x hx=>hother x (fun e=>hd x (hsp.right hx) (e▸hSb))) hu3)
   (fun x hx hx'=>by
     rcases hx' with h|h
     ·exact hsp.2 x h hx
     ·exact hd x (hsp.right hx) (l6.right h))
   (fun x hx=>by
     rcases hx with h|h
     ·exact hTB x (hsp.left h)
     ·exact hSB x (l6.right h)) (fun x hx=>hTB x (hsp.right hx))
  refine⟨w2, ?_, ?_, ?_,m4,m5,m6,S',m7, ?_⟩
  ·simp only[storeCells,DB]
   rw[Sem.run_bind,hrun]
   exact m1
  ·rw[m2];simp
  ·intro x hx
   rw[m3 x hx,hother x hx]
  ·intro x hx
   rcases m8 x hx with (h|h)|h
   ·exact .inr (hsp.left h)
   ·exact .inl (l6.right h)
   ·exact .inr (hsp.right h)
end
end TT
