import Derived.Test.YtpmnlfgdicmiiaaGreatDoorTA
import Derived.Laws.Strings
import Derived.Laws.StructEq
set_option linter.unusedVariables false
set_option linter.unusedSimpArgs false
namespace TT
open Go
def ju (p:Path) (i:Nat):Nat:=match p with
 | []=>i
 |(j,_)::_=>j
abbrev HG := Option Addr×Nat
def Xt (ρ:Id→HG) (r:R) (id:Id) (n:Nat) (u:Value):Prop:=
 ∀rows stt fx,Ac r id= .mem rows stt fx→n≤rows.length∧(rows.length=n→u= .slice (ρ id).1 n (ρ id).2)
def X8 (w:World) (ρ:Id→HG) (r:R) (id:Id) (p:Path) (i c n st:Nat) (u:Value):Prop:=
 ∀rows stt fx,Ac r id= .mem rows stt fx→st≤stt∧(st=stt→ju p i<rows.length∧
  ∀rs,CR rows p i c=some (.sl true rs)→rs.length=n→∃b k,Bb w (ρ id).1 rows p i c b k∧w.cell? ⟨b,k,none⟩=some u)
def Vj (w:World) (ρ:Id→HG) (r:R) (id:Id) (p:Path) (i off n st:Nat) (a:Addr):Prop:=
 ∀rows stt fx,Ac r id= .mem rows stt fx→(p=[]→n≤rows.length)∧(p≠[]→st≤stt)∧((p=[]→rows.length=n)→(p≠[]→st=stt)→
  (p≠[]→ju p i<rows.length)∧∀row,(D5 rows p).bind (·[i]?)=some row→off<row.length→∃b k,Bb w (ρ id).1 rows p i off b k∧a=⟨b,k,none⟩)
def Rk (w:World) (ρ:Id→HG) (r:R) (id:Id) (st:Nat) (us:List Value):Prop:=
 ∀rows stt fx,Ac r id= .mem rows stt fx→1≤rows.length∧st≤stt∧(st=stt→rows.length=1→∃row b,rows=[row]∧row.length=us.length∧(ρ id).1=some ⟨b,0,none⟩∧
  ∀(j:Nat) u,us[j]? =some u→w.cell? ⟨b,j,none⟩=some u)
def Au (r:R) (id:Id):Prop:=id.2<(r.getD id.1 []).length
mutual
def A6 (w:World) (B:Nat→Prop) (ρ:Id→HG) (r:R):V→Value→Prop
 | .t c,u=>EV w B c u∧u.oneCell'=true
 | .nil,u=>u= .slice none 0 0
 | .agg cs,u=>∃us,u= .agg us∧AJ w B ρ r cs us.toList
 | .ref id n,u=>Au r id∧(∃q cap,u= .slice q n cap∧n≤cap∧cap≤maxLen)∧Xt ρ r id n u
 | .sub id p i c n st,u=>Au r id∧(∃q cap,u= .slice q n cap∧n≤cap)∧X8 w ρ r id p i c n st u
 | .ptr id p i off n st,u=>Au r id∧∃a,u= .pointer (some a)∧Vj w ρ r id p i off n st a
 | .pp cs,u=>∃b o,u= .pointer (some ⟨b,o,none⟩)∧B b∧Ml w B b o cs
 | .fn f caps,u=>∃us,u= .func (.func f) #[] us∧AJ w B ρ r caps us.toList
 | .tup vs,u=>∃us,u= .tuple us∧AJ w B ρ r vs us.toList
 | .vb id off st cs,u=>Au r id∧(∃a,u= .pointer (some a)∧Vj w ρ r id [] 0 off 1 0 a)∧∃us,AJ w B ρ r cs us∧Rk w ρ r id st us
 | .vw id lo hi n,u=>Au r id∧∃q cap,u= .slice (if cap=lo then q else q.map (·.add lo)) (hi-lo) (cap-lo)∧lo≤hi∧hi≤n∧n≤cap∧Xt ρ r id n (.slice q n cap)
 | .dead,_=>True
def AJ (w:World) (B:Nat→Prop) (ρ:Id→HG) (r:R):List V→List Value→Prop
 | [],us=>us=[]
 |v::vs,us=>∃u us',us=u::us'∧A6 w B ρ r v u∧AJ w B ρ r vs us'
end
theorem Zb.reps {w:World} {B:Nat→Prop} {ρ:Id→HG} {r:R}:∀{cs:List (List T)} {us:List Value},Zb w B cs us→AJ w B ρ r (cs.map V.pp) us
 | [],us,h=>by simpa only[List.map_nil,AJ,Zb] using h
 |c::cs,us,h=>by
  simp only[Zb]at h
  obtain⟨b,o,us',h1,h2,h3,h4⟩:=h
  simp only[List.map_cons,AJ,A6]
  exact⟨_,us',h1,⟨b,o,rfl,h2,h3⟩,h4.reps⟩
theorem jv : ∀ {vs:List V} {cs:List (List T)},jn vs=some cs→vs=cs.map V.pp
 | [],cs,h=>by simp only[jn,oi]at h;subst h;rfl
 |v::vs,cs,h=>by
  cases v with
  |pp c=>
   simp only[jn]at h
   obtain⟨r,h1,h2⟩:=Option.map_eq_some_iff.1 h
   subst h2
   rw[jv h1];rfl
  |_=>simp[jn]at h
theorem AJ.shPs {w:World} {B:Nat→Prop} {ρ:Id→HG} {r:R}:∀{cs:List (List T)} {us:List Value},AJ w B ρ r (cs.map V.pp) us→Zb w B cs us
 | [],us,h=>by simpa only[List.map_nil,AJ,Zb] using h
 |c::cs,us,h=>by
  simp only[List.map_cons,AJ,A6]at h
  obtain⟨u,us',h1,⟨b,o,h2,h3,h4⟩,h5⟩:=h
  subst h2
  simp only[Zb]
  exact⟨b,o,us',h1,h3,h4,h5.shPs⟩
theorem AJ.get {w:World} {B:Nat→Prop} {ρ:Id→HG} {r:R}:∀{vs:List V} {us:List Value},AJ w B ρ r vs us→∀(i:Nat) (v:V),vs[i]? =some v→∃u,us[i]? =some u∧A6 w B ρ r v u
 | [],us,h,i,v,hi=>by simp at hi
 |v0::vs,us,h,i,v,hi=>by
  simp only[AJ]at h
  obtain⟨u,us',rfl,h1,h2⟩:=h
  cases i with
  |zero=>simp at hi;subst hi;exact⟨u,by simp,h1⟩
  |succ i=>simp at hi;obtain⟨u',h3,h4⟩:=AJ.get h2 i v hi;exact⟨u',by simpa using h3,h4⟩
theorem AJ.length {w:World} {B:Nat→Prop} {ρ:Id→HG} {r:R}:∀{vs:List V} {us:List Value},AJ w B ρ r vs us→us.length=vs.length
 | [],us,h=>by simp only[AJ]at h;simp[h]
 |v0::vs,us,h=>by
  simp only[AJ]at h
  obtain⟨u,us',rfl,h1,h2⟩:=h
  simp[AJ.length h2]
theorem AJ.append {w:World} {B:Nat→Prop} {ρ:Id→HG} {r:R}:∀{vs vs':List V} {us us':List Value},AJ w B ρ r vs us→AJ w B ρ r vs' us'→AJ w B ρ r (vs++vs') (us++us')
 | [],vs',us,us',h,h'=>by simp only[AJ]at h;subst h;simpa using h'
 |v0::vs,vs',us,us',h,h'=>by
  simp only[AJ]at h
  obtain⟨u,us1,rfl,h1,h2⟩:=h
  simp only[List.cons_append,AJ]
  exact⟨u,us1++us',rfl,h1,AJ.append h2 h'⟩
theorem AJ.drop {w:World} {B:Nat→Prop} {ρ:Id→HG} {r:R}:∀{vs:List V} {us:List Value} (n:Nat),AJ w B ρ r vs us→AJ w B ρ r (vs.drop n) (us.drop n)
 |vs,us,0,h=>by simpa using h
 | [],us,n+1,h=>by simp only[AJ]at h;subst h;simp[AJ]
 |v0::vs,us,n+1,h=>by
  simp only[AJ]at h
  obtain⟨u,us1,rfl,h1,h2⟩:=h
  simpa using AJ.drop n h2
theorem AJ.take {w:World} {B:Nat→Prop} {ρ:Id→HG} {r:R}:∀{vs:List V} {us:List Value} (n:Nat),AJ w B ρ r vs us→AJ w B ρ r (vs.take n) (us.take n)
 |vs,us,0,h=>by simp[AJ]
 | [],us,n+1,h=>by simp only[AJ]at h;subst h;simp[AJ]
 |v0::vs,us,n+1,h=>by
  simp only[AJ]at h
  obtain⟨u,us1,rfl,h1,h2⟩:=h
  simp only[List.take_succ_cons,AJ]
  exact⟨u,us1.take n,rfl,h1,AJ.take n h2⟩
mutual
theorem A6.turn {w w':World} {B B':Nat→Prop} {ρ ρ':Id→HG} {r r':R} (hB:∀b,B b→B' b) (h:Fx B w w') (hT:∀id,Au r id→Au r' id)
  (h1:∀id n u,Au r id→Xt ρ r id n u→Xt ρ' r' id n u) (h2:∀id p i c n st u,Au r id→X8 w ρ r id p i c n st u→X8 w' ρ' r' id p i c n st u)
  (h3:∀id p i off n st a,Au r id→Vj w ρ r id p i off n st a→Vj w' ρ' r' id p i off n st a)
  (h4:∀id st us,Au r id→Rk w ρ r id st us→Rk w' ρ' r' id st us):∀{v:V} {u:Value},A6 w B ρ r v u→A6 w' B' ρ' r' v u
 | .t c,u,hh=>by simp only[A6]at hh ⊢;exact⟨EV.same hB h hh.1,hh.2⟩
 | .nil,u,hh=>by simpa only[A6] using hh
 | .agg cs,u,hh=>by simp only[A6]at hh ⊢;obtain⟨us,g1,g2⟩:=hh;exact⟨us,g1,AJ.turn hB h hT h1 h2 h3 h4 g2⟩
 | .ref id n,u,hh=>by simp only[A6]at hh ⊢;exact⟨hT _ hh.1,hh.2.1,h1 _ _ _ hh.1 hh.2.2⟩
 | .sub id p i c n st,u,hh=>by simp only[A6]at hh ⊢;exact⟨hT _ hh.1,hh.2.1,h2 _ _ _ _ _ _ _ hh.1 hh.2.2⟩
 | .ptr id p i off n st,u,hh=>by simp only[A6]at hh ⊢;obtain⟨g0,a,g1,g2⟩:=hh;exact⟨hT _ g0,a,g1,h3 _ _ _ _ _ _ _ g0 g2⟩
 | .pp cs,u,hh=>by
  simp only[A6]at hh ⊢
  obtain⟨b,o,g1,g2,g3⟩:=hh
  exact⟨b,o,g1,hB b g2,Ml.same hB h g2 g3⟩
 | .fn f cs,u,hh=>by simp only[A6]at hh ⊢;obtain⟨us,g1,g2⟩:=hh;exact⟨us,g1,AJ.turn hB h hT h1 h2 h3 h4 g2⟩
 | .tup cs,u,hh=>by simp only[A6]at hh ⊢;obtain⟨us,g1,g2⟩:=hh;exact⟨us,g1,AJ.turn hB h hT h1 h2 h3 h4 g2⟩
 | .vb id off st cs,u,hh=>by simp only[A6]at hh ⊢;obtain⟨g0,⟨a,g1,g2⟩,us,g3,g4⟩:=hh;exact⟨hT _ g0,⟨a,g1,h3 _ _ _ _ _ _ _ g0 g2⟩,us,AJ.turn hB h hT h1 h2 h3 h4 g3,h4 _ _ _ g0 g4⟩
 | .vw id lo hi n,u,hh=>by simp only[A6]at hh ⊢;obtain⟨g0,q,cap,g1,g2,g3,g4,g5⟩:=hh;exact⟨hT _ g0,q,cap,g1,g2,g3,g4,h1 _ _ _ g0 g5⟩
 | .dead,u,hh=>by simp only[A6]
theorem AJ.turn {w w':World} {B B':Nat→Prop} {ρ ρ':Id→HG} {r r':R} (hB:∀b,B b→B' b) (h:Fx B w w') (hT:∀id,Au r id→Au r' id)
  (h1:∀id n u,Au r id→Xt ρ r id n u→Xt ρ' r' id n u) (h2:∀id p i c n st u,Au r id→X8 w ρ r id p i c n st u→X8 w' ρ' r' id p i c n st u)
  (h3:∀id p i off n st a,Au r id→Vj w ρ r id p i off n st a→Vj w' ρ' r' id p i off n st a)
  (h4:∀id st us,Au r id→Rk w ρ r id st us→Rk w' ρ' r' id st us):∀{vs:List V} {us:List Value},AJ w B ρ r vs us→AJ w' B' ρ' r' vs us
 | [],us,hh=>by simpa only[AJ] using hh
 |v::vs,us,hh=>by
  simp only[AJ]at hh ⊢
  obtain⟨u,us',g1,g2,g3⟩:=hh
  exact⟨u,us',g1,A6.turn hB h hT h1 h2 h3 h4 g2,AJ.turn hB h hT h1 h2 h3 h4 g3⟩
end
structure Gt where
 ok:(Nat→Prop)→World→Prop
 mono:∀{B B':Nat→Prop} {w w':World},ok B w→(∀b,B b→B' b)→(∀b,B b→w'.heap[b]? =w.heap[b]?)→ok B' w'
structure Ctx where
 P:Program
 G:Gt
 w0:World
 B0:Nat→Prop
 L0:Nat→Prop
 hG:G.ok B0 w0
 hL:∀b,L0 b→¬B0 b
 hB:∀b,B0 b→b<w0.heap.size
 q0:Id→HG
 n0:Id→Nat
def Rl (c:Ctx) (w:World) (B:Nat→Prop) (ρ:Id→HG) (r:R) (id:Id) (S:Nat→Prop):FA→Prop
 | .dead=>Emp S
 | .mem rows stt fx=>H1 w B (ρ id).1 (ρ id).2 rows S∧(fx=true→ρ id=c.q0 id∧rows.length=c.n0 id)
structure E5 (c:Ctx) (w:World) (B:Nat→Prop) (ρ:Id→HG) (Sf:Id→Nat→Prop) (X:Nat→Prop) (r:R):Prop where
 ents:∀id,Rl c w B ρ r id (Sf id) (Ac r id)
 disj:∀id id' b,Sf id b→Sf id' b→id=id'
 nb:∀id b,Sf id b→¬B b
 xb:∀b,X b→¬B b
 xd:∀id b,X b→¬Sf id b
 inB:∀b,B b→b<w.heap.size
 inX:∀b,X b→b<w.heap.size
 own:∀id b,Sf id b→c.L0 b∨c.w0.heap.size≤b
 ownX:∀b,X b→c.L0 b∨c.w0.heap.size≤b
 old:∀b,c.B0 b→B b
 sh:∀b,B b→c.B0 b∨c.L0 b∨c.w0.heap.size≤b
 size:c.w0.heap.size≤w.heap.size
 frame:∀b,b<c.w0.heap.size→¬c.L0 b→w.heap[b]? =c.w0.heap[b]?
 os:w.os=c.w0.os
 tape:w.tape=c.w0.tape
 output:w.output=c.w0.output
theorem E5.tabs {c:Ctx} {w:World} {B:Nat→Prop} {ρ:Id→HG} {Sf:Id→Nat→Prop} {X:Nat→Prop} {r:R} (h:E5 c w B ρ Sf X r):c.G.ok B w:=
 c.G.mono c.hG h.old fun b hb=>h.frame b (c.hB b hb) fun hl=>c.hL b hl hb
theorem DA {r:R} {id:Id} (h:Ac r id≠ .dead):Au r id:=by
 unfold Au
 rcases Nat.lt_or_ge id.2 (r.getD id.1 []).length with h'|h'
 ·exact h'
 ·exfalso
  apply h
  simp only[Ac,List.getD]at h' ⊢
  rw[List.getElem?_eq_none h']
  rfl
theorem A2G {r:R} {id:Id} (h:Au r id):id.1<r.length:=by
 unfold Au at h
 rcases Nat.lt_or_ge id.1 r.length with h'|h'
 ·exact h'
 ·simp[List.getD,List.getElem?_eq_none h']at h
theorem Pe {r:R} {id:Id} (e:FA) (t:Nat):(C3 r id e).getD t []=if t=id.1 then(r.getD t []).set id.2 e else r.getD t []:=by
 simp only[C3,List.getD,List.getElem?_set]
 by_cases h:id.1=t
 ·subst h
  simp only[if_true]
  split
  ·simp
  ·rename_i h'
   rw[List.getElem?_eq_none (by omega)]
   simp
 ·rw[if_neg h,if_neg (fun e=>h e.symm)]
theorem AR {r:R} {id:Id} (h:Au r id) (e:FA):Ac (C3 r id e) id=e:=by
 simp only[Ac,Pe,if_true]
 simp[List.getD,List.getElem?_set,Au]at h ⊢
 simp[h]
theorem AX {r:R} {id id':Id} (h:id≠id') (e:FA):Ac (C3 r id e) id'=Ac r id':=by
 simp only[Ac,Pe]
 split
 ·rename_i h1
  have h2:id.2≠id'.2:=fun h2=>h (Prod.ext h1.symm h2)
  simp[List.getD,List.getElem?_set,h2]
 ·rfl
theorem Hw {r:R} {id id':Id} (e:FA):Au (C3 r id e) id'↔Au r id':=by
 unfold Au
 rw[Pe]
 split<;>simp
theorem Bu {r:R} {id:Id} (e:FA):(C3 r id e).length=r.length:=by simp[C3]
end TT
namespace TT
open Go
theorem pe (rows:Rows) (I C:Nat) (t:T) (i:Nat):(ID rows I C t)[i]? =if i=I then(rows[i]?).map (·.set C t)else rows[i]? :=by
 unfold ID
 cases h:rows[I]? with
 |none=>
  simp only[]
  by_cases e:i=I
  ·subst e;simp[h]
  ·simp[e]
 |some row=>
  simp only[]
  rw[List.getElem?_set]
  by_cases e:I=i
  ·subst e
   obtain⟨h1,h2⟩:=List.getElem?_eq_some_iff.1 h
   simp[h1,h2]
  ·rw[if_neg e,if_neg (fun e'=>e e'.symm)]
theorem Tc {rows:Rows} {I C:Nat} {t:T} {i:Nat} {row':List T} (h:(ID rows I C t)[i]? =some row'):
  ∃row,rows[i]? =some row∧row.length=row'.length∧∀c,row'[c]? =row[c]?∨(i=I∧c=C∧row'[c]? =some t):=by
 rw[pe]at h
 split at h
 ·rename_i e
  obtain⟨row,h1,h2⟩:=Option.map_eq_some_iff.1 h
  refine⟨row,h1,by rw[←h2];simp,fun c=> ?_⟩
  rw[←h2,List.getElem?_set]
  by_cases ec:C=c
  ·subst ec
   by_cases hl:C<row.length
   ·exact .inr ⟨e,rfl,by simp[hl]⟩
   ·left;simp[hl]
  ·left;rw[if_neg ec]
 ·exact⟨row',h,rfl,fun c=> .inl rfl⟩
theorem jw {rows:Rows} {I C:Nat} {t:T} {i:Nat} {row:List T} (h:rows[i]? =some row):∃row',(ID rows I C t)[i]? =some row'∧row'.length=row.length:=by
 rw[pe]
 split
 ·exact⟨row.set C t,by simp[h],by simp⟩
 ·exact⟨row,h,rfl⟩
theorem Vk : ∀ (p P:Path) {rows:Rows} {I C:Nat} {t:T} {rs':Rows},t.isOwn=false→D5 (Bn rows P I C t) p=some rs'→
  ∃rs,D5 rows p=some rs∧rs.length=rs'.length∧(∀(i:Nat) row',rs'[i]? =some row'→∃row,rs[i]? =some row∧row.length=row'.length∧∀(c:Nat) z',row'[c]? =some (.sl true z')→∃z,row[c]? =some (.sl true z)∧z.length=z'.length)∧
   ∀w q i c b k,Bb w q rows p i c b k→Bb w q (Bn rows P I C t) p i c b k
 | [],[],rows,I,C,t,rs',ht,h=>by
  simp only[Bn,D5,oi]at h
  subst h
  refine⟨rows,rfl,(Su ..).symm, ?_, ?_⟩
  ·intro i row' hr
   obtain⟨row,h1,h2,h3⟩:=Tc hr
   refine⟨row,h1,h2,fun c z' hz=> ?_⟩
   rcases h3 c with h4|⟨_,_,h4⟩
   ·exact⟨z',by rw[←h4];exact hz,rfl⟩
   ·rw[h4]at hz;simp only[oi]at hz;subst hz;simp[T.isOwn]at ht
  ·rintro w q i c b k ⟨g1,row,g2,g3,g4⟩
   obtain⟨row',h1,h2⟩:=jw (I:=I) (C:=C) (t:=t) g2
   exact⟨g1,row',h1,by omega,by rw[h2];exact g4⟩
 | [],(I0,C0)::P,rows,I,C,t,rs',ht,h=>by
  simp only[D5,oi]at h
  subst h
  simp only[Bn]
  split
  ·rename_i rows1 hrc
   refine⟨rows,rfl,(Su ..).symm, ?_, ?_⟩
   ·intro i row' hr
    obtain⟨row,h1,h2,h3⟩:=Tc hr
    refine⟨row,h1,h2,fun c z' hz=> ?_⟩
    rcases h3 c with h4|⟨e1,e2,h4⟩
    ·exact⟨z',by rw[←h4];exact hz,rfl⟩
    ·subst e1;subst e2
     rw[h4]at hz
     simp only[oi,T.sl.injEq,true_and]at hz
     subst hz
     obtain⟨row0,g1,g2⟩:=Option.bind_eq_some_iff.1 hrc
     rw[h1]at g1
     cases g1
     exact⟨rows1,g2,by rw[BZ]⟩
   ·rintro w q i c b k ⟨g1,row,g2,g3,g4⟩
    obtain⟨row',h1,h2⟩:=jw (I:=I0) (C:=C0) (t:= .sl true (Bn rows1 P I C t)) g2
    exact⟨g1,row',h1,by omega,by rw[h2];exact g4⟩
  ·exact⟨rows,rfl,rfl,fun i row' hr=>⟨row',hr,rfl,fun c z' hz=>⟨z',hz,rfl⟩⟩,fun w q i c b k hh=>hh⟩
 |(i0,c0)::p,P,rows,I,C,t,rs',ht,h=>by
  simp only[D5]at h
  cases hrc':(Bn rows P I C t)[i0]?.bind (·[c0]?)with
  |none=>simp[hrc']at h
  |some x=>
   rw[hrc']at h
   cases x with
   |v x=>simp at h
   |hole=>simp at h
   |pp _=>simp at h
   |fn _ _=>simp at h
   |sl own rows1'=>
    cases own with
    |false=>simp at h
    |true=>
     simp only[]at h
     obtain⟨row',hr',hc'⟩:=Option.bind_eq_some_iff.1 hrc'
     have key:∃row rows1,rows[i0]? =some row∧row.length=row'.length∧row[c0]? =some (.sl true rows1)∧
       (rows1'=rows1∨∃P1,rows1'=Bn rows1 P1 I C t):=by
      cases P with
      |nil=>
       simp only[Bn]at hr'
       obtain⟨row,h1,h2,h3⟩:=Tc hr'
       rcases h3 c0 with h4|⟨_,_,h4⟩
       ·exact⟨row,rows1',h1,h2,by rw[←h4];exact hc', .inl rfl⟩
       ·rw[h4]at hc';simp only[oi]at hc';subst hc';simp[T.isOwn]at ht
      |cons IC P=>
       obtain⟨I0,C0⟩:=IC
       simp only[Bn]at hr'
       split at hr'
       ·rename_i rowsP hP
        obtain⟨row,h1,h2,h3⟩:=Tc hr'
        rcases h3 c0 with h4|⟨e1,e2,h4⟩
        ·exact⟨row,rows1',h1,h2,by rw[←h4];exact hc', .inl rfl⟩
        ·subst e1;subst e2
         rw[h4]at hc'
         simp only[oi,T.sl.injEq,true_and]at hc'
         obtain⟨row0,g1,g2⟩:=Option.bind_eq_some_iff.1 hP
         rw[h1]at g1
         cases g1
         exact⟨row,rowsP,h1,h2,g2, .inr ⟨P,hc'.symm⟩⟩
       ·exact⟨row',rows1',hr',rfl,hc', .inl rfl⟩
     obtain⟨row,rows1,k1,k2,k3,k4⟩:=key
     have hget:∀p',D5 rows ((i0,c0)::p')=D5 rows1 p':=fun p'=>by
      have:rows[i0]?.bind (·[c0]?)=some (.sl true rows1):=by rw[k1];exact k3
      simp only[D5,this]
     rcases k4 with k4|⟨P1,k4⟩
     ·subst k4
      refine⟨rs',by rw[hget];exact h,rfl,fun i row' hr=>⟨row',hr,rfl,fun c z' hz=>⟨z',hz,rfl⟩⟩, ?_⟩
      rintro w q i c b k ⟨b0,rw_,rws,q1,n1,cap1,g1,g2,g3,g4,g5⟩
      rw[k1]at g2;cases g2
      rw[k3]at g3;cases g3
      exact⟨b0,row',rows1',q1,n1,cap1,g1,hr',hc',by rw[←k2];exact g4,g5⟩
     ·subst k4
      obtain⟨rs,m1,m2,m3,m4⟩:=Vk p P1 ht h
      refine⟨rs,by rw[hget];exact m1,m2,m3, ?_⟩
      rintro w q i c b k ⟨b0,rw_,rws,q1,n1,cap1,g1,g2,g3,g4,g5⟩
      rw[k1]at g2;cases g2
      rw[k3]at g3;cases g3
      exact⟨b0,row',_,q1,n1,cap1,g1,hr',hc',by rw[←k2];exact g4,m4 w q1 i c b k g5⟩
theorem A0H {p P:Path} {rows:Rows} {I C i c:Nat} {t:T} {z':Rows} (ht:t.isOwn=false) (h:CR (Bn rows P I C t) p i c=some (.sl true z')):
  ∃z,CR rows p i c=some (.sl true z)∧z.length=z'.length:=by
 simp only[CR]at h
 obtain⟨rs',h1,h2⟩:=Option.bind_eq_some_iff.1 h
 obtain⟨row',h3,h4⟩:=Option.bind_eq_some_iff.1 h2
 obtain⟨rs,m1,_,m3,_⟩:=Vk p P ht h1
 obtain⟨row,n1,_,n3⟩:=m3 i row' h3
 obtain⟨z,n4,n5⟩:=n3 c z' h4
 exact⟨z,by simp only[CR,m1,Option.bind_some,n1,n4],n5⟩
theorem Xt.of_same {ρ:Id→HG} {r r':R} (h:∀id rows stt fx,Ac r' id= .mem rows stt fx→∃rows0 stt0 fx0,Ac r id= .mem rows0 stt0 fx0∧rows0.length=rows.length) {id:Id} {n:Nat} {u:Value} (hh:Xt ρ r id n u):Xt ρ r' id n u:=by
 intro rows stt fx hg
 obtain⟨rows0,stt0,fx0,h1,h2⟩:=h id rows stt fx hg
 have:=hh rows0 stt0 fx0 h1
 exact⟨by omega,fun e=>this.2 (by omega)⟩
section
variable {w w':World} {B B':Nat→Prop} {ρ:Id→HG} {r:R} {id0:Id}
theorem tx {e:FA} (he:∀rows stt fx,e≠ .mem rows stt fx) {v:V} {u:Value} (h:A6 w B ρ r v u):A6 w B ρ (C3 r id0 e) v u:=by
 have hT:∀id,Au r id→Au (C3 r id0 e) id:=fun id h=>(Hw e).2 h
 have hg:∀id,Au r id→∀rows stt fx,Ac (C3 r id0 e) id= .mem rows stt fx→Ac r id= .mem rows stt fx:=by
  intro id ht rows stt fx h
  by_cases e1:id0=id
  ·subst e1;rw[AR ht]at h;exact absurd h (he rows stt fx)
  ·rwa [AX e1]at h
 exact A6.turn (fun _ h=>h) (fun _ _=>rfl) hT (fun id n u ht hh rows stt fx h=>hh rows stt fx (hg id ht _ _ _ h))
  (fun id p i c n st u ht hh rows stt fx h=>hh rows stt fx (hg id ht _ _ _ h)) (fun id p i off n st a ht hh rows stt fx h=>hh rows stt fx (hg id ht _ _ _ h)) (fun id st us ht hh rows stt fx h=>hh rows stt fx (hg id ht _ _ _ h)) h
theorem gM {rows:Rows} {stt:Nat} {fx fx':Bool} (h0:Ac r id0= .mem rows stt fx) {P:Path} {I C:Nat} {t:T} (ht:t.isOwn=false) {v:V} {u:Value} (h:A6 w B ρ r v u):
  A6 w B ρ (C3 r id0 (.mem (Bn rows P I C t) stt fx')) v u:=by
 have hth:Au r id0:=DA (by rw[h0];simp)
 have hT:∀id,Au r id→Au (C3 r id0 (.mem (Bn rows P I C t) stt fx')) id:=fun id h=>(Hw _).2 h
 refine A6.turn (fun _ h=>h) (fun _ _=>rfl) hT ?_ ?_ ?_ ?_ h
 ·intro id n u _ hh
  refine Xt.of_same (fun id rows' stt' fx'' hg=> ?_) hh
  by_cases e1:id0=id
  ·subst e1;rw[AR hth]at hg;cases hg;exact⟨_,_,_,h0,(BZ ..).symm⟩
  ·rw[AX e1]at hg;exact⟨_,_,_,hg,rfl⟩
 ·intro id p i c n st u _ hh rows' stt' fx'' hg
  by_cases e1:id0=id
  ·subst e1;rw[AR hth]at hg;cases hg
   obtain⟨g1,g2⟩:=hh _ _ _ h0
   refine⟨g1,fun e=>⟨by rw[BZ];exact(g2 e).1,fun rs hrs hl=> ?_⟩⟩
   obtain⟨z,z1,z2⟩:=A0H ht hrs
   obtain⟨b,k,l1,l2⟩:=(g2 e).2 z z1 (by omega)
   simp only[CR]at hrs
   obtain⟨rs',y1,_⟩:=Option.bind_eq_some_iff.1 hrs
   obtain⟨_,_,_,_,y5⟩:=Vk p P ht y1
   exact⟨b,k,y5 _ _ _ _ _ _ l1,l2⟩
  ·rw[AX e1]at hg;exact hh _ _ _ hg
 ·intro id p i off n st a _ hh rows' stt' fx'' hg
  by_cases e1:id0=id
  ·subst e1;rw[AR hth]at hg;cases hg
   obtain⟨g1,g2,g3⟩:=hh _ _ _ h0
   refine⟨fun e=>by rw[BZ];exact g1 e,g2,fun e e'=> ?_⟩
   obtain⟨g4,g5⟩:=g3 (fun q=>by have:=e q;rw[BZ]at this;exact this) e'
   refine⟨fun q=>by rw[BZ];exact g4 q,fun row hrow hlt=> ?_⟩
   obtain⟨rs',y1,y2⟩:=Option.bind_eq_some_iff.1 hrow
   obtain⟨rs,z1,_,z3,z4⟩:=Vk p P ht y1
   obtain⟨row0,x1,x2,_⟩:=z3 i row y2
   obtain⟨b,k,l1,l2⟩:=g5 row0 (by rw[z1];exact x1) (by omega)
   exact⟨b,k,z4 _ _ _ _ _ _ l1,l2⟩
  ·rw[AX e1]at hg;exact hh _ _ _ hg
 ·intro id st us _ hh rows' stt' fx'' hg
  by_cases e1:id0=id
  ·subst e1;rw[AR hth]at hg;cases hg
   obtain⟨g1,g2,g3⟩:=hh _ _ _ h0
   refine⟨by rw[BZ];exact g1,g2,fun e e'=> ?_⟩
   obtain⟨row,b,rfl,z2,z3⟩:=g3 e (by rw[BZ]at e';exact e')
   have hl:(Bn [row] P I C t).length=1:=BZ ..
   match hrows:Bn [row] P I C t,hl with
   | [row'],_=>
    obtain⟨rs,w1,_,w3,_⟩:=Vk [] P (rows:=[row]) (I:=I) (C:=C) (rs':=[row']) ht (by rw[hrows];rfl)
    simp only[D5,oi]at w1
    subst w1
    obtain⟨row0,y1,y2,_⟩:=w3 0 row' rfl
    simp only[List.getElem?_cons_zero,oi]at y1
    subst y1
    exact⟨row',b,rfl,by omega,z3⟩
  ·rw[AX e1]at hg;exact hh _ _ _ hg
theorem Bb.same {S:Nat→Prop}:∀(p:Path) {q:Option Addr} {cap:Nat} {rows:Rows} {S:Nat→Prop} {i c b k:Nat},H1 w B q cap rows S→Fx S w w'→Bb w q rows p i c b k→Bb w' q rows p i c b k
 | [],q,cap,rows,S,i,c,b,k,_,_,h=>h
 |(i0,c0)::p,q,cap,rows,S,i,c,b,k,ho,hs,h=>by
  obtain⟨b0,row,rows1,q1,n1,cap1,g1,g2,g3,g4,g5⟩:=h
  have hgc:CR rows [] i0 c0=some (.sl true rows1):=by simp only[CR,D5,Option.bind_some,g2,g3]
  obtain⟨b',k',cur,e,u,S1,S2,l1,l2,l3,l4,l5,l6,l7,_⟩:=H1.lens [] ho hgc
  obtain⟨e1,row',e2,e3,e4⟩:=l1
  rw[g1]at e1
  simp only[oi,Addr.mk.injEq,and_true]at e1
  subst e1
  rw[g2]at e2;cases e2
  have hc:w.cell? ⟨b0,i0*row.length+c0,none⟩=some u:=by rw[l2.cell _,←e4];exact l3
  rw[hc]at g4
  simp only[oi]at g4
  subst g4
  obtain⟨q2,cap2,he,hs1⟩:=FM.1 l5
  injection he with e5 e6 e7
  subst e5
  refine⟨b0,row,rows1,q1,n1,cap1,g1,g2,g3,by rw[Et (hs b0 (l6.right l7))];exact hc, ?_⟩
  exact Bb.same (S:=S1) p hs1 (fun x hx=>hs x (l6.left hx)) g5
end
end TT
namespace TT
open Go
theorem Bb.unique {w:World}:∀(p:Path) {q:Option Addr} {rows:Rows} {i c b k b' k':Nat},Bb w q rows p i c b k→Bb w q rows p i c b' k'→b=b'∧k=k'
 | [],q,rows,i,c,b,k,b',k',⟨h1,row,h2,h3,h4⟩,⟨g1,row',g2,g3,g4⟩=>by
  rw[h1]at g1
  simp only[oi,Addr.mk.injEq,and_true]at g1
  rw[h2]at g2;cases g2
  exact⟨g1,by omega⟩
 |(i0,c0)::p,q,rows,i,c,b,k,b',k',⟨b0,row,rows1,q1,n1,cap1,h1,h2,h3,h4,h5⟩,⟨b0',row',rows1',q1',n1',cap1',g1,g2,g3,g4,g5⟩=>by
  rw[h1]at g1
  simp only[oi,Addr.mk.injEq,and_true]at g1
  subst g1
  rw[h2]at g2;cases g2
  rw[h3]at g3;cases g3
  rw[h4]at g4;cases g4
  exact Bb.unique p h5 g5
section
variable {w w':World} {B B':Nat→Prop} {ρ ρ':Id→HG} {r r':R} {id0:Id}
def jx (w w':World) (B:Nat→Prop) (ρ:Id→HG) (r:R) (id:Id):Prop:=
 ∀rows stt fx,Ac r id= .mem rows stt fx→∃S,H1 w B (ρ id).1 (ρ id).2 rows S∧Fx S w w'
theorem X8.kept {id:Id} (hk:jx w w' B ρ r id) {p:Path} {i c n st:Nat} {u:Value} (h:X8 w ρ r id p i c n st u):X8 w' ρ r id p i c n st u:=by
 intro rows stt fx hg
 obtain⟨g1,g2⟩:=h rows stt fx hg
 obtain⟨S,o1,o2⟩:=hk rows stt fx hg
 refine⟨g1,fun e=>⟨(g2 e).1,fun rs hrs hl=> ?_⟩⟩
 obtain⟨b,k,l1,l2⟩:=(g2 e).2 rs hrs hl
 obtain⟨b',k',cur,ee,u',S1,S2,m1,m2,m3,m4,m5,m6,m7,_⟩:=H1.lens p o1 hrs
 obtain⟨rfl,rfl⟩:=Bb.unique p l1 m1
 refine⟨b,k,Bb.same (S:=S) p o1 o2 l1, ?_⟩
 rw[Et (o2 b (m6.right m7))]
 exact l2
theorem Vj.kept {id:Id} (hk:jx w w' B ρ r id) {p:Path} {i off n st:Nat} {a:Addr} (h:Vj w ρ r id p i off n st a):Vj w' ρ r id p i off n st a:=by
 intro rows stt fx hg
 obtain⟨g1,g2,g3⟩:=h rows stt fx hg
 obtain⟨S,o1,o2⟩:=hk rows stt fx hg
 refine⟨g1,g2,fun e e'=>⟨(g3 e e').1,fun row hr hl=> ?_⟩⟩
 obtain⟨b,k,l1,l2⟩:=(g3 e e').2 row hr hl
 exact⟨b,k,Bb.same (S:=S) p o1 o2 l1,l2⟩
theorem Rk.kept {id:Id} (hk:jx w w' B ρ r id) {st:Nat} {us:List Value} (h:Rk w ρ r id st us):Rk w' ρ r id st us:=by
 intro rows stt fx hg
 obtain⟨g1,g2,g3⟩:=h rows stt fx hg
 obtain⟨S,o1,o2⟩:=hk rows stt fx hg
 refine⟨g1,g2,fun e e'=> ?_⟩
 obtain⟨row,b,rfl,z2,z3,z4⟩:=g3 e e'
 refine⟨row,b,rfl,z2,z3,fun j u hj=> ?_⟩
 have hj':j<row.length:=by rw[z2];exact(List.getElem?_eq_some_iff.1 hj).1
 obtain⟨b',k',cur,ee,u',S1,S2,m1,m2,m3,m4,m5,m6,m7,_⟩:=H1.lens [] o1 (i:=0) (c:=j) (t:=row[j]) (by simp only[CR,D5,Option.bind_some,List.getElem?_cons_zero,List.getElem?_eq_getElem hj'])
 obtain⟨e1,_⟩:=m1
 rw[z3]at e1
 simp only[oi,Addr.mk.injEq,and_true]at e1
 subst e1
 rw[Et (o2 b (m6.right m7))]
 exact z4 j u hj
theorem EI (hB:∀b,B b→B' b) (hs:Fx B w w') (hk:∀id,jx w w' B ρ r id) {v:V} {u:Value} (h:A6 w B ρ r v u):A6 w' B' ρ r v u:=
 A6.turn hB hs (fun _ h=>h) (fun _ _ _ _ h=>h) (fun id _ _ _ _ _ _ _ h=>X8.kept (hk id) h) (fun id _ _ _ _ _ _ _ h=>Vj.kept (hk id) h) (fun id _ _ _ h=>Rk.kept (hk id) h) h
theorem NJ {rows rows':Rows} {stt stt':Nat} {fx fx':Bool} (h0:Ac r id0= .mem rows stt fx) (hl:rows'.length=rows.length)
  (hr:∀(i:Nat) (row':List T),rows'[i]? =some row'→∃row:List T,rows[i]? =some row∧row.length=row'.length) (hst:stt<stt')
  (hB:∀b,B b→B' b) (hs:Fx B w w') (hk:∀id,id≠id0→jx w w' B ρ r id) {v:V} {u:Value} (h:A6 w B ρ r v u):A6 w' B' ρ (C3 r id0 (.mem rows' stt' fx')) v u:=by
 have hth:Au r id0:=DA (by rw[h0];simp)
 refine A6.turn hB hs (fun id h=>(Hw _).2 h) ?_ ?_ ?_ ?_ h
 ·intro id n u _ hh
  refine Xt.of_same (fun id rows' stt' fx'' hg=> ?_) hh
  by_cases e1:id0=id
  ·subst e1;rw[AR hth]at hg;cases hg;exact⟨_,_,_,h0,hl.symm⟩
  ·rw[AX e1]at hg;exact⟨_,_,_,hg,rfl⟩
 ·intro id p i c n st u _ hh
  by_cases e1:id0=id
  ·subst e1
   intro rows1 stt1 fx1 hg
   rw[AR hth]at hg;cases hg
   obtain⟨g1,g2⟩:=hh _ _ _ h0
   exact⟨by omega,fun e=>by omega⟩
  ·have:=X8.kept (hk id (Ne.symm e1)) hh
   intro rows1 stt1 fx1 hg
   rw[AX e1]at hg
   exact this _ _ _ hg
 ·intro id p i off n st a _ hh
  by_cases e1:id0=id
  ·subst e1
   intro rows1 stt1 fx1 hg
   rw[AR hth]at hg;cases hg
   obtain⟨g1,g2,g3⟩:=hh _ _ _ h0
   refine⟨fun e=>by have:=g1 e;omega,fun e=>by have:=g2 e;omega,fun e e'=> ?_⟩
   cases p with
   |cons x p=>have:=g2 (by simp);have:=e' (by simp);omega
   |nil=>
    refine⟨fun q=>absurd rfl q,fun row' hrow hlt=> ?_⟩
    simp only[D5,Option.bind_some]at hrow
    obtain⟨row,r1,r2⟩:=hr i row' hrow
    obtain⟨_,g5⟩:=g3 (fun _=>by have:=e rfl;omega) (fun q=>absurd rfl q)
    obtain⟨b,k,l1,l2⟩:=g5 row (by simp only[D5,Option.bind_some];exact r1) (by omega)
    obtain⟨x1,row1,x2,x3,x4⟩:=l1
    rw[r1]at x2;cases x2
    exact⟨b,k,⟨x1,row',hrow,hlt,by rw[←r2];exact x4⟩,l2⟩
  ·have:=Vj.kept (hk id (Ne.symm e1)) hh
   intro rows1 stt1 fx1 hg
   rw[AX e1]at hg
   exact this _ _ _ hg
 ·intro id st us _ hh
  by_cases e1:id0=id
  ·subst e1
   intro rows1 stt1 fx1 hg
   rw[AR hth]at hg;cases hg
   obtain⟨g1,g2,_⟩:=hh _ _ _ h0
   exact⟨by omega,by omega,fun e _=>by omega⟩
  ·intro rows1 stt1 fx1 hg
   rw[AX e1]at hg
   exact Rk.kept (hk id (Ne.symm e1)) hh _ _ _ hg
theorem RH {d:Nat} {es:List FA} (hd:d<r.length) (hr:r.getD d []=[]) {id:Id}:Ac (r.set d es) id=if id.1=d then es.getD id.2 .dead else Ac r id:=by
 simp only[Ac,List.getD,List.getElem?_set]
 by_cases h:d=id.1
 ·subst h;simp[hd]
 ·rw[if_neg h,if_neg (fun e=>h e.symm)]
theorem ed {d:Nat} {es:List FA} (hd:d<r.length) (hr:r.getD d []=[]) {id:Id} (h:Au r id):id.1≠d∧Au (r.set d es) id:=by
 have hne:id.1≠d:=fun e=>by subst e;unfold Au at h;rw[hr]at h;simp at h
 refine⟨hne, ?_⟩
 unfold Au at h ⊢
 simp only[List.getD,List.getElem?_set]at h ⊢
 rw[if_neg (fun e=>hne e.symm)]
 exact h
theorem bM {d:Nat} {es:List FA} (hd:d<r.length) (hr:r.getD d []=[]) (hρ:∀id:Id,id.1≠d→ρ' id=ρ id) {v:V} {u:Value} (h:A6 w B ρ r v u):A6 w B ρ' (r.set d es) v u:=by
 have hg:∀id,Au r id→∀rows stt fx,Ac (r.set d es) id= .mem rows stt fx→Ac r id= .mem rows stt fx:=by
  intro id ht rows stt fx h
  rw[RH hd hr,if_neg (ed (es:=es) hd hr ht).1]at h
  exact h
 have hq:∀id,Au r id→ρ' id=ρ id:=fun id ht=>hρ id (ed (es:=es) hd hr ht).1
 exact A6.turn (fun _ h=>h) (fun _ _=>rfl) (fun id ht=>(ed hd hr ht).2)
  (fun id n u ht hh rows stt fx h=>by rw[hq id ht];exact hh rows stt fx (hg id ht _ _ _ h))
  (fun id p i c n st u ht hh rows stt fx h=>by rw[hq id ht];exact hh rows stt fx (hg id ht _ _ _ h))
  (fun id p i off n st a ht hh rows stt fx h=>by rw[hq id ht];exact hh rows stt fx (hg id ht _ _ _ h)) (fun id st us ht hh rows stt fx h=>by rw[hq id ht];exact hh rows stt fx (hg id ht _ _ _ h)) h
theorem gN {rows new rs:Rows} {i0 c0:Nat} {p:Path} (h:i0<rows.length):D5 (rows++new) ((i0,c0)::p)=D5 rows ((i0,c0)::p):=by
 simp only[D5,List.getElem?_append_left h]
theorem tz {rows new:Rows} {p:Path} {i c:Nat} (h:ju p i<rows.length):CR (rows++new) p i c=CR rows p i c:=by
 cases p with
 |nil=>simp only[ju]at h;simp only[CR,D5,Option.bind_some,List.getElem?_append_left h]
 |cons x p=>obtain⟨i0,c0⟩:=x;simp only[ju]at h;simp only[CR,gN (rs:=[]) h]
theorem gO {rows new:Rows} {stt:Nat} {fx fx':Bool} {q':Option Addr} {cap':Nat} (h0:Ac r id0= .mem rows stt fx)
  (hρ:∀id,id≠id0→ρ' id=ρ id) (h1:new=[]→ρ' id0=ρ id0)
  (hc:∀(i:Nat) row c,rows[i]? =some row→c<row.length→∀b,(ρ id0).1=some ⟨b,0,none⟩→∃b',(ρ' id0).1=some ⟨b',0,none⟩∧w'.cell? ⟨b',i*row.length+c,none⟩=w.cell? ⟨b,i*row.length+c,none⟩)
  (hB:∀b,B b→B' b) (hs:Fx B w w') (hk:∀id,id≠id0→jx w w' B ρ r id)
  (hn:∀(i c:Nat) rows1,CR rows [] i c=some (.sl true rows1)→∃q1 cap1 S1 b k,Bb w (ρ id0).1 rows [] i c b k∧w.cell? ⟨b,k,none⟩=some (.slice q1 rows1.length cap1)∧H1 w B q1 cap1 rows1 S1∧Fx S1 w w')
  {v:V} {u:Value} (h:A6 w B ρ r v u):A6 w' B' ρ' (C3 r id0 (.mem (rows++new) stt fx')) v u:=by
 have hth:Au r id0:=DA (by rw[h0];simp)
 have deep:∀(i0 c0:Nat) (p:Path) (i c b k:Nat),Bb w (ρ id0).1 rows ((i0,c0)::p) i c b k→Bb w' (ρ' id0).1 (rows++new) ((i0,c0)::p) i c b k∧
   ∀rs,CR rows ((i0,c0)::p) i c=some (.sl true rs)→w'.cell? ⟨b,k,none⟩=w.cell? ⟨b,k,none⟩:=by
  intro i0 c0 p i c b k hl
  obtain⟨b0,row,rows1,q1,n1,cap1,g1,g2,g3,g4,g5⟩:=hl
  have hgc:CR rows [] i0 c0=some (.sl true rows1):=by simp only[CR,D5,Option.bind_some,g2,g3]
  obtain⟨q2,cap2,S1,b2,k2,m1,m2,m3,m4⟩:=hn i0 c0 rows1 hgc
  obtain⟨y1,row',y2,y3,y4⟩:=m1
  rw[g1]at y1
  simp only[oi,Addr.mk.injEq,and_true]at y1
  subst y1
  rw[g2]at y2;cases y2
  subst y4
  rw[g4]at m2
  simp only[oi,Value.slice.injEq]at m2
  obtain⟨e1,e2,e3⟩:=m2
  subst e1
  obtain⟨b',z1,z2⟩:=hc i0 row c0 g2 y3 b0 g1
  have hlt:i0<rows.length:=(List.getElem?_eq_some_iff.1 g2).1
  refine⟨⟨b',row,rows1,q1,n1,cap1,z1,by rw[List.getElem?_append_left hlt];exact g2,g3,by rw[z2];exact g4,Bb.same (S:=S1) p m3 m4 g5⟩,fun rs hrs=> ?_⟩
  have hrc:rows[i0]?.bind (·[c0]?)=some (.sl true rows1):=by rw[g2];exact g3
  simp only[CR,D5,hrc]at hrs
  obtain⟨b3,k3,cur,ee,u',S3,S4,x1,x2,x3,x4,x5,x6,x7,_⟩:=H1.lens p m3 (i:=i) (c:=c) (t:= .sl true rs) (by simpa only[CR] using hrs)
  obtain⟨rfl,rfl⟩:=Bb.unique p g5 x1
  exact Et (m4 b (x6.right x7)) k
 refine A6.turn hB hs (fun id h=>(Hw _).2 h) ?_ ?_ ?_ ?_ h
 ·intro id n u _ hh
  by_cases e1:id0=id
  ·subst e1
   intro rows1 stt1 fx1 hg
   rw[AR hth]at hg;cases hg
   obtain⟨g1,g2⟩:=hh _ _ _ h0
   refine⟨by simp;omega,fun e=> ?_⟩
   simp only[List.length_append]at e
   have hnew:new=[]:=List.eq_nil_of_length_eq_zero (by omega)
   rw[h1 hnew]
   exact g2 (by omega)
  ·intro rows1 stt1 fx1 hg
   rw[AX e1]at hg
   rw[hρ id (Ne.symm e1)]
   exact hh _ _ _ hg
 ·intro id p i c n st u _ hh
  by_cases e1:id0=id
  ·subst e1
   intro rows1 stt1 fx1 hg
   rw[AR hth]at hg;cases hg
   obtain⟨g1,g2⟩:=hh _ _ _ h0
   refine⟨g1,fun e=>⟨by have:=(g2 e).1;simp;omega,fun rs hrs hl=> ?_⟩⟩
   rw[tz (g2 e).1]at hrs
   obtain⟨b,k,l1,l2⟩:=(g2 e).2 rs hrs hl
   cases p with
   |cons x p=>
    obtain⟨i0,c0⟩:=x
    obtain⟨d1,d2⟩:=deep i0 c0 p i c b k l1
    exact⟨b,k,d1,by rw[d2 rs hrs];exact l2⟩
   |nil=>
    obtain⟨y1,row,y2,y3,y4⟩:=l1
    obtain⟨b',z1,z2⟩:=hc i row c y2 y3 b y1
    have hlt:i<rows.length:=(List.getElem?_eq_some_iff.1 y2).1
    exact⟨b',k,⟨z1,row,by rw[List.getElem?_append_left hlt];exact y2,y3,y4⟩,by rw[y4,z2,←y4];exact l2⟩
  ·have:=X8.kept (hk id (Ne.symm e1)) hh
   intro rows1 stt1 fx1 hg
   rw[AX e1]at hg
   rw[hρ id (Ne.symm e1)]
   exact this _ _ _ hg
 ·intro id p i off n st a _ hh
  by_cases e1:id0=id
  ·subst e1
   intro rows1 stt1 fx1 hg
   rw[AR hth]at hg;cases hg
   obtain⟨g1,g2,g3⟩:=hh _ _ _ h0
   refine⟨fun e=>by have:=g1 e;simp;omega,g2,fun e e'=> ?_⟩
   cases p with
   |cons x p=>
    obtain⟨i0,c0⟩:=x
    obtain⟨g4,g5⟩:=g3 (fun q=>by cases q) e'
    have hlt:=g4 (by simp)
    refine⟨fun _=>by simp;omega,fun row hrow hl=> ?_⟩
    rw[gN (rs:=[]) (by simpa [ju] using hlt)]at hrow
    obtain⟨b,k,l1,l2⟩:=g5 row hrow hl
    exact⟨b,k,(deep i0 c0 p i off b k l1).1,l2⟩
   |nil=>
    have en:=e rfl
    simp only[List.length_append]at en
    have:=g1 rfl
    have hnew:new=[]:=List.eq_nil_of_length_eq_zero (by omega)
    obtain⟨_,g5⟩:=g3 (fun _=>by omega) (fun q=>absurd rfl q)
    refine⟨fun q=>absurd rfl q,fun row hrow hl=> ?_⟩
    rw[hnew,List.append_nil]at hrow
    obtain⟨b,k,l1,l2⟩:=g5 row hrow hl
    rw[hnew,List.append_nil,h1 hnew]
    exact⟨b,k,l1,l2⟩
  ·have:=Vj.kept (hk id (Ne.symm e1)) hh
   intro rows1 stt1 fx1 hg
   rw[AX e1]at hg
   rw[hρ id (Ne.symm e1)]
   exact this _ _ _ hg
 ·intro id st us _ hh
  by_cases e1:id0=id
  ·subst e1
   intro rows1 stt1 fx1 hg
   rw[AR hth]at hg;cases hg
   obtain⟨g1,g2,g3⟩:=hh _ _ _ h0
   refine⟨by simp;omega,g2,fun e e'=> ?_⟩
   simp only[List.length_append]at e'
   have hnew:new=[]:=List.eq_nil_of_length_eq_zero (by omega)
   obtain⟨row,b,rfl,z2,z3,z4⟩:=g3 e (by omega)
   rw[hnew,h1 hnew]
   refine⟨row,b,rfl,z2,z3,fun j u hj=> ?_⟩
   have hj':j<row.length:=by rw[z2];exact(List.getElem?_eq_some_iff.1 hj).1
   obtain⟨b',y1,y2⟩:=hc 0 row j rfl hj' b z3
   rw[h1 hnew,z3]at y1
   simp only[oi,Addr.mk.injEq,and_true]at y1
   subst y1
   simp only[Nat.zero_mul,Nat.zero_add]at y2
   rw[y2]
   exact z4 j u hj
  ·intro rows1 stt1 fx1 hg
   rw[AX e1]at hg
   rw[hρ id (Ne.symm e1)]
   exact Rk.kept (hk id (Ne.symm e1)) hh _ _ _ hg
end
end TT
namespace TT
open Go
structure PW (w:World) (B:Nat→Prop) (ρ:Id→HG) (r r':R):Prop where
 claims:∀v u,A6 w B ρ r v u→A6 w B ρ r' v u
 len:∀t,(r'.getD t []).length=(r.getD t []).length
 size:r'.length=r.length
theorem PW.refl (w:World) (B:Nat→Prop) (ρ:Id→HG) (r:R):PW w B ρ r r:=⟨fun _ _ h=>h,fun _=>rfl,rfl⟩
theorem PW.trans {w:World} {B:Nat→Prop} {ρ:Id→HG} {r r' r'':R} (h:PW w B ρ r r') (h':PW w B ρ r' r''):PW w B ρ r r'':=
 ⟨fun v u hh=>h'.claims v u (h.claims v u hh),fun t=>(h'.len t).trans (h.len t),h'.size.trans h.size⟩
theorem Xu {r:R} {id:Id} (e:FA) (t:Nat):((C3 r id e).getD t []).length=(r.getD t []).length:=by
 rw[Pe];split<;>simp
section
variable {c:Ctx} {w:World} {B:Nat→Prop} {ρ:Id→HG} {Sf:Id→Nat→Prop} {X:Nat→Prop} {r:R} {id0:Id}
theorem E5.mem (hI:E5 c w B ρ Sf X r) {rows:Rows} {stt:Nat} {fx:Bool} (h0:Ac r id0= .mem rows stt fx):H1 w B (ρ id0).1 (ρ id0).2 rows (Sf id0)∧(fx=true→ρ id0=c.q0 id0∧rows.length=c.n0 id0):=by
 have:=hI.ents id0
 rw[h0]at this
 exact this
theorem Rl.claims {r':R} (h:∀v u,A6 w B ρ r v u→A6 w B ρ r' v u) {id:Id} {S:Nat→Prop} {e:FA} (hh:Rl c w B ρ r id S e):Rl c w B ρ r' id S e:=by
 cases e with
 |dead=>exact hh
 |mem rows stt fx=>exact hh
theorem E5.gone (hI:E5 c w B ρ Sf X r) {rows:Rows} {stt:Nat} {fx:Bool} (h0:Ac r id0= .mem rows stt fx) {e:FA} (he:e= .dead):
  E5 c w B ρ (fun id b=>id≠id0∧Sf id b) (fun b=>X b∨Sf id0 b) (C3 r id0 e)∧PW w B ρ r (C3 r id0 e):=by
 have hne:∀rows stt fx,e≠ .mem rows stt fx:=by rw[he];simp
 have hth:Au r id0:=DA (by rw[h0];simp)
 have hst:PW w B ρ r (C3 r id0 e):=⟨fun v u h=>tx hne h,Xu e,Bu e⟩
 refine⟨?_,hst⟩
 constructor
 ·intro id
  by_cases e1:id0=id
  ·subst e1
   rw[AR hth]
   rw[he]
   exact fun b hb=>hb.1 rfl
  ·rw[AX e1]
   have h1:=Rl.claims hst.claims (hI.ents id)
   have heq:(fun b=>id≠id0∧Sf id b)=Sf id:=funext fun b=>propext ⟨fun h=>h.2,fun h=>⟨Ne.symm e1,h⟩⟩
   rw[heq];exact h1
 ·exact fun id id' b h h'=>hI.disj id id' b h.2 h'.2
 ·exact fun id b h=>hI.nb id b h.2
 ·exact fun b h=>h.elim (hI.xb b) (hI.nb id0 b)
 ·intro id b h h'
  rcases h with h|h
  ·exact hI.xd id b h h'.2
  ·exact h'.1 (hI.disj id id0 b h'.2 h)
 ·exact hI.inB
 ·intro b h
  rcases h with h|h
  ·exact hI.inX b h
  ·rcases(hI.mem h0).1 with ⟨_,_,_,h4⟩|⟨b',sz,e',cur,S',h3,h4,h5,h6,h7,h8,h9,h10⟩
   ·exact absurd h (h4 b)
   ·rcases(h9.1 b).1 h with rfl|h'
    ·exact h4.lt
    ·exact Cf.inHeap h10 b h'
 ·exact fun id b h=>hI.own id b h.2
 ·exact fun b h=>h.elim (hI.ownX b) (hI.own id0 b)
 ·exact hI.old
 ·exact hI.sh
 ·exact hI.size
 ·exact hI.frame
 ·exact hI.os
 ·exact hI.tape
 ·exact hI.output
theorem cT {cur:Array Value} {k:Nat} {u:Value} (h:cur[k]? =some u):cur.setIfInBounds k u=cur:=by
 apply Array.ext_getElem?
 intro i
 rw[Array.getElem?_setIfInBounds]
 by_cases e:k=i
 ·subst e
  have hlt:k<cur.size:=by
   rcases Nat.lt_or_ge k cur.size with h'|h'
   ·exact h'
   ·rw[Array.getElem?_eq_none h']at h;cases h
  rw[if_pos rfl,if_pos hlt];exact h.symm
 ·rw[if_neg e]
theorem E5.hole (hI:E5 c w B ρ Sf X r) {rows rs:Rows} {stt:Nat} {fx:Bool} (h0:Ac r id0= .mem rows stt fx) {p:Path} {i k:Nat} (hg:CR rows p i k=some (.sl true rs)):
  ∃b o u S1 S2,Bb w (ρ id0).1 rows p i k b o∧w.cell? ⟨b,o,none⟩=some u∧u.oneCell'=true∧Fb w B (.sl true rs) u S1∧BK (Sf id0) S1 S2∧
   E5 c w B ρ (fun id b=>(id≠id0∧Sf id b)∨(id=id0∧S2 b)) (fun b=>X b∨S1 b) (C3 r id0 (.mem (Bn rows p i k .hole) stt fx))∧
   PW w B ρ r (C3 r id0 (.mem (Bn rows p i k .hole) stt fx)):=by
 obtain⟨hm1,hm2⟩:=hI.mem h0
 obtain⟨b,o,cur,e,u,S1,S2,l1,l2,l3,l4,l5,l6,l7,l8⟩:=H1.lens p hm1 hg
 have hth:Au r id0:=DA (by rw[h0];simp)
 have hst:PW w B ρ r (C3 r id0 (.mem (Bn rows p i k .hole) stt fx)):=⟨fun v u h=>gM h0 rfl h,Xu _,Bu _⟩
 have hnew:=l8 w B .hole u (fun _=>False) (fun _ h=>h) (fun _ _=>rfl) (fun _ _ _=>rfl) (by rw[cT l3];exact l2) l4 (by simp only[Fb];exact fun b h=>h) (fun _ h=>h.elim)
 have hS2:(fun x=>False∨S2 x)=S2:=funext fun x=>by simp
 rw[hS2]at hnew
 refine⟨b,o,u,S1,S2,l1,by rw[l2.cell _];exact l3,l4,l5,l6, ?_,hst⟩
 have zR:∀x,S1 x→Sf id0 x:=fun x h=>l6.left h
 have sub2:∀x,S2 x→Sf id0 x:=fun x h=>l6.right h
 have sub:∀id x,((id≠id0∧Sf id x)∨(id=id0∧S2 x))→Sf id x:=fun id x h=>by
  rcases h with h|⟨h,h'⟩
  ·exact h.2
  ·subst h;exact sub2 x h'
 constructor
 ·intro id
  by_cases e1:id0=id
  ·subst e1
   rw[AR hth]
   have heq:(fun b=>(id0≠id0∧Sf id0 b)∨(id0=id0∧S2 b))=S2:=funext fun b=>propext ⟨fun h=>h.elim (fun h=>absurd rfl h.1) (fun h=>h.2),fun h=> .inr ⟨rfl,h⟩⟩
   rw[heq]
   exact⟨hnew,fun hf=>⟨(hm2 hf).1,by rw[BZ];exact(hm2 hf).2⟩⟩
  ·rw[AX e1]
   have heq:(fun b=>(id≠id0∧Sf id b)∨(id=id0∧S2 b))=Sf id:=funext fun b=>propext ⟨fun h=>sub id b h,fun h=> .inl ⟨Ne.symm e1,h⟩⟩
   rw[heq]
   exact Rl.claims hst.claims (hI.ents id)
 ·exact fun id id' b h h'=>hI.disj id id' b (sub _ _ h) (sub _ _ h')
 ·exact fun id b h=>hI.nb id b (sub _ _ h)
 ·exact fun b h=>h.elim (hI.xb b) (fun h=>hI.nb id0 b (zR b h))
 ·intro id x h h'
  rcases h with h|h
  ·exact hI.xd id x h (sub _ _ h')
  ·have e1:=hI.disj id id0 x (sub _ _ h') (zR x h)
   subst e1
   rcases h' with h'|h'
   ·exact h'.1 rfl
   ·exact l6.2 x h h'.2
 ·exact hI.inB
 ·exact fun b h=>h.elim (hI.inX b) (fun h=>Fb.inHeap l5 b h)
 ·exact fun id b h=>hI.own id b (sub _ _ h)
 ·exact fun b h=>h.elim (hI.ownX b) (fun h=>hI.own id0 b (zR b h))
 ·exact hI.old
 ·exact hI.sh
 ·exact hI.size
 ·exact hI.frame
 ·exact hI.os
 ·exact hI.tape
 ·exact hI.output
theorem E5.congrX {X':Nat→Prop} (hI:E5 c w B ρ Sf X r) (h:∀b,X b↔X' b):E5 c w B ρ Sf X' r:=by
 have:X=X':=funext fun b=>propext (h b)
 rwa [←this]
theorem cU {α:Type} {call:Ai} {d:Nat} {v:V} {u:Value} {k:T→M α} {x:α×R} (hrun:(take v k).run call d r=some x) (hI:E5 c w B ρ Sf X r) (hv:A6 w B ρ r v u):
  ∃t S Sf' r',(k t).run call d r'=some x∧Fb w B t u S∧u.oneCell'=true∧E5 c w B ρ Sf' (fun b=>X b∨S b) r'∧(∀b,S b→¬X b)∧PW w B ρ r r'∧(∀id b,Sf' id b→Sf id b):=by
 cases v with
 |t t=>
  simp only[take]at hrun
  simp only[A6]at hv
  refine⟨t,fun _=>False,Sf,r,hrun, ?_,hv.2,hI.congrX (fun b=>by simp),fun _ h=>h.elim,PW.refl ..,fun _ _ h=>h⟩
  cases t with
  |v x=>have:=hv.1;simp only[EV]at this;simp only[Fb];exact⟨this,fun _ h=>h⟩
  |sl o rows=>cases o with
   |false=>simp only[Fb];exact⟨hv.1,fun _ h=>h⟩
   |true=>have:=hv.1;simp only[EV]at this
  |hole=>simp only[Fb];exact fun _ h=>h
  |pp _=>simp only[Fb];exact⟨hv.1,fun _ h=>h⟩
  |fn _ _=>simp only[Fb];exact⟨hv.1,fun _ h=>h⟩
 |nil=>
  simp only[take]at hrun
  simp only[A6]at hv
  subst hv
  refine⟨.sl true [],fun _=>False,Sf,r,hrun, ?_,rfl,hI.congrX (fun b=>by simp),fun _ h=>h.elim,PW.refl ..,fun _ _ h=>h⟩
  simp only[Fb]
  exact⟨none,0,rfl, .inl ⟨rfl,rfl,trivial,fun _ h=>h⟩⟩
 |ref id n=>
  simp only[take,M.run]at hrun
  cases he:Ac r id with
  |dead=>rw[he]at hrun;simp[M.run]at hrun
  |mem rows stt fx=>
   rw[he]at hrun
   simp only at hrun
   split at hrun
   ·rename_i hl
    simp only[M.run]at hrun
    obtain⟨h1,h2⟩:=hI.gone he (e:= .dead) rfl
    simp only[A6]at hv
    have hu:=(hv.2.2 rows stt fx he).2 hl
    obtain⟨hm,_⟩:=hI.mem he
    refine⟨.sl true rows,Sf id,_,_,hrun,FM.2 ⟨_,_,by rw[hl];exact hu,hm⟩,by rw[hu];rfl,h1,fun b h h'=>hI.xd id b h' h,h2,fun _ _ h=>h.2⟩
   ·simp[M.run]at hrun
 |sub id p i ci n st=>
  simp only[take,M.run]at hrun
  cases he:Ac r id with
  |dead=>rw[he]at hrun;simp[M.run]at hrun
  |mem rows stt fx=>
   rw[he]at hrun
   simp only at hrun
   split at hrun
   ·rename_i hs
    cases hc:CR rows p i ci with
    |none=>rw[hc]at hrun;simp[M.run]at hrun
    |some t=>
     rw[hc]at hrun
     cases t with
     |v x=>simp[M.run]at hrun
     |hole=>simp[M.run]at hrun
     |pp _=>simp[M.run]at hrun
     |fn _ _=>simp[M.run]at hrun
     |sl o rs=>cases o with
      |false=>simp[M.run]at hrun
      |true=>
       simp only at hrun
       split at hrun
       ·rename_i hl
        simp only[M.run]at hrun
        obtain⟨b,o,u',S1,S2,l1,l2,l3,l4,l5,l6,l7⟩:=hI.hole he hc
        simp only[A6]at hv
        obtain⟨b',o',m1,m2⟩:=((hv.2.2 rows stt fx he).2 hs).2 rs hc hl
        obtain⟨rfl,rfl⟩:=Bb.unique p l1 m1
        rw[l2]at m2
        simp only[oi]at m2
        subst m2
        refine⟨.sl true rs,S1,_,_,hrun,l4,l3,l6,fun x h h'=>hI.xd id x h' (l5.left h),l7, ?_⟩
        rintro id' x (h|⟨h,h'⟩)
        ·exact h.2
        ·subst h;exact l5.right h'
       ·simp[M.run]at hrun
   ·simp[M.run]at hrun
 |agg cs=>simp[take,M.run]at hrun
 |ptr id p i off n st=>simp[take,M.run]at hrun
 |pp cs=>
  simp only[take]at hrun
  simp only[A6]at hv
  refine⟨.pp cs,fun _=>False,Sf,r,hrun, ?_, ?_,hI.congrX (fun b=>by simp),fun _ h=>h.elim,PW.refl ..,fun _ _ h=>h⟩
  ·simp only[Fb,EV];exact⟨hv,fun _ h=>h⟩
  ·obtain⟨b,o,rfl,_⟩:=hv;rfl
 |fn f caps=>
  simp only[take]at hrun
  simp only[A6]at hv
  cases hc:jn caps with
  |none=>rw[hc]at hrun;simp[M.run]at hrun
  |some cs=>
   rw[hc]at hrun
   have hcs:=jv hc
   subst hcs
   obtain⟨us,rfl,hv⟩:=hv
   refine⟨.fn f cs,fun _=>False,Sf,r,hrun, ?_,rfl,hI.congrX (fun b=>by simp),fun _ h=>h.elim,PW.refl ..,fun _ _ h=>h⟩
   simp only[Fb,EV];exact⟨⟨us,rfl,hv.shPs⟩,fun _ h=>h⟩
 |tup vs=>simp[take,M.run]at hrun
 |vb id off st cs=>simp[take,M.run]at hrun
 |vw id lo hi n=>simp[take,M.run]at hrun
 |dead=>simp[take,M.run]at hrun
def CS (w:World) (B:Nat→Prop):List T→List Value→(Nat→Prop)→Prop
 | [],us,S=>us=[]∧Emp S
 |t::ts,us,S=>∃u us' S1 S2,us=u::us'∧u.oneCell'=true∧Fb w B t u S1∧CS w B ts us' S2∧BK S S1 S2
theorem Pf {α:Type} {call:Ai} {d:Nat}:∀{vs:List V} {us:List Value} {k:List T→M α} {x:α×R} {Sf:Id→Nat→Prop} {X:Nat→Prop} {r:R},(FN vs k).run call d r=some x→E5 c w B ρ Sf X r→AJ w B ρ r vs us→
  ∃ts S Sf' r',(k ts).run call d r'=some x∧CS w B ts us S∧E5 c w B ρ Sf' (fun b=>X b∨S b) r'∧(∀b,S b→¬X b)∧PW w B ρ r r'∧ts.length=vs.length∧(∀id b,Sf' id b→Sf id b)
 | [],us,k,x,Sf,X,r,hrun,hI,hv=>by
  simp only[FN]at hrun
  simp only[AJ]at hv
  exact⟨[],fun _=>False,Sf,r,hrun,by simp only[CS];exact⟨hv,fun _ h=>h⟩,hI.congrX (fun b=>by simp),fun _ h=>h.elim,PW.refl ..,rfl,fun _ _ h=>h⟩
 |v::vs,us,k,x,Sf,X,r,hrun,hI,hv=>by
  simp only[FN]at hrun
  simp only[AJ]at hv
  obtain⟨u,us',rfl,h1,h2⟩:=hv
  obtain⟨t,S1,Sf1,r1,g1,g2,g3,g4,g5,g6,g7⟩:=cU hrun hI h1
  have h2':AJ w B ρ r1 vs us':=by
   have:∀{vs:List V} {us:List Value},AJ w B ρ r vs us→AJ w B ρ r1 vs us:=by
    intro vs
    induction vs with
    |nil=>intro us h;simpa only[AJ] using h
    |cons a vs ih=>
     intro us h
     simp only[AJ]at h ⊢
     obtain⟨u,us',rfl,h1,h2⟩:=h
     exact⟨u,us',rfl,g6.claims _ _ h1,ih h2⟩
   exact this h2
  obtain⟨ts,S2,Sf2,r2,m1,m2,m3,m4,m5,m6,m7⟩:=Pf g1 g4 h2'
  refine⟨t::ts,fun b=>S1 b∨S2 b,Sf2,r2,m1, ?_,m3.congrX (fun b=>by simp[or_assoc]), ?_,g6.trans m5,by simp[m6],fun id b h=>g7 id b (m7 id b h)⟩
  ·simp only[CS]
   exact⟨u,us',S1,S2,rfl,g3,g2,m2,BK.mk' fun b h h'=>m4 b h' (.inr h)⟩
  ·intro b h
   rcases h with h|h
   ·exact g5 b h
   ·exact fun hx=>m4 b h (.inl hx)
theorem AJ.step {r':R} (h:PW w B ρ r r'):∀{vs:List V} {us:List Value},AJ w B ρ r vs us→AJ w B ρ r' vs us
 | [],us,hh=>by simpa only[AJ] using hh
 |v::vs,us,hh=>by
  simp only[AJ]at hh ⊢
  obtain⟨u,us',rfl,h1,h2⟩:=hh
  exact⟨u,us',rfl,h.claims _ _ h1,AJ.step h h2⟩
theorem CS.length : ∀ {ts:List T} {us:List Value} {S:Nat→Prop},CS w B ts us S→us.length=ts.length
 | [],us,S,h=>by simp only[CS]at h;simp[h.1]
 |t::ts,us,S,h=>by
  simp only[CS]at h
  obtain⟨u,us',S1,S2,rfl,_,_,h2,_⟩:=h
  simp[CS.length h2]
theorem CS.one : ∀ {ts:List T} {us:List Value} {S:Nat→Prop},CS w B ts us S→∀u∈us,u.oneCell'=true
 | [],us,S,h=>by simp only[CS]at h;simp[h.1]
 |t::ts,us,S,h=>by
  simp only[CS]at h
  obtain⟨u,us',S1,S2,rfl,h1,_,h2,_⟩:=h
  intro x hx
  rcases List.mem_cons.1 hx with rfl|hx
  ·exact h1
  ·exact CS.one h2 x hx
theorem CS.same {w':World} {B':Nat→Prop} (hB:∀b,B b→B' b) (h:Fx B w w'):∀{ts:List T} {us:List Value} {S:Nat→Prop},Fx S w w'→CS w B ts us S→CS w' B' ts us S
 | [],us,S,_,hh=>by simpa only[CS] using hh
 |t::ts,us,S,hS,hh=>by
  simp only[CS]at hh ⊢
  obtain⟨u,us',S1,S2,rfl,h0,h1,h2,h3⟩:=hh
  exact⟨u,us',S1,S2,rfl,h0,Fb.same hB h (fun x hx=>hS x (h3.left hx)) h1,CS.same hB h (fun x hx=>hS x (h3.right hx)) h2,h3⟩
theorem CS.inHeap : ∀ {ts:List T} {us:List Value} {S:Nat→Prop},CS w B ts us S→WT w S
 | [],us,S,h=>by simp only[CS]at h;exact fun b hb=>absurd hb (h.2 b)
 |t::ts,us,S,h=>by
  simp only[CS]at h
  obtain⟨u,us',S1,S2,rfl,_,h1,h2,h3⟩:=h
  intro x hx
  rcases(h3.1 x).1 hx with hx|hx
  ·exact Fb.inHeap h1 x hx
  ·exact CS.inHeap h2 x hx
theorem Ng.of_values {b:Nat}:∀{ts:List T} {us:List Value} {S:Nat→Prop} {o:Nat},CS w B ts us S→(∀(j:Nat) u,us[j]? =some u→w.cell? ⟨b,o+j,none⟩=some u)→Ng w B b o ts S
 | [],us,S,o,h,hc=>by simp only[CS]at h;simp only[Ng];exact h.2
 |t::ts,us,S,o,h,hc=>by
  simp only[CS]at h
  obtain⟨u,us',S1,S2,rfl,h0,h1,h2,h3⟩:=h
  simp only[Ng]
  exact⟨u,S1,S2,by simpa using hc 0 u (by simp),h0,h1,Ng.of_values h2 (fun j u' hj=>by have:=hc (j+1) u' (by simpa using hj);rwa [show o+1+j=o+(j+1) by omega]),h3⟩
end
end TT
namespace TT
open Go
def eqC : Value→Value→Bool
 | .int k a, .int k' b=>k==k'&&a==b
 | .bool a, .bool b=>a==b
 | .string a, .string b=>a.toList==b.toList
 | .slice none 0 0, .slice none 0 0=>true
 | .nilFunc, .nilFunc=>true
 | .pointer none, .pointer none=>true
 | .nilIface, .nilIface=>true
 |_,_=>false
theorem A0I {a b:ByteArray} (h:a.toList=b.toList):a=b:=by
 rw[ByteArray.toList_eq,ByteArray.toList_eq]at h
 obtain⟨⟨x⟩⟩:=a
 obtain⟨⟨y⟩⟩:=b
 simp at h
 rw[h]
theorem A2H {x y:Value} (h:eqC x y=true):x=y∧x.oneCell'=true:=by
 unfold eqC at h
 split at h
 ·simp at h;exact⟨by rw[h.1,h.2],rfl⟩
 ·simp at h;exact⟨by rw[h],rfl⟩
 ·rename_i a b
  have h1:a.toList=b.toList:=by simpa using h
  exact⟨by rw[A0I h1],rfl⟩
 ·exact⟨rfl,rfl⟩
 ·exact⟨rfl,rfl⟩
 ·exact⟨rfl,rfl⟩
 ·exact⟨rfl,rfl⟩
 ·cases h
def eqZ : List T→List Value→Bool
 | [],[]=>true
 | .v x::ts,y::ys=>eqC x y&&eqZ ts ys
 | .sl true []::ts, .slice none 0 0::ys=>eqZ ts ys
 |_,_=>false
def Hu : D2→Operand→Bool
 | .s t, .tmp t'=>t==t'
 | .c x, .const y=>eqC x y
 | .f f, .func g=>f==g
 | .z cs, .const (.agg ys)=>eqZ cs ys.toList
 |_,_=>false
def jy : List D2→List Operand→Bool
 | [],[]=>true
 |a::as,b::bs=>Hu a b&&jy as bs
 |_,_=>false
section
variable {c:Ctx} {w:World} {B:Nat→Prop} {ρ:Id→HG} {Sf:Id→Nat→Prop} {X:Nat→Prop} {r:R}
theorem Vl : ∀ {ts:List T} {ys:List Value},eqZ ts ys=true→AJ w B ρ r (ts.map fun c=>match c with| .sl true []=>V.nil|c=>V.t c) ys∧CS w B ts ys (fun _=>False)∧ts.length=ys.length
 | [],[],_=>⟨by simp[AJ],by simp only[CS];exact⟨trivial,fun _ h=>h⟩,rfl⟩
 | [],y::ys,h=>by simp[eqZ]at h
 | .v x::ts,[],h=>by simp[eqZ]at h
 | .v x::ts,y::ys,h=>by
  simp only[eqZ,bz]at h
  obtain⟨h1,h2,h3⟩:=Vl h.2
  obtain⟨e1,e2⟩:=A2H h.1
  subst e1
  refine⟨?_, ?_,by simp[h3]⟩
  ·simp only[List.map_cons,AJ]
   exact⟨x,ys,rfl,by simp only[A6,EV];exact⟨trivial,e2⟩,h1⟩
  ·simp only[CS]
   exact⟨x,ys,_,_,rfl,e2,by simp only[Fb];exact⟨trivial,fun _ h=>h⟩,h2,⟨fun b=>by simp,fun b (h:False)=>h.elim⟩⟩
 | .sl true []::ts,[],h=>by simp[eqZ]at h
 | .sl true []::ts,y::ys,h=>by
  cases y with
  |slice q n cap=>
   cases q with
   |some q=>simp[eqZ]at h
   |none=>cases n with
    |succ n=>simp[eqZ]at h
    |zero=>cases cap with
     |succ cap=>simp[eqZ]at h
     |zero=>
      simp only[eqZ]at h
      obtain⟨h1,h2,h3⟩:=Vl h
      refine⟨?_, ?_,by simp[h3]⟩
      ·simp only[List.map_cons,AJ]
       exact⟨_,ys,rfl,by simp only[A6],h1⟩
      ·simp only[CS]
       exact⟨_,ys,_,_,rfl,rfl,by simp only[Fb];exact⟨none,0,rfl, .inl ⟨rfl,rfl,trivial,fun _ h=>h⟩⟩,h2,⟨fun b=>by simp,fun b (h:False)=>h.elim⟩⟩
  |_=>simp[eqZ]at h
 | .sl true (x::xs)::ts,ys,h=>by cases ys<;>simp[eqZ]at h
 | .sl false rows::ts,ys,h=>by cases ys<;>simp[eqZ]at h
 | .hole::ts,ys,h=>by cases ys<;>simp[eqZ]at h
def FO (w:World) (B:Nat→Prop) (ρ:Id→HG) (r:R) (s:List V) (a:Act):Prop:=
 ∀t,A6 w B ρ r (s.getD t .dead) (a.tmps.getD t undef)
theorem FO.eval {s:List V} {a:Act} (h:FO w B ρ r s a) {x:D2} {y:Operand} (hx:Hu x y=true):A6 w B ρ r (A9 s x) (a.eval y):=by
 unfold Hu at hx
 split at hx
 ·simp at hx;subst hx;exact h _
 ·obtain⟨e1,e2⟩:=A2H hx
  subst e1
  simp only[A9,Act.eval,Uw]
  split
  ·simp only[A6]
  ·simp only[A6,EV];exact⟨trivial,e2⟩
 ·simp at hx;subst hx
  simp only[A9,Act.eval,A6]
  exact⟨#[],rfl,by simp[AJ]⟩
 ·simp only[A9,Act.eval,A6]
  exact⟨_,rfl,(Vl hx).1⟩
 ·cases hx
theorem FO.evals {s:List V} {a:Act} (h:FO w B ρ r s a):∀{xs:List D2} {ys:List Operand},jy xs ys=true→AJ w B ρ r (xs.map (A9 s)) (ys.map a.eval)
 | [],[],_=>by simp[AJ]
 | [],y::ys,hx=>by simp[jy]at hx
 |x::xs,[],hx=>by simp[jy]at hx
 |x::xs,y::ys,hx=>by
  simp only[jy,bz]at hx
  simp only[List.map_cons,AJ]
  exact⟨_,_,rfl,h.eval hx.1,h.evals hx.2⟩
def HH (c:Ctx) (st:St) (a:Act) (w:World):Prop:=
 ∃B ρ Sf,E5 c w B ρ Sf (fun _=>False) st.r∧FO w B ρ st.r st.s a∧a.tmps.size=st.s.length∧st.r.length=st.s.length∧a.defers=[]
theorem A0J {s:List V} {a:Act} {d:Option Nat} {v:V} {u:Value} {st:St} (hs:FO w B ρ r s a) (hz:a.tmps.size=s.length) (hv:A6 w B ρ r v u):
  FO w B ρ r (({ s:=s,r:=r }:St).put d v).s (a.put d u):=by
 cases d with
 |none=>exact hs
 |some d=>
  intro t
  simp only[St.put,Act.put]
  by_cases e:d=t
  ·subst e
   by_cases hl:d<s.length
   ·have h1:(s.set d v).getD d .dead=v:=by simp[List.getD,hl]
    have h2:(a.tmps.setIfInBounds d u).getD d undef=u:=by simp[Array.getD,hz,hl]
    rw[h1,h2];exact hv
   ·have h1:(s.set d v).getD d .dead= .dead:=by simp only[List.getD,List.getElem?_set];simp[hl]
    rw[h1];simp only[A6]
  ·have h1:(s.set d v).getD t .dead=s.getD t .dead:=by simp[List.getD,List.getElem?_set,e]
   have h2:(a.tmps.setIfInBounds d u).getD t undef=a.tmps.getD t undef:=by
    simp[Array.getD_eq_getD_getElem?,Array.getElem?_setIfInBounds_ne e]
   rw[h1,h2];exact hs t
theorem HH.fin {st:St} {a:Act} {w':World} {B':Nat→Prop} {ρ':Id→HG} {Sf':Id→Nat→Prop} {r':R} {d:Option Nat} {v:V} {u:Value}
  (hs:FO w B ρ st.r st.s a) (hz:a.tmps.size=st.s.length) (hl:st.r.length=st.s.length) (hd:a.defers=[]) (hI:E5 c w' B' ρ' Sf' (fun _=>False) r') (hr:r'.length=st.r.length)
  (hc:∀v u,A6 w B ρ st.r v u→A6 w' B' ρ' r' v u) (hv:A6 w' B' ρ' r' v u):HH c (({ st with r:=r' }:St).put d v) (a.put d u) w':=by
 have h1:FO w' B' ρ' r' st.s a:=fun t=>hc _ _ (hs t)
 refine⟨B',ρ',Sf', ?_, ?_, ?_, ?_, ?_⟩
 ·cases d<;>exact hI
 ·have:=A0J (d:=d) (st:=st) h1 hz hv
  cases d<;>exact this
 ·cases d<;>simp[St.put,Act.put,hz]
 ·cases d<;>simp[St.put,hr,hl]
 ·cases d<;>exact hd
end
end TT
namespace TT
open Go
section
variable {P:Program} {c:Ctx} {w:World} {B:Nat→Prop} {ρ:Id→HG} {Sf:Id→Nat→Prop} {r:R} {a:Act} {o:Oper}
def PY (P:Program) (o:Oper) (a:Act) (w:World) (u:Value) (w':World):Prop:=(execOp a.eval o).run P w= .ok (.value u) w'
theorem Dx {s:Sem Value} {u:Value} {w':World} (he:execOp a.eval o=(do let x←s;pure (.value x))) (hr:s.run P w= .ok u w'):PY P o a w u w':=by
 unfold PY
 rw[he,Sem.run_bind,hr]
 rfl
theorem A2I {y:Operand} (h:o.op= .move y∨o.op= .assign y):PY P o a w (a.eval y) w:=by
 unfold PY execOp
 rcases h with h|h<;>rw[h]<;>rfl
theorem Df {x u:Value} (h:A6 w B ρ r (.t (.v x)) u):u=x∧x.oneCell'=true:=by
 simp only[A6,EV]at h
 obtain⟨h1,h2⟩:=h
 subst h1
 exact⟨rfl,h2⟩
theorem Lr {x:Value} (h:x.oneCell'=true):A6 w B ρ r (.t (.v x)) x:=by
 simp only[A6,EV];exact⟨trivial,h⟩
theorem A2J {y p q:Operand} {t:Bool} (h:o.op= .pick y p q) (hy:a.eval y= .bool t):PY P o a w (if t then a.eval p else a.eval q) w:=by
 unfold PY execOp
 rw[h]
 simp only[hy,asBool]
 cases t<;>rfl
theorem RI {y:Operand} {u:Value} (h:o.op= .nilCheck y) (hy:a.eval y=u) (hu:(∃b,u= .pointer (some b))∨∃f us,u= .func (.func f) #[] us):PY P o a w u w:=by
 unfold PY execOp
 rw[h]
 simp only[hy]
 rcases hu with ⟨b,rfl⟩|⟨f,us,rfl⟩<;>rfl
theorem A5x {y:Operand} {i:Nat} {us:Array Value} {u:Value} (h:o.op= .extract y i) (hy:a.eval y= .tuple us) (hi:us[i]? =some u):PY P o a w u w:=by
 refine Dx (s:=Instr.extract (.tuple us) i) ?_ ?_
 ·unfold execOp;rw[h];simp only[hy]
 ·simp only[Instr.extract,hi];rfl
theorem A5y {f:FuncId} {ys:Array Operand} (h:o.op= .makeFunc (.func f) #[] ys):PY P o a w (.func (.func f) #[] (ys.map a.eval)) w:=by
 refine Dx (s:=Instr.makeFunc (.func f) #[] (ys.map a.eval)) ?_ rfl
 unfold execOp;rw[h];simp
theorem zb {op:BinOp} {t:TypeId} {x y u:Value} (h:EC op x y=some u) (xo yo:Operand):
  ((do eqGuard op t xo yo x y;binOp op t x y):Sem Value).run P w= .ok u w∧u.oneCell'=true:=by
 unfold EC at h
 split at h
 ·rename_i k n yk m
  have hg:eqGuard op t xo yo (.int k n) (.int yk m)=pure ():=by cases op<;>rfl
  rw[hg]
  cases op<;>simp only[]at h
  case shl=>
   split at h
   ·cases h
   ·rename_i hm;cases h
    exact⟨by simp[binOp,Op.shift,hm],rfl⟩
  case shr=>
   split at h
   ·cases h
   ·rename_i hm;cases h
    exact⟨by simp[binOp,Op.shift,hm],rfl⟩
  all_goals
   split at h
   ·rename_i hk
    subst hk
    simp only[Tg]at h
    first
     |(cases h;exact⟨by first|(simp[binOp,Op.intArith];done)|(simp[binOp,Op.intCmp];done)|(simp[binOp];rfl),rfl⟩)
     |(split at h
       ·cases h
       ·rename_i h0;cases h;exact⟨by simp[binOp,Op.intDiv,h0],rfl⟩)
     |cases h
   ·cases h
 ·rename_i x y
  have hg:eqGuard op t xo yo (.string x) (.string y)=pure ():=by cases op<;>rfl
  rw[hg]
  cases op<;>simp only[A2F]at h<;>first
   |(cases h;done)
   |(cases h;exact⟨by simp[binOp,Op.stringOp],rfl⟩)
   |(split at h
     ·rename_i h0;cases h
      refine⟨?_,rfl⟩
      have h1:¬(((x.size+y.size:Nat):Int)>9223372036854775807):=by omega
      simp only[binOp,Op.stringOp,IntKind.max_i64,if_neg h1]
      rfl
     ·cases h)
 ·cases h
theorem A5z {op:BinOp} {t ty:TypeId} {x y:Operand} {u:Value} (h:o.op= .binOp op t x y ty) (hu:EC op (a.eval x) (a.eval y)=some u):PY P o a w u w:=
 Dx (by unfold execOp;rw[h]) (zb hu x y).1
theorem A60 {op:BinOp} {t ty:TypeId} {x y:Operand} {p q:Bool} (h:o.op= .binOp op t x y ty) (ho:op= .eql∨op= .neq) (ht:P.underlying t=some .bool) (hx:a.eval x= .bool p) (hy:a.eval y= .bool q):
  PY P o a w (.bool (if op= .neq then !(p==q)else p==q)) w:=by
 refine Dx (s:=do eqGuard op t x y (.bool p) (.bool q);binOp op t (.bool p) (.bool q)) (by unfold execOp;rw[h];simp only[hx,hy]) ?_
 have hg:eqGuard op t x y (.bool p) (.bool q)=pure ():=by cases op<;>rfl
 rw[hg]
 rcases ho with rfl|rfl
 ·simp[binOp,run_equal_bool w t p q ht]
 ·simp[binOp,run_equal_bool w t p q ht]
theorem xA {t:TypeId} {x:Operand} {b:Bool} (h:o.op= .unOp .not t x) (hx:a.eval x= .bool b):PY P o a w (.bool (!b)) w:=
 Dx (s:=Op.unary .not (.bool b)) (by unfold execOp;rw[h];simp only[hx]) rfl
theorem xB {t:TypeId} {x:Operand} {k:IntKind} {n:Int} (h:o.op= .unOp .neg t x) (hx:a.eval x= .int k n):PY P o a w (.int k (k.wrap (0-n))) w:=
 Dx (s:=Op.unary .neg (.int k n)) (by unfold execOp;rw[h];simp only[hx]) rfl
theorem qw {t t':TypeId} {d d':TypeDesc} {x:Operand} {k k':IntKind} {n:Int} (h:o.op= .convert t t' x) (hs:P.underlying t=some d) (hd:P.underlying t'=some (.int k')) (hx:a.eval x= .int k n):
  PY P o a w (.int k' (k'.wrap n)) w:=
 Dx (s:=convert t t' (.int k n)) (by unfold execOp;rw[h];simp only[hx]) (by simp[convert,run_underlying hs,run_underlying hd,Conv.intToInt])
theorem u9 {ats:Array TypeId} {x:Operand} {t:TypeId} {st:ByteArray} (h:o.op= .call { callee:= .builtin .len,args:= #[x],argTypes:= #[t] }) (ht:P.underlying t=some .string) (hx:a.eval x= .string st):
  PY P o a w (.int .i64 st.size) w:=by
 unfold PY execOp
 rw[h]
 simp[resolve,invoke,builtin,Builtin.len_,hx,run_underlying ht,goInt]
theorem WV {x:Operand} {t e:TypeId} {q:Option Addr} {n cap:Nat} (h:o.op= .call { callee:= .builtin .len,args:= #[x],argTypes:= #[t] }) (ht:P.underlying t=some (.slice e)) (hx:a.eval x= .slice q n cap):
  PY P o a w (.int .i64 n) w:=by
 unfold PY execOp
 rw[h]
 simp[resolve,invoke,builtin,Builtin.len_,hx,run_underlying ht,goInt]
theorem A9C {mx:Bool} {x y:Operand} {ts:Array TypeId} {k k':IntKind} {n m:Int} (h:o.op= .call { callee:= .builtin (if mx then .max else .min),args:= #[x,y],argTypes:=ts }) (hx:a.eval x= .int k n) (hy:a.eval y= .int k' m):
  PY P o a w (.int k (if mx then(if n<m then m else n)else(if m<n then m else n))) w:=by
 unfold PY execOp
 rw[h]
 cases mx<;>simp[resolve,invoke,builtin,Builtin.max_,Builtin.min_,Builtin.max2,Builtin.min2,hx,hy]
def pf (P:Program) (t:TypeId):FK→Bool
 | .int=>(match P.underlying t with|some (.int _)=>true|_=>false)
 | .str=>(match P.underlying t with|some .string=>true|_=>false)
 | .bool=>(match P.underlying t with|some .bool=>true|_=>false)
def ZM (P:Program):Nat→List Field→List FK→Bool
 |_,[],[]=>true
 |i,f::fs,k::ks=>f.name != "_" &&f.offset==i&&pf P f.type k&&ZM P (i+1) fs ks
 |_,_,_=>false
def A9D (P:Program) (t:TypeId) (ks:List FK):Bool:=(match P.underlying t with|some (.struct fs)=>ZM P 0 fs.toList ks|_=>false)&& !P.stoodInHeld t&& !P.eqGuardType P.depth t
theorem uA {t:TypeId} {k:FK} (h:pf P t k=true) {cs:Array Value} {off:Nat} {v:Value} (hv:cs[off]? =some v):(part t cs off).run P w= .ok v w:=by
 have:∃d,P.underlying t=some d∧(match d with| .struct _=>true| .array _ _=>true|_=>false)=false:=by
  cases k<;>simp only[pf]at h<;>split at h<;>first|exact⟨_,by assumption,rfl⟩|cases h
 obtain⟨d,h1,h2⟩:=this
 unfold part isAgg
 rw[Sem.run_bind,Sem.run_bind,run_underlying h1]
 cases d<;>simp[hv]at h2 ⊢
theorem jz : ∀ {fs:List Field} {ks:List FK} {i:Nat} {as bs:List V} {xs ys:List Value} {e:Bool},ZM P i fs ks=true→AJ w B ρ r as xs→AJ w B ρ r bs ys→eZ ks as bs=some e→∀(px py:List Value),px.length=i→py.length=i→
  (Op.eqFields 9999 (px++xs).toArray (py++ys).toArray fs).run P w= .ok e w
 | [],ks,i,as,bs,xs,ys,e,hf,ha,hb,he,px,py,hx,hy=>by
  cases ks with
  |cons k ks=>simp[ZM]at hf
  |nil=>
   unfold eZ at he
   split at he
   ·simp only[oi]at he;subst he;simp[Op.eqFields]
   ·rename_i h;cases h
   ·cases he
 |f::fs,ks,i,as,bs,xs,ys,e,hf,ha,hb,he,px,py,hx,hy=>by
  cases ks with
  |nil=>simp[ZM]at hf
  |cons k ks=>
   simp only[ZM,bz,bne_iff_ne,ne_eq,beq_iff_eq]at hf
   obtain⟨⟨⟨h1,h2⟩,h3⟩,h4⟩:=hf
   cases as with
   |nil=>simp[eZ]at he
   |cons va as=>cases bs with
    |nil=>simp[eZ]at he
    |cons vb bs=>
     simp only[eZ]at he
     obtain⟨e1,he1,he⟩:=Option.bind_eq_some_iff.1 he
     obtain⟨e2,he2,he⟩:=Option.map_eq_some_iff.1 he
     simp only[AJ]at ha hb
     obtain⟨x,xs',rfl,ha1,ha2⟩:=ha
     obtain⟨y,ys',rfl,hb1,hb2⟩:=hb
     have ex:(px++x::xs').toArray[f.offset]? =some x:=by rw[h2,←hx];simp
     have ey:(py++y::ys').toArray[f.offset]? =some y:=by rw[h2,←hy];simp
     have hk:(Op.equalIn 9999 f.type x y).run P w= .ok e1 w:=by
      unfold eqK at he1
      split at he1
      ·split at he1
       ·rename_i hkk
        subst hkk
        simp only[oi]at he1;subst he1
        rw[(Df ha1).1,(Df hb1).1]
        simp only[pf]at h3
        split at h3
        ·rename_i hu;exact run_equalIn_int w 9998 f.type _ _ _ _ hu
        ·cases h3
       ·cases he1
      ·simp only[oi]at he1;subst he1
       rw[(Df ha1).1,(Df hb1).1]
       simp only[pf]at h3
       split at h3
       ·rename_i hu;exact run_equalIn_string w 9998 f.type _ _ hu
       ·cases h3
      ·simp only[oi]at he1;subst he1
       rw[(Df ha1).1,(Df hb1).1]
       simp only[pf]at h3
       split at h3
       ·rename_i hu;exact run_equalIn_bool w 9998 f.type _ _ hu
       ·cases h3
      ·cases he1
     simp only[Op.eqFields]
     rw[if_pos h1]
     simp only[Sem.run_bind,uA h3 ex,uA h3 ey,Result.andThen_ok,hk]
     have ih:=jz h4 ha2 hb2 he2 (px++[x]) (py++[y]) (by simp[hx]) (by simp[hy])
     cases e1 with
     |false=>simp at he;subst he;simp
     |true=>
      simp at he;subst he
      simp only[Bool.not_true,bf,if_false]
      simpa using ih
theorem A61 {op:BinOp} {t ty:TypeId} {x y:Operand} {ks:List FK} {as bs:List V} {e:Bool} (h:o.op= .binOp op t x y ty) (ho:op= .eql∨op= .neq) (ht:A9D P t ks=true) (hx:A6 w B ρ r (.agg as) (a.eval x)) (hy:A6 w B ρ r (.agg bs) (a.eval y)) (he:eZ ks as bs=some e):
  PY P o a w (.bool (if op= .neq then !e else e)) w:=by
 simp only[A6]at hx hy
 obtain⟨xs,ex,hx⟩:=hx
 obtain⟨ys,ey,hy⟩:=hy
 simp only[A9D,bz,Bool.not_eq_true']at ht
 obtain⟨⟨h1,h2⟩,h3⟩:=ht
 split at h1
 ·rename_i fs hu
  have hfo:P.fieldsOf t=fs:=by unfold Program.fieldsOf;rw[hu]
  have hu':P.underlying t=some (.struct (P.fieldsOf t)):=by rw[hfo];exact hu
  have hrun:(Op.equalIn 10000 t (.agg xs) (.agg ys)).run P w= .ok e w:=by
   rw[run_equalIn_struct w 9999 t xs ys hu' h2,hfo]
   have:=jz h1 hx hy he [] [] rfl rfl
   simpa using this
  refine Dx (s:=do eqGuard op t x y (.agg xs) (.agg ys);binOp op t (.agg xs) (.agg ys)) (by unfold execOp;rw[h];simp only[ex,ey]) ?_
  rw[Sem.run_bind,run_eqGuard_agg w op t x y xs ys h3]
  rcases ho with rfl|rfl
  ·simp only[Result.andThen_ok];rw[run_eql_struct,hrun];rfl
  ·simp only[Result.andThen_ok];rw[run_neq_struct,hrun];rfl
 ·cases h1
end
end TT
