import Derived.Laws.AppendOwn
import Derived.Below
set_option linter.unusedVariables false
set_option linter.unusedSimpArgs false
namespace TT
theorem bf : (false=true)=False:=Bool.false_eq_true
theorem bz (a b:Bool):((a&&b)=true)=(a=true∧b=true):=Bool.and_eq_true a b
theorem oi {α:Type _} (a b:α):(some a=some b)=(a=b):=Option.some.injEq a b
theorem ai {a b:Prop} (x:a) (y:b):a∧b:=⟨x,y⟩
open Go
inductive T where
 |v (x:Value)
 |sl (own:Bool) (rows:List (List T))
 |hole
 |pp (cs:List T) -- a pointer to shared cells
 |fn (f:FuncId) (cs:List (List T)) -- a function value:what the pointers lead to that it captures
 deriving Inhabited
abbrev Rows := List (List T)
def BK (S A C:Nat→Prop):Prop:=(∀b,S b↔(A b∨C b))∧∀b,A b→¬C b
def Emp (S:Nat→Prop):Prop:=∀b,¬S b
theorem BK.comm {S A C:Nat→Prop} (h:BK S A C):BK S C A:=⟨fun b=>(h.1 b).trans Or.comm,fun b hc ha=>h.2 b ha hc⟩
theorem BK.left {S A C:Nat→Prop} (h:BK S A C) {b:Nat} (hb:A b):S b:=(h.1 b).2 (.inl hb)
theorem BK.right {S A C:Nat→Prop} (h:BK S A C) {b:Nat} (hb:C b):S b:=(h.1 b).2 (.inr hb)
theorem BK.of_emp_left {S A:Nat→Prop} (h:Emp A):BK S A S:=⟨fun b=>⟨.inr,fun h'=>h'.resolve_left (h b)⟩,fun b ha=>absurd ha (h b)⟩
theorem BK.mk' {A C:Nat→Prop} (h:∀b,A b→¬C b):BK (fun b=>A b∨C b) A C:=⟨fun _=>Iff.rfl,h⟩
mutual
def EV (w:World) (B:Nat→Prop):T→Value→Prop
 | .v x,u=>u=x
 | .sl true _,_=>False
 | .sl false rows,u=>∃q cap,u= .slice q rows.length cap∧rows.length≤cap∧cap≤maxLen∧(rows=[]∨∃b o sz,q=some ⟨b,o,none⟩∧B b∧0<sz∧CK w B b o sz rows)
 | .hole,_=>True
 | .pp cs,u=>∃b o,u= .pointer (some ⟨b,o,none⟩)∧B b∧Ml w B b o cs
 | .fn f cs,u=>∃us,u= .func (.func f) #[] us∧Zb w B cs us.toList
def Ml (w:World) (B:Nat→Prop) (b o:Nat):List T→Prop
 | []=>True
 |t::ts=>(∃u,w.cell? ⟨b,o,none⟩=some u∧u.oneCell'=true∧EV w B t u)∧Ml w B b (o+1) ts
def CK (w:World) (B:Nat→Prop) (b o sz:Nat):List (List T)→Prop
 | []=>True
 |r::rs=>r.length=sz∧Ml w B b o r∧CK w B b (o+sz) sz rs
def Zb (w:World) (B:Nat→Prop):List (List T)→List Value→Prop
 | [],us=>us=[]
 |r::rs,us=>∃b o us',us= .pointer (some ⟨b,o,none⟩)::us'∧B b∧Ml w B b o r∧Zb w B rs us'
end
def SW (w:World) (b:Nat) (cur:Array Value) (e:TypeId):Prop:=∃fz:Nat×Nat,w.heap[b]? =some (.cells cur e fz)∧(fz=(0,0)∨cur.size≤fz.1)
theorem SW.of {w:World} {b:Nat} {cur:Array Value} {e:TypeId} (h:w.heap[b]? =some (.cells cur e (0,0))):SW w b cur e:=⟨_,h, .inl rfl⟩
theorem SW.cell {w:World} {b:Nat} {cur:Array Value} {e:TypeId} (h:SW w b cur e) (k:Nat):w.cell? ⟨b,k,none⟩=cur[k]? :=by
 obtain⟨fz,h,_⟩:=h
 simp[World.cell?,h]
theorem SW.lt {w:World} {b:Nat} {cur:Array Value} {e:TypeId} (h:SW w b cur e):b<w.heap.size:=by
 obtain⟨fz,h,_⟩:=h
 exact(Array.getElem?_eq_some_iff.1 h).1
theorem SW.same {w w':World} {b:Nat} {cur:Array Value} {e:TypeId} (h:SW w b cur e) (hs:w'.heap[b]? =w.heap[b]?):SW w' b cur e:=by
 obtain⟨fz,h,h2⟩:=h
 exact⟨fz,by rw[hs];exact h,h2⟩
theorem SW.inj {w:World} {b:Nat} {cur cur':Array Value} {e e':TypeId} (h:SW w b cur e) (h':SW w b cur' e'):cur=cur':=by
 obtain⟨fz,h,_⟩:=h
 obtain⟨fz',h',_⟩:=h'
 rw[h]at h'
 cases h'
 rfl
theorem SW.free {w:World} {b k:Nat} {cur:Array Value} {e:TypeId} (h:SW w b cur e) (hk:k<cur.size):w.frozen? ⟨b,k,none⟩=false:=by
 obtain⟨fz,h,h2⟩:=h
 simp only[World.frozen?,h]
 rcases h2 with h2|h2
 ·subst h2;simp
 ·simp;omega
theorem SW.set {w:World} {b k:Nat} {cur:Array Value} {e:TypeId} {u:Value} (h:SW w b cur e):SW (w.setCell ⟨b,k,none⟩ u) b (cur.setIfInBounds k u) e:=by
 obtain⟨fz,h,h2⟩:=h
 refine⟨fz, ?_,by simpa using h2⟩
 have hlt:=(Array.getElem?_eq_some_iff.1 h).1
 simp[World.setCell,Array.getElem?_modify,h]
mutual
def Fb (w:World) (B:Nat→Prop):T→Value→(Nat→Prop)→Prop
 | .v x,u,S=>u=x∧Emp S
 | .sl false rows,u,S=>EV w B (.sl false rows) u∧Emp S
 | .sl true rows,u,S=>∃q cap,u= .slice q rows.length cap∧
   ((q=none∧cap=0∧rows=[]∧Emp S)∨
    ∃b sz e cur S',q=some ⟨b,0,none⟩∧SW w b cur e∧(rows.length≤cap∧(rows=[]→cap=0))∧cap≤maxLen∧cur.size=cap*sz∧0<sz∧
     BK S (· =b) S'∧Cf w B b 0 sz rows S')
 | .hole,_,S=>Emp S
 | .pp cs,u,S=>EV w B (.pp cs) u∧Emp S
 | .fn f cs,u,S=>EV w B (.fn f cs) u∧Emp S
def Ng (w:World) (B:Nat→Prop) (b o:Nat):List T→(Nat→Prop)→Prop
 | [],S=>Emp S
 |t::ts,S=>∃u S1 S2,w.cell? ⟨b,o,none⟩=some u∧u.oneCell'=true∧Fb w B t u S1∧Ng w B b (o+1) ts S2∧BK S S1 S2
def Cf (w:World) (B:Nat→Prop) (b o sz:Nat):List (List T)→(Nat→Prop)→Prop
 | [],S=>Emp S
 |r::rs,S=>∃S1 S2,r.length=sz∧Ng w B b o r S1∧Cf w B b (o+sz) sz rs S2∧BK S S1 S2
end
def H1 (w:World) (B:Nat→Prop) (q:Option Addr) (cap:Nat) (rows:Rows) (S:Nat→Prop):Prop:=
 (q=none∧cap=0∧rows=[]∧Emp S)∨
 ∃b sz e cur S',q=some ⟨b,0,none⟩∧SW w b cur e∧(rows.length≤cap∧(rows=[]→cap=0))∧cap≤maxLen∧cur.size=cap*sz∧0<sz∧
  BK S (· =b) S'∧Cf w B b 0 sz rows S'
theorem FM {w:World} {B:Nat→Prop} {rows:Rows} {u:Value} {S:Nat→Prop}:
  Fb w B (.sl true rows) u S↔∃q cap,u= .slice q rows.length cap∧H1 w B q cap rows S:=by
 simp only[Fb,H1]
def Fx (D:Nat→Prop) (w w':World):Prop:=∀b,D b→w'.heap[b]? =w.heap[b]?
theorem Et {w w':World} {b:Nat} (h:w'.heap[b]? =w.heap[b]?) (o:Nat):w'.cell? ⟨b,o,none⟩=w.cell? ⟨b,o,none⟩:=by
 simp[World.cell?,h]
mutual
theorem EV.same {w w':World} {B B':Nat→Prop} (hB:∀b,B b→B' b) (h:Fx B w w'):∀{t:T} {u:Value},EV w B t u→EV w' B' t u
 | .v x,u,hh=>by simpa [EV] using hh
 | .sl true rows,u,hh=>by simp only[EV]at hh
 | .sl false rows,u,hh=>by
  simp only[EV]at hh ⊢
  obtain⟨q,cap,h1,h2,h3,h4⟩:=hh
  refine⟨q,cap,h1,h2,h3, ?_⟩
  rcases h4 with h4|⟨b,o,sz,h5,h6,h7,h8⟩
  ·exact .inl h4
  ·exact .inr ⟨b,o,sz,h5,hB b h6,h7,CK.same hB h h6 h8⟩
 | .hole,u,hh=>by simp[EV]
 | .pp cs,u,hh=>by
  simp only[EV]at hh ⊢
  obtain⟨b,o,h1,h2,h3⟩:=hh
  exact⟨b,o,h1,hB b h2,Ml.same hB h h2 h3⟩
 | .fn f cs,u,hh=>by
  simp only[EV]at hh ⊢
  obtain⟨us,h1,h2⟩:=hh
  exact⟨us,h1,Zb.same hB h h2⟩
theorem Ml.same {w w':World} {B B':Nat→Prop} (hB:∀b,B b→B' b) (h:Fx B w w'):∀{b o:Nat} {ts:List T},B b→Ml w B b o ts→Ml w' B' b o ts
 |b,o,[],_,hh=>by simp[Ml]
 |b,o,t::ts,hb,hh=>by
  simp only[Ml]at hh ⊢
  obtain⟨⟨u,h1,h0,h2⟩,h3⟩:=hh
  exact⟨⟨u,by rw[Et (h b hb)];exact h1,h0,EV.same hB h h2⟩,Ml.same hB h hb h3⟩
theorem CK.same {w w':World} {B B':Nat→Prop} (hB:∀b,B b→B' b) (h:Fx B w w'):∀{b o sz:Nat} {rs:List (List T)},B b→CK w B b o sz rs→CK w' B' b o sz rs
 |b,o,sz,[],_,hh=>by simp[CK]
 |b,o,sz,r::rs,hb,hh=>by
  simp only[CK]at hh ⊢
  exact⟨hh.1,Ml.same hB h hb hh.2.1,CK.same hB h hb hh.2.2⟩
theorem Zb.same {w w':World} {B B':Nat→Prop} (hB:∀b,B b→B' b) (h:Fx B w w'):∀{rs:List (List T)} {us:List Value},Zb w B rs us→Zb w' B' rs us
 | [],us,hh=>by simpa only[Zb] using hh
 |r::rs,us,hh=>by
  simp only[Zb]at hh ⊢
  obtain⟨b,o,us',h1,h2,h3,h4⟩:=hh
  exact⟨b,o,us',h1,hB b h2,Ml.same hB h h2 h3,Zb.same hB h h4⟩
end
mutual
theorem Fb.same {w w':World} {B B':Nat→Prop} (hB:∀b,B b→B' b) (h:Fx B w w'):∀{t:T} {u:Value} {S:Nat→Prop},Fx S w w'→Fb w B t u S→Fb w' B' t u S
 | .v x,u,S,_,hh=>by simpa [Fb] using hh
 | .sl false rows,u,S,_,hh=>by
  simp only[Fb]at hh ⊢
  exact⟨EV.same hB h hh.1,hh.2⟩
 | .sl true rows,u,S,hS,hh=>by
  simp only[Fb]at hh ⊢
  obtain⟨q,cap,h1,h2⟩:=hh
  refine⟨q,cap,h1, ?_⟩
  rcases h2 with h2|⟨b,sz,e,cur,S',h3,h4,h5,h6,h7,h8,h9,h10⟩
  ·exact .inl h2
  ·refine .inr ⟨b,sz,e,cur,S',h3, ?_,h5,h6,h7,h8,h9, ?_⟩
   ·exact h4.same (hS b (h9.left rfl))
   ·exact Cf.same hB h (fun o _=>Et (hS b (h9.left rfl)) o) (fun x hx=>hS x (h9.right hx)) h10
 | .hole,u,S,_,hh=>by simpa [Fb] using hh
 | .pp cs,u,S,_,hh=>by
  simp only[Fb]at hh ⊢
  exact⟨EV.same hB h hh.1,hh.2⟩
 | .fn f cs,u,S,_,hh=>by
  simp only[Fb]at hh ⊢
  exact⟨EV.same hB h hh.1,hh.2⟩
theorem Ng.same {w w':World} {B B':Nat→Prop} (hB:∀b,B b→B' b) (h:Fx B w w'):∀{b o:Nat} {ts:List T} {S:Nat→Prop},
  (∀x,o≤x∧x<o+ts.length→w'.cell? ⟨b,x,none⟩=w.cell? ⟨b,x,none⟩)→Fx S w w'→Ng w B b o ts S→Ng w' B' b o ts S
 |b,o,[],S,_,_,hh=>by simpa [Ng] using hh
 |b,o,t::ts,S,hc,hS,hh=>by
  simp only[Ng]at hh ⊢
  obtain⟨u,S1,S2,h1,h0,h2,h3,h4⟩:=hh
  refine⟨u,S1,S2,by rw[hc o ⟨Nat.le_refl _,by simp⟩];exact h1,h0,Fb.same hB h (fun x hx=>hS x (h4.left hx)) h2, ?_,h4⟩
  exact Ng.same hB h (fun x hx=>hc x ⟨by omega,by simp at hx ⊢;omega⟩) (fun x hx=>hS x (h4.right hx)) h3
theorem Cf.same {w w':World} {B B':Nat→Prop} (hB:∀b,B b→B' b) (h:Fx B w w'):∀{b o sz:Nat} {rs:List (List T)} {S:Nat→Prop},
  (∀x,o≤x→w'.cell? ⟨b,x,none⟩=w.cell? ⟨b,x,none⟩)→Fx S w w'→Cf w B b o sz rs S→Cf w' B' b o sz rs S
 |b,o,sz,[],S,_,_,hh=>by simpa [Cf] using hh
 |b,o,sz,r::rs,S,hc,hS,hh=>by
  simp only[Cf]at hh ⊢
  obtain⟨S1,S2,h0,h1,h2,h3⟩:=hh
  exact⟨S1,S2,h0,Ng.same hB h (fun x hx=>hc x hx.1) (fun x hx=>hS x (h3.left hx)) h1,
   Cf.same hB h (fun x hx=>hc x (by omega)) (fun x hx=>hS x (h3.right hx)) h2,h3⟩
end
theorem H1.same {w w':World} {B B':Nat→Prop} (hB:∀b,B b→B' b) (h:Fx B w w') {q:Option Addr} {cap:Nat} {rows:Rows} {S:Nat→Prop} (hS:Fx S w w') (hh:H1 w B q cap rows S):H1 w' B' q cap rows S:=by
 have h1:Fb w B (.sl true rows) (.slice q rows.length cap) S:=FM.2 ⟨q,cap,rfl,hh⟩
 obtain⟨q',cap',he,h2⟩:=FM.1 (Fb.same hB h hS h1)
 injection he with e1 e2 e3
 subst e1;subst e3
 exact h2
def WT (w:World) (S:Nat→Prop):Prop:=∀b,S b→b<w.heap.size
theorem wz {w:World} {b:Nat} {o:Obj} (h:w.heap[b]? =some o):b<w.heap.size:=(Array.getElem?_eq_some_iff.1 h).1
mutual
theorem Fb.inHeap {w:World} {B:Nat→Prop}:∀{t:T} {u:Value} {S:Nat→Prop},Fb w B t u S→WT w S
 | .v x,u,S,hh=>by simp only[Fb]at hh;exact fun b hb=>absurd hb (hh.2 b)
 | .sl false rows,u,S,hh=>by simp only[Fb]at hh;exact fun b hb=>absurd hb (hh.2 b)
 | .sl true rows,u,S,hh=>by
  simp only[Fb]at hh
  obtain⟨q,cap,h1,h2⟩:=hh
  rcases h2 with h2|⟨b,sz,e,cur,S',h3,h4,h5,h6,h7,h8,h9,h10⟩
  ·exact fun b hb=>absurd hb (h2.2.2.2 b)
  ·intro x hx
   rcases(h9.1 x).1 hx with rfl|hx'
   ·exact h4.lt
   ·exact Cf.inHeap h10 x hx'
 | .hole,u,S,hh=>by simp only[Fb]at hh;exact fun b hb=>absurd hb (hh b)
 | .pp cs,u,S,hh=>by simp only[Fb]at hh;exact fun b hb=>absurd hb (hh.2 b)
 | .fn f cs,u,S,hh=>by simp only[Fb]at hh;exact fun b hb=>absurd hb (hh.2 b)
theorem Ng.inHeap {w:World} {B:Nat→Prop}:∀{b o:Nat} {ts:List T} {S:Nat→Prop},Ng w B b o ts S→WT w S
 |b,o,[],S,hh=>by simp only[Ng]at hh;exact fun b hb=>absurd hb (hh b)
 |b,o,t::ts,S,hh=>by
  simp only[Ng]at hh
  obtain⟨u,S1,S2,h1,h0,h2,h3,h4⟩:=hh
  intro x hx
  rcases(h4.1 x).1 hx with h|h
  ·exact Fb.inHeap h2 x h
  ·exact Ng.inHeap h3 x h
theorem Cf.inHeap {w:World} {B:Nat→Prop}:∀{b o sz:Nat} {rs:List (List T)} {S:Nat→Prop},Cf w B b o sz rs S→WT w S
 |b,o,sz,[],S,hh=>by simp only[Cf]at hh;exact fun b hb=>absurd hb (hh b)
 |b,o,sz,r::rs,S,hh=>by
  simp only[Cf]at hh
  obtain⟨S1,S2,h0,h1,h2,h3⟩:=hh
  intro x hx
  rcases(h3.1 x).1 hx with h|h
  ·exact Ng.inHeap h1 x h
  ·exact Cf.inHeap h2 x h
end
mutual
def frz : T→T
 | .v x=> .v x
 | .sl _ rows=> .sl false (Az rows)
 | .hole=> .hole
 | .pp cs=> .pp cs
 | .fn f cs=> .fn f cs
def HF : List T→List T
 | []=>[]
 |t::ts=>frz t::HF ts
def Az : List (List T)→List (List T)
 | []=>[]
 |r::rs=>HF r::Az rs
end
theorem ja (ts:List T):HF ts=ts.map frz:=by
 induction ts with
 |nil=>rfl
 |cons t ts ih=>simp[HF,ih]
theorem Xq (rs:List (List T)):Az rs=rs.map (·.map frz):=by
 induction rs with
 |nil=>rfl
 |cons t ts ih=>simp[Az,ih,ja]
mutual
theorem EV.frz {w:World} {B:Nat→Prop}:∀{t:T} {u:Value},EV w B t u→EV w B (TT.frz t) u
 | .v x,u,hh=>by simpa [TT.frz,EV] using hh
 | .sl true rows,u,hh=>by simp only[EV]at hh
 | .sl false rows,u,hh=>by
  simp only[TT.frz,EV]at hh ⊢
  obtain⟨q,cap,h1,h2,h3,h4⟩:=hh
  have hl:(Az rows).length=rows.length:=by simp[Xq]
  refine⟨q,cap,by rw[hl];exact h1,by rw[hl];exact h2,h3, ?_⟩
  rcases h4 with h4|⟨b,o,sz,h5,h6,h7,h8⟩
  ·exact .inl (by simp[h4,Az])
  ·exact .inr ⟨b,o,sz,h5,h6,h7,CK.frz h8⟩
 | .hole,u,hh=>by simp[TT.frz,EV]
 | .pp cs,u,hh=>by rw[TT.frz];exact hh
 | .fn f cs,u,hh=>by rw[TT.frz];exact hh
theorem Ml.frz {w:World} {B:Nat→Prop}:∀{b o:Nat} {ts:List T},Ml w B b o ts→Ml w B b o (HF ts)
 |b,o,[],hh=>by simp[HF,Ml]
 |b,o,t::ts,hh=>by
  simp only[HF,Ml]at hh ⊢
  obtain⟨⟨u,h1,h0,h2⟩,h3⟩:=hh
  exact⟨⟨u,h1,h0,EV.frz h2⟩,Ml.frz h3⟩
theorem CK.frz {w:World} {B:Nat→Prop}:∀{b o sz:Nat} {rs:List (List T)},CK w B b o sz rs→CK w B b o sz (Az rs)
 |b,o,sz,[],hh=>by simp[Az,CK]
 |b,o,sz,r::rs,hh=>by
  simp only[Az,CK]at hh ⊢
  exact⟨by simp[ja,hh.1],Ml.frz hh.2.1,CK.frz hh.2.2⟩
end
mutual
theorem Fb.frz {w:World} {B B':Nat→Prop} (hB:∀b,B b→B' b):∀{t:T} {u:Value} {S:Nat→Prop},(∀b,S b→B' b)→Fb w B t u S→EV w B' (TT.frz t) u
 | .v x,u,S,_,hh=>by simp only[Fb]at hh;simpa [TT.frz,EV] using hh.1
 | .sl false rows,u,S,_,hh=>by
  simp only[Fb]at hh
  exact EV.frz (EV.same hB (fun _ _=>rfl) hh.1)
 | .sl true rows,u,S,hS,hh=>by
  simp only[Fb]at hh
  simp only[TT.frz,EV]
  obtain⟨q,cap,h1,h2⟩:=hh
  have hl:(Az rows).length=rows.length:=by simp[Xq]
  rcases h2 with ⟨h3,h4,h5,h6⟩|⟨b,sz,e,cur,S',h3,h4,h5,h6,h7,h8,h9,h10⟩
  ·subst h5
   exact⟨q,cap,h1,by simp[Az],by simp[h4], .inl (by simp[Az])⟩
  ·refine⟨q,cap,by rw[hl];exact h1,by rw[hl];exact h5.1,h6, .inr ⟨b,0,sz,h3,hS b (h9.left rfl),h8, ?_⟩⟩
   exact Cf.frz hB (fun x hx=>hS x (h9.right hx)) h10
 | .hole,u,S,_,hh=>by simp[TT.frz,EV]
 | .pp cs,u,S,_,hh=>by
  simp only[Fb]at hh
  rw[TT.frz]
  exact EV.same hB (fun _ _=>rfl) hh.1
 | .fn f cs,u,S,_,hh=>by
  simp only[Fb]at hh
  rw[TT.frz]
  exact EV.same hB (fun _ _=>rfl) hh.1
theorem Ng.frz {w:World} {B B':Nat→Prop} (hB:∀b,B b→B' b):∀{b o:Nat} {ts:List T} {S:Nat→Prop},(∀b,S b→B' b)→Ng w B b o ts S→Ml w B' b o (HF ts)
 |b,o,[],S,_,hh=>by simp[HF,Ml]
 |b,o,t::ts,S,hS,hh=>by
  simp only[Ng]at hh
  simp only[HF,Ml]
  obtain⟨u,S1,S2,h1,h0,h2,h3,h4⟩:=hh
  exact⟨⟨u,h1,h0,Fb.frz hB (fun x hx=>hS x (h4.left hx)) h2⟩,Ng.frz hB (fun x hx=>hS x (h4.right hx)) h3⟩
theorem Cf.frz {w:World} {B B':Nat→Prop} (hB:∀b,B b→B' b):∀{b o sz:Nat} {rs:List (List T)} {S:Nat→Prop},(∀b,S b→B' b)→Cf w B b o sz rs S→CK w B' b o sz (Az rs)
 |b,o,sz,[],S,_,hh=>by simp[Az,CK]
 |b,o,sz,r::rs,S,hS,hh=>by
  simp only[Cf]at hh
  simp only[Az,CK]
  obtain⟨S1,S2,h0,h1,h2,h3⟩:=hh
  exact⟨by simp[ja,h0],Ng.frz hB (fun x hx=>hS x (h3.left hx)) h1,Cf.frz hB (fun x hx=>hS x (h3.right hx)) h2⟩
end
end TT
namespace TT
open Go
abbrev Path := List (Nat×Nat)
def D5 : Rows→Path→Option Rows
 |rows,[]=>some rows
 |rows,(i,c)::p=>match rows[i]?.bind (·[c]?)with
  |some (.sl true rows')=>D5 rows' p
  |_=>none
def CR (rows:Rows) (p:Path) (i c:Nat):Option T:=(D5 rows p).bind fun rs=>rs[i]?.bind (·[c]?)
def ID (rows:Rows) (i c:Nat) (t:T):Rows:=match rows[i]? with
 |some row=>rows.set i (row.set c t)
 |none=>rows
def Bn : Rows→Path→Nat→Nat→T→Rows
 |rows,[],i,c,t=>ID rows i c t
 |rows,(i0,c0)::p,i,c,t=>match rows[i0]?.bind (·[c0]?)with
  |some (.sl true rows')=>ID rows i0 c0 (.sl true (Bn rows' p i c t))
  |_=>rows
theorem Su (rows:Rows) (i c:Nat) (t:T):(ID rows i c t).length=rows.length:=by
 simp only[ID];split<;>simp
theorem BZ (rows:Rows) (p:Path) (i c:Nat) (t:T):(Bn rows p i c t).length=rows.length:=by
 cases p with
 |nil=>exact Su ..
 |cons ic p=>
  obtain⟨i1,c1⟩:=ic
  simp only[Bn]
  split
  ·exact Su ..
  ·rfl
def Bb (w:World):Option Addr→Rows→Path→Nat→Nat→Nat→Nat→Prop
 |q,rows,[],i,c,b,k=>q=some ⟨b,0,none⟩∧∃row,rows[i]? =some row∧c<row.length∧k=i*row.length+c
 |q,rows,(i0,c0)::p,i,c,b,k=>∃b0 row rows1 q1 n1 cap1,q=some ⟨b0,0,none⟩∧rows[i0]? =some row∧row[c0]? =some (.sl true rows1)∧
   w.cell? ⟨b0,i0*row.length+c0,none⟩=some (.slice q1 n1 cap1)∧Bb w q1 rows1 p i c b k
theorem BK.assoc {S A C D E:Nat→Prop} (h:BK S A C) (h':BK A D E):∃F,BK S D F∧BK F E C:=by
 refine⟨fun b=>E b∨C b,⟨fun b=> ?_,fun b hd he=> ?_⟩,⟨fun b=>Iff.rfl,fun b he hc=>h.2 b (h'.right he) hc⟩⟩
 ·rw[h.1,h'.1];exact or_assoc
 ·rcases he with he|hc
  ·exact h'.2 b hd he
  ·exact h.2 b (h'.left hd) hc
theorem BK.congr {S A C C':Nat→Prop} (h:BK S A C) (hc:∀x,C x↔C' x):BK S A C':=
 ⟨fun b=>(h.1 b).trans (or_congr Iff.rfl (hc b)),fun b ha hb=>h.2 b ha ((hc b).2 hb)⟩
theorem BK.put {A F D C:Nat→Prop} (h:BK F D C) (hd:∀x,A x→¬F x):BK (fun x=>A x∨F x) (fun x=>A x∨D x) C:=by
 refine⟨fun x=> ?_,fun x hx hx'=> ?_⟩
 ·show(A x∨F x)↔((A x∨D x)∨C x)
  rw[h.1];exact or_assoc.symm
 ·rcases hx with h1|h1
  ·exact hd x h1 (h.right hx')
  ·exact h.2 x h1 hx'
theorem Ng.lens {w:World} {B:Nat→Prop} {b:Nat}:∀{ts:List T} {o c:Nat} {S:Nat→Prop} {t:T},Ng w B b o ts S→ts[c]? =some t→
  ∃u S1 S2,w.cell? ⟨b,o+c,none⟩=some u∧u.oneCell'=true∧Fb w B t u S1∧BK S S1 S2∧
   ∀(w':World) (B':Nat→Prop) (t':T) (u':Value) (S1':Nat→Prop),(∀b,B b→B' b)→Fx B w w'→Fx S2 w w'→
    (∀x,o≤x→x≠o+c→w'.cell? ⟨b,x,none⟩=w.cell? ⟨b,x,none⟩)→w'.cell? ⟨b,o+c,none⟩=some u'→u'.oneCell'=true→
    Fb w' B' t' u' S1'→(∀x,S1' x→¬S2 x)→Ng w' B' b o (ts.set c t') (fun x=>S1' x∨S2 x)
 | [],o,c,S,t,_,hc=>by simp at hc
 |t0::ts,o,0,S,t,hh,hc=>by
  simp only[Ng]at hh
  obtain⟨u,S1,S2,h1,h0,h2,h3,h4⟩:=hh
  simp at hc
  subst hc
  refine⟨u,S1,S2,h1,h0,h2,h4, ?_⟩
  intro w' B' t' u' S1' hB hs hs2 hcell hu h1c hn hd
  simp only[List.set_cons_zero,Ng]
  refine⟨u',S1',S2,hu,h1c,hn, ?_,BK.mk' hd⟩
  exact Ng.same hB hs (fun x hx=>hcell x (by omega) (by omega)) hs2 h3
 |t0::ts,o,c+1,S,t,hh,hc=>by
  simp only[Ng]at hh
  obtain⟨u0,S0,Sr,h1,h0,h2,h3,h4⟩:=hh
  simp at hc
  obtain⟨u,S1,S2,g1,g0,g2,g3,g4⟩:=Ng.lens h3 hc
  have he:o+1+c=o+(c+1):=by omega
  rw[he]at g1 g4
  obtain⟨F,f1,f2⟩:=BK.assoc h4.comm g3
  refine⟨u,S1,F,g1,g0,g2,f1, ?_⟩
  intro w' B' t' u' S1' hB hs hs2 hcell hu h1c hn hd
  simp only[List.set_cons_succ,Ng]
  refine⟨u0,S0,_,by rw[hcell o (Nat.le_refl _) (by omega)];exact h1,h0,Fb.same hB hs (fun x hx=>hs2 x (f2.right hx)) h2,
   g4 w' B' t' u' S1' hB hs (fun x hx=>hs2 x (f2.left hx)) (fun x hx hne=>hcell x (by omega) hne) hu h1c hn (fun x hx hx'=>hd x hx (f2.left hx')), ?_⟩
  exact(BK.put f2 hd).comm
theorem Ng.cells {w:World} {B:Nat→Prop} {b:Nat} {ts:List T} {o:Nat} {S:Nat→Prop} (h:Ng w B b o ts S) {c:Nat} (hc:c<ts.length):∃u,w.cell? ⟨b,o+c,none⟩=some u:=by
 obtain⟨u,_,_,h1,_⟩:=h.lens (c:=c) (t:=ts[c]) (by simp[hc])
 exact⟨u,h1⟩
theorem Cf.lens {w:World} {B:Nat→Prop} {b sz:Nat}:∀{rs:Rows} {o i c:Nat} {S:Nat→Prop} {row:List T} {t:T},Cf w B b o sz rs S→rs[i]? =some row→row[c]? =some t→
  row.length=sz∧∃u S1 S2,w.cell? ⟨b,o+(i*sz+c),none⟩=some u∧u.oneCell'=true∧Fb w B t u S1∧BK S S1 S2∧
   ∀(w':World) (B':Nat→Prop) (t':T) (u':Value) (S1':Nat→Prop),(∀b,B b→B' b)→Fx B w w'→Fx S2 w w'→
    (∀x,o≤x→x≠o+(i*sz+c)→w'.cell? ⟨b,x,none⟩=w.cell? ⟨b,x,none⟩)→w'.cell? ⟨b,o+(i*sz+c),none⟩=some u'→u'.oneCell'=true→
    Fb w' B' t' u' S1'→(∀x,S1' x→¬S2 x)→Cf w' B' b o sz (rs.set i (row.set c t')) (fun x=>S1' x∨S2 x)
 | [],o,i,c,S,row,t,_,hr,_=>by simp at hr
 |r0::rs,o,0,c,S,row,t,hh,hr,hc=>by
  simp only[Cf]at hh
  obtain⟨Sa,Sb,h0,h1,h2,h3⟩:=hh
  simp at hr
  subst hr
  obtain⟨u,S1,S2,g1,g0,g2,g3,g4⟩:=h1.lens hc
  obtain⟨F,f1,f2⟩:=BK.assoc h3 g3
  simp only[Nat.zero_mul,Nat.zero_add]
  have hlt:c<r0.length:=(List.getElem?_eq_some_iff.1 hc).1
  refine⟨h0,u,S1,F,g1,g0,g2,f1, ?_⟩
  intro w' B' t' u' S1' hB hs hs2 hcell hu h1c hn hd
  simp only[List.set_cons_zero,Cf]
  refine⟨_,Sb,by simpa using h0,g4 w' B' t' u' S1' hB hs (fun x hx=>hs2 x (f2.left hx)) hcell hu h1c hn (fun x hx hx'=>hd x hx (f2.left hx')),
   Cf.same hB hs (fun x hx=>hcell x (by omega) (by omega)) (fun x hx=>hs2 x (f2.right hx)) h2, ?_⟩
  exact BK.put f2 hd
 |r0::rs,o,i+1,c,S,row,t,hh,hr,hc=>by
  simp only[Cf]at hh
  obtain⟨Sa,Sb,h0,h1,h2,h3⟩:=hh
  simp at hr
  obtain⟨hl,u,S1,S2,g1,g0,g2,g3,g4⟩:=Cf.lens h2 hr hc
  have he:o+sz+(i*sz+c)=o+((i+1)*sz+c):=by rw[Nat.add_mul];omega
  rw[he]at g1 g4
  obtain⟨F,f1,f2⟩:=BK.assoc h3.comm g3
  refine⟨hl,u,S1,F,g1,g0,g2,f1, ?_⟩
  intro w' B' t' u' S1' hB hs hs2 hcell hu h1c hn hd
  have hge:o+sz≤o+((i+1)*sz+c):=by rw[Nat.add_mul];omega
  simp only[List.set_cons_succ,Cf]
  refine⟨Sa,_,h0,Ng.same hB hs (fun x hx=>hcell x hx.1 (by omega)) (fun x hx=>hs2 x (f2.right hx)) h1,
   g4 w' B' t' u' S1' hB hs (fun x hx=>hs2 x (f2.left hx)) (fun x hx hne=>hcell x (by omega) hne) hu h1c hn (fun x hx hx'=>hd x hx (f2.left hx')), ?_⟩
  exact(BK.put f2 hd).comm
theorem jm {w:World} {b k:Nat} {cur:Array Value} {e:TypeId} {f:Nat×Nat} (h:w.heap[b]? =some (.cells cur e f)):w.cell? ⟨b,k,none⟩=cur[k]? :=by
 simp[World.cell?,h]
theorem H1.lens {w:World} {B:Nat→Prop}:∀(p:Path) {q:Option Addr} {cap:Nat} {rows:Rows} {S:Nat→Prop} {i c:Nat} {t:T},H1 w B q cap rows S→CR rows p i c=some t→
  ∃b k cur e u S1 S2,Bb w q rows p i c b k∧SW w b cur e∧cur[k]? =some u∧u.oneCell'=true∧Fb w B t u S1∧BK S S1 S2∧S2 b∧
   ∀(w':World) (B':Nat→Prop) (t':T) (u':Value) (S1':Nat→Prop),(∀b,B b→B' b)→Fx B w w'→(∀x,S2 x→x≠b→w'.heap[x]? =w.heap[x]?)→
    SW w' b (cur.setIfInBounds k u') e→u'.oneCell'=true→
    Fb w' B' t' u' S1'→(∀x,S1' x→¬S2 x)→H1 w' B' q cap (Bn rows p i c t') (fun x=>S1' x∨S2 x)
 | [],q,cap,rows,S,i,c,t,hh,hg=>by
  simp only[CR,D5,Option.bind_some]at hg
  obtain⟨row,hr,hc⟩:=Option.bind_eq_some_iff.1 hg
  rcases hh with ⟨_,_,h,_⟩|⟨b,sz,e,cur,S',h3,h4,h5,h6,h7,h8,h9,h10⟩
  ·subst h;simp at hr
  ·obtain⟨hl,u,S1,S2,g1,g0,g2,g3,g4⟩:=h10.lens hr hc
   obtain⟨F,f1,f2⟩:=BK.assoc h9.comm g3
   have hlt:c<row.length:=(List.getElem?_eq_some_iff.1 hc).1
   simp only[Nat.zero_add]at g1 g4
   have hcu:cur[i*sz+c]? =some u:=by rw[←g1,h4.cell _]
   refine⟨b,i*sz+c,cur,e,u,S1,F,⟨h3,row,hr,hlt,by rw[hl]⟩,h4,hcu,g0,g2,f1,f2.right rfl, ?_⟩
   intro w' B' t' u' S1' hB hs hs2 hb hu1 hn hd
   have hk:i*sz+c<cur.size:=by
    rcases Nat.lt_or_ge (i*sz+c) cur.size with h|h
    ·exact h
    ·simp[Array.getElem?_eq_none h]at hcu
   have hnb:∀x,S2 x→x≠b:=fun x hx e=>f2.2 x hx (by simpa using e)
   have hw:=g4 w' B' t' u' S1' hB hs (fun x hx=>hs2 x (f2.left hx) (hnb x hx))
    (fun x _ hne=>by rw[hb.cell _,h4.cell _,Array.getElem?_setIfInBounds_ne (Ne.symm hne)])
    (by rw[hb.cell _];simp[hk]) hu1 hn (fun x hx hx'=>hd x hx (f2.left hx'))
   refine .inr ⟨b,sz,e,cur.setIfInBounds (i*sz+c) u',fun x=>S1' x∨S2 x,h3,hb, ?_,h6,by simpa using h7,h8, ?_, ?_⟩
   ·simp only[Bn,ID,hr]
    exact⟨by simpa using h5.1,fun h=>h5.2 (List.length_eq_zero_iff.1 (by have:=congrArg List.length h;simpa using this))⟩
   ·exact(BK.put f2 hd).comm
   ·simp only[Bn,ID,hr];exact hw
 |(i0,c0)::p,q,cap,rows,S,i,c,t,hh,hg=>by
  simp only[CR,D5]at hg
  cases hrc:rows[i0]?.bind (·[c0]?)with
  |none=>simp[hrc]at hg
  |some t0=>
   cases t0 with
   |v x=>simp[hrc]at hg
   |hole=>simp[hrc]at hg
   |pp cs=>simp[hrc]at hg
   |fn f cs=>simp[hrc]at hg
   |sl own rows1=>
    cases own with
    |false=>simp[hrc]at hg
    |true=>
     simp only[hrc]at hg
     obtain⟨row,hr,hc⟩:=Option.bind_eq_some_iff.1 hrc
     rcases hh with ⟨_,_,h,_⟩|⟨b0,sz,e0,cur0,S',h3,h4,h5,h6,h7,h8,h9,h10⟩
     ·subst h;simp at hr
     ·obtain⟨hl,u0,T1,T2,g1,g0,g2,g3,g4⟩:=h10.lens hr hc
      simp only[Nat.zero_add]at g1 g4
      obtain⟨q1,cap1,hu0,hs1⟩:=FM.1 g2
      obtain⟨b,k,cur,e,u,S1,S2,l1,l2,l3,l4,l5,l6,l7,l8⟩:=H1.lens p hs1 hg
      obtain⟨F,f1,f2⟩:=BK.assoc h9.comm g3
      obtain⟨G,k1,k2⟩:=BK.assoc f1 l6
      have hlt:c0<row.length:=(List.getElem?_eq_some_iff.1 hc).1
      refine⟨b,k,cur,e,u,S1,G,⟨b0,row,rows1,q1,rows1.length,cap1,h3,hr,hc,by rw[hl,g1,hu0],l1⟩,l2,l3,l4,l5,k1,k2.left l7, ?_⟩
      intro w' B' t' u' S1' hB hs hs2 hb hu1 hn hd
      have hb0:b0≠b:=fun e=>by
       subst e
       exact f1.2 b0 (l6.right l7) (f2.right rfl)
      have hF0:∀x,F x→x≠b:=fun x hx e=>by subst e;exact f1.2 x (l6.right l7) hx
      have hw0:w'.heap[b0]? =w.heap[b0]? :=hs2 b0 (k2.right (f2.right rfl)) hb0
      have sub:=l8 w' B' t' u' S1' hB hs (fun x hx hne=>hs2 x (k2.left hx) hne) hb hu1 hn (fun x hx hx'=>hd x hx (k2.left hx'))
      have hlen:(Bn rows1 p i c t').length=rows1.length:=by
       cases p with
       |nil=>simp only[Bn,ID];split<;>simp
       |cons ic p=>
        obtain⟨i1,c1⟩:=ic
        simp only[Bn,ID]
        split
        ·split<;>simp
        ·rfl
      have hn0:Fb w' B' (.sl true (Bn rows1 p i c t')) u0 (fun x=>S1' x∨S2 x):=FM.2 ⟨q1,cap1,by rw[hlen];exact hu0,sub⟩
      have hd0:∀x,(S1' x∨S2 x)→¬T2 x:=fun x hx hx'=>by
       rcases hx with h|h
       ·exact hd x h (k2.right (f2.left hx'))
       ·exact f1.2 x (l6.right h) (f2.left hx')
      have hw:=g4 w' B' (.sl true (Bn rows1 p i c t')) u0 _ hB hs (fun x hx=>hs2 x (k2.right (f2.left hx)) (hF0 x (f2.left hx)))
       (fun x _ _=>Et hw0 x) (by rw[Et hw0];exact g1) g0 hn0 hd0
      refine .inr ⟨b0,sz,e0,cur0,fun x=>(S1' x∨S2 x)∨T2 x,h3,h4.same hw0, ?_,h6,h7,h8, ?_, ?_⟩
      ·exact⟨by rw[BZ];exact h5.1,fun h=>h5.2 (List.length_eq_zero_iff.1 (by have:=congrArg List.length h;simpa [BZ] using this))⟩
      ·obtain⟨H,m1,m2⟩:=BK.assoc (BK.put k2 hd).comm f2.comm
       exact m1.congr fun x=>(m2.1 x).trans Or.comm
      ·have he:Bn rows ((i0,c0)::p) i c t'=rows.set i0 (row.set c0 (.sl true (Bn rows1 p i c t'))):=by
        simp only[Bn,hrc,ID];rw[hr]
       rw[he];exact hw
end TT
namespace TT
open Go
abbrev Id := Nat×Nat
inductive V where
 |t (c:T)
 |nil
 |agg (cs:List V)
 |ref (id:Id) (n:Nat)
 |sub (id:Id) (p:Path) (i c n st:Nat)
 |ptr (id:Id) (p:Path) (i off n st:Nat)
 |pp (cs:List T)
 |fn (f:FuncId) (caps:List V)
 |tup (vs:List V)
 |vb (id:Id) (off st:Nat) (cs:List V)
 |vw (id:Id) (lo hi n:Nat) -- a part of an owned list of one-cell rows
 |dead
 deriving Inhabited
inductive FA where
 |dead
 |mem (rows:Rows) (st:Nat) (fix:Bool)
 deriving Inhabited
abbrev R := List (List FA)
def Ac (r:R) (id:Id):FA:=(r.getD id.1 []).getD id.2 .dead
def C3 (r:R) (id:Id) (e:FA):R:=r.set id.1 ((r.getD id.1 []).set id.2 e)
inductive NH where
 |t (c:T)
 |agg (cs:List NH)
 |ln (rows:Rows)
 |lp (cells:List T) (off:Nat)
 |pp (cells:List T)
 |fn (f:FuncId) (caps:List NH)
 deriving Inhabited
inductive RV where
 |t (c:T)
 |agg (cs:List T)
 |box (cells:List T)
 deriving Inhabited
structure BD where
 vals:List RV
 after:List (Option Rows)
 deriving Inhabited
inductive M (α:Type) where
 |ret (v:α)
 |fail
 |get (id:Id) (k:FA→M α)
 |set (id:Id) (e:FA) (m:M α)
 |new (es:List FA) (m:M α)
 |call (f:FuncId) (args:List NH) (k:BD→M α)
abbrev Ai := FuncId→List NH→Option BD
def M.run {α:Type} (call:Ai) (d:Nat):M α→R→Option (α×R)
 | .ret v,r=>some (v,r)
 | .fail,_=>none
 | .get id k,r=>(k (Ac r id)).run call d r
 | .set id e m,r=>m.run call d (C3 r id e)
 | .new es m,r=>if d<r.length&&(r.getD d []).isEmpty then m.run call d (r.set d es)else none
 | .call f args k,r=>(call f args).bind fun res=>(k res).run call d r
def M.runA {α:Type} (call:Ai) (d:Nat) (rd wr:List Nat):M α→R→Option (α×R)
 | .ret v,r=>some (v,r)
 | .fail,_=>none
 | .get id k,r=>if rd.contains id.1||wr.contains id.1 then(k (Ac r id)).runA call d rd wr r else none
 | .set id e m,r=>if wr.contains id.1 then m.runA call d rd wr (C3 r id e)else none
 | .new es m,r=>if wr.contains d&&(d<r.length&&(r.getD d []).isEmpty)then m.runA call d rd wr (r.set d es)else none
 | .call f args k,r=>(call f args).bind fun res=>(k res).runA call d rd wr r
def tV : T→V
 | .pp cs=> .pp cs
 | .fn f cs=> .fn f (cs.map V.pp)
 |t=> .t t
def jn : List V→Option (List (List T))
 | []=>some []
 | .pp cs::vs=>(jn vs).map fun r=>cs::r
 |_=>none
def T.isOwn : T→Bool
 | .sl true _=>true
 |_=>false
def Lq (id:Id) (p:Path) (i c st:Nat):T→V
 | .v x=> .t (.v x)
 | .sl true rows=> .sub id p i c rows.length st
 | .sl false rows=> .t (.sl false rows)
 | .hole=> .dead
 | .pp cs=> .pp cs
 | .fn f cs=> .fn f (cs.map V.pp)
def Pb (id:Id) (p:Path) (i c st:Nat):List T→List V
 | []=>[]
 |t::ts=>Lq id p i c st t::Pb id p i (c+1) st ts
def Dw (rows:Rows) (stt:Nat) (p:Path) (i n st:Nat):Option (List T):=
 match p with
 | []=>if rows.length=n then rows[i]? else none
 |_::_=>if st=stt then(D5 rows p).bind (·[i]?)else none
def K0 (rows:Rows) (p:Path) (i c:Nat):List T→Rows
 | []=>rows
 |t::ts=>K0 (Bn rows p i c t) p i (c+1) ts
def cellsOf : V→List V
 | .agg cs=>cs
 |v=>[v]
def take {α:Type}:V→(T→M α)→M α
 | .t c,k=>k c
 | .nil,k=>k (.sl true [])
 | .ref id n,k=> .get id fun
   | .mem rows _ fx=>if rows.length=n then .set id .dead (k (.sl true rows))else .fail
   |_=> .fail
 | .sub id p i c n st,k=> .get id fun
   | .mem rows stt fx=>if st=stt then(match CR rows p i c with
     |some (.sl true rs)=>if rs.length=n then .set id (.mem (Bn rows p i c .hole) stt fx) (k (.sl true rs))else .fail
     |_=> .fail)else .fail
   |_=> .fail
 | .pp cs,k=>k (.pp cs)
 | .fn f caps,k=>match jn caps with
  |some cs=>k (.fn f cs)
  |none=> .fail
 |_,_=> .fail
def FN {α:Type}:List V→(List T→M α)→M α
 | [],k=>k []
 |v::vs,k=>take v fun t=>FN vs fun ts=>k (t::ts)
def E2 {α:Type} (vss:List (List V)) (k:Rows→M α):M α:=
 match vss with
 | []=>k []
 |vs::vss=>FN vs fun r=>E2 vss fun rs=>k (r::rs)
def GO {α:Type}:V→(Rows→M α)→M α
 | .t (.sl _ rows),k=>k rows
 | .nil,k=>k []
 | .ref id n,k=> .get id fun
   | .mem rows _ _=>if rows.length=n then k rows else .fail
   |_=> .fail
 | .sub id p i c n st,k=> .get id fun
   | .mem rows stt _=>if st=stt then(match CR rows p i c with
     |some (.sl true rs)=>if rs.length=n then k rs else .fail
     |_=> .fail)else .fail
   |_=> .fail
 |_,_=> .fail
def IT {α:Type}:V→(Rows→M α)→M α
 | .t (.sl _ rows),k=>k rows
 | .t (.v (.slice _ 0 _)),k=>k []
 |v,k=>take v fun
   | .sl true rows=>k rows
   |_=> .fail
def Tg (op:BinOp) (k:IntKind) (a b:Int):Option Value:=
 match op with
 | .add=>some (.int k (k.wrap (a+b)))
 | .sub=>some (.int k (k.wrap (a-b)))
 | .mul=>some (.int k (k.wrap (a*b)))
 | .quo=>if b=0 then none else some (.int k (k.wrap (a.tdiv b)))
 | .rem=>if b=0 then none else some (.int k (a.tmod b))
 | .and=>some (.int k (Go.bits .and k a b))
 | .or=>some (.int k (Go.bits .or k a b))
 | .xor=>some (.int k (Go.bits .xor k a b))
 | .andNot=>some (.int k (Go.bits .andNot k a b))
 | .eql=>some (.bool (a==b))
 | .neq=>some (.bool (a != b))
 | .lss=>some (.bool (decide (a<b)))
 | .leq=>some (.bool (decide (a≤b)))
 | .gtr=>some (.bool (decide (a>b)))
 | .geq=>some (.bool (decide (a≥b)))
 |_=>none
def A2F (op:BinOp) (x y:ByteArray):Option Value:=
 match op with
 | .add=>if x.size+y.size≤9223372036854775807 then some (.string (x++y))else none
 | .eql=>some (.bool (x.toList==y.toList))
 | .neq=>some (.bool (!(x.toList==y.toList)))
 | .lss=>some (.bool (Op.bytesLess x.toList y.toList))
 | .leq=>some (.bool (Op.bytesLess x.toList y.toList||x.toList==y.toList))
 | .gtr=>some (.bool (!(Op.bytesLess x.toList y.toList||x.toList==y.toList)))
 | .geq=>some (.bool (!(Op.bytesLess x.toList y.toList)))
 |_=>none
def EC (op:BinOp):Value→Value→Option Value
 | .int k a, .int yk b=>match op with
  | .shl=>if b<0 then none else some (.int k (k.wrap (a*2^(min b.toNat k.bits))))
  | .shr=>if b<0 then none else some (.int k (a.fdiv (2^(min b.toNat k.bits))))
  |_=>if k=yk then Tg op k a b else none
 | .string a, .string b=>A2F op a b
 |_,_=>none
inductive FK where
 |int|str|bool
 deriving Inhabited,DecidableEq
def eqK : FK→V→V→Option Bool
 | .int, .t (.v (.int k a)), .t (.v (.int k' b))=>if k=k' then some (a==b)else none
 | .str, .t (.v (.string a)), .t (.v (.string b))=>some (a.toList==b.toList)
 | .bool, .t (.v (.bool a)), .t (.v (.bool b))=>some (a==b)
 |_,_,_=>none
def eZ : List FK→List V→List V→Option Bool
 | [],[],[]=>some true
 |k::ks,a::as,b::bs=>(eqK k a b).bind fun e=>(eZ ks as bs).map fun r=>e&&r
 |_,_,_=>none
inductive Cv where
 |int (k:IntKind)
 |rune
 |same
 |str -- bytes as a string
 |bytes -- a string as bytes (shared)
 deriving Inhabited
def DZ (s:ByteArray):Rows:=s.data.toList.map fun b=>[.v (.int .u8 (b.toNat:Int))]
def tu (s:ByteArray):FA:=if s.size=0 then .dead else .mem (DZ s) 0 false
def gK (c:Cv):V→Option V
 | .t (.v (.int k n))=>match c with
  | .int k'=>some (.t (.v (.int k' (k'.wrap n))))
  | .rune=>some (.t (.v (.string (Utf8.encode n))))
  |_=>none
 | .t (.v (.string s))=>match c with
  | .same=>some (.t (.v (.string s)))
  | .bytes=>if s.size≤maxLen then some (.t (.sl false (DZ s)))else none
  |_=>none
 |_=>none
inductive Md where
 |val|ref|give
 deriving Inhabited
def X7 : Rows→Bool
 | []=>true
 | [.v _]::rs=>X7 rs
 |_=>false
def DR : Rows→Option (List UInt8)
 | []=>some []
 | [.v (.int .u8 n)]::rs=>(DR rs).map fun l=>UInt8.ofNat n.toNat::l
 |_=>none
inductive D2 where
 |s (t:Nat)
 |c (x:Value)
 |f (f:FuncId)
 |z (cs:List T) -- a struct of constants
 deriving Inhabited
def Uw : Value→V
 | .slice none 0 0=> .nil
 |x=> .t (.v x)
def V.one : V→Bool
 | .t _| .nil| .ref .. | .sub .. | .ptr .. =>true
 |_=>false
def A9 (s:List V):D2→V
 | .s t=>s.getD t .dead
 | .c x=>Uw x
 | .f f=> .fn f []
 | .z cs=> .agg (cs.map fun c=>match c with| .sl true []=>V.nil|c=>V.t c)
def gL : V→Option Id
 | .ptr id p i off m _=>if p.isEmpty&&(i==0&&(off==0&&m==1))then some id else none
 | .vb id off _ _=>if off==0 then some id else none
 |_=>none
inductive O where
 |mv (x:D2)
 |pick (c a b:D2)
 |alloc (z:List T)
 |box (x:D2)
 |vbox (x:D2)
 |vst (n:Nat) (x y:D2)
 |build (z:List T) (parts:List (Nat×Nat×D2))
 |bsl (sz:Nat) (parts:List D2)
 |bslz (sz:Nat) (parts:List D2) -- shared at once
 |ld (n:Nat) (ag:Bool) (x:D2)
 |ldr (x:D2) -- one cell out of a root itself
 |st (n:Nat) (x y:D2)
 |stk (x y:D2) -- a list is stored;its slot is the place from then on
 |nilc (x:D2)
 |bin (op:BinOp) (x y:D2)
 |eqs (ne:Bool) (ks:List FK) (x y:D2)
 |beq (ne:Bool) (x y:D2)
 |eqn (ne:Bool) (x:D2)
 |eqi (ne:Bool) (x:D2)
 |un (op:UnOp) (x:D2)
 |conv (c:Cv) (x:D2)
 |mks (z:List T) (byt:Nat) (x:D2)
 |slc (sz:Nat) (x:D2) (lo hi:Option D2)
 |vws (x:D2) (lo hi:Option D2) -- a part of an owned list
 |cut (x y:D2) -- append(l[:i],l[j:]...),l owned,i<j
 |cvo (x:D2) -- a string as bytes of one's own
 |aps (byt:Nat) (s x:D2) -- a string's bytes appended
 |fa (off:Nat) (x:D2)
 |fld (off n:Nat) (ag:Bool) (x:D2)
 |ia (sz:Nat) (x i:D2)
 |ix (x i:D2)
 |ixa (sz len:Nat) (ag:Bool) (x i:D2)
 |call (f:FuncId) (md:List Md) (own:List Bool) (args:List D2)
 |callv (x:D2) (md:List Md) (own:List Bool) (args:List D2)
 |app (sz byt:Nat) (s x:D2)
 |appn (q sz byt:Nat) (s x:D2) -- to a list below the cells of the root q
 |len (str:Bool) (x:D2)
 |mm (mx:Bool) (x y:D2)
 |ext (x:D2) (i:Nat)
 |mkf (f:FuncId) (caps:List D2)
 deriving Inhabited
inductive Ep where
 |root (id:Id) (st:Nat) (fx:Bool) (rows:Rows)
 |cell (id:Id) (p:Path) (i c:Nat)
 |none
 deriving Inhabited
inductive PA where
 |a (x:NH)
 |v (v:V)
 deriving Inhabited
def PA.arg : PA→NH
 | .a x=>x
 | .v _=> .t .hole
mutual
def FB {α:Type} (md:Md):V→(PA→List Ep→M α)→M α
 | .t c,k=>k (.a (.t c)) []
 | .nil,k=>match md with
  | .ref=>k (.a (.ln [])) [.none]
  |_=>k (.a (.t (.sl false []))) []
 | .agg cs,k=>match md with
  | .val=>k (.v (.agg cs)) []
  |_=>Th md cs fun as bs=>k (.a (.agg (as.map PA.arg))) bs
 | .ref id n,k=>match md with
  | .val=>k (.v (.ref id n)) []
  | .ref=> .get id fun
   | .mem rows st fx=>if rows.length=n then .set id .dead (k (.a (.ln rows)) [.root id st fx rows])else .fail
   |_=> .fail
  | .give=> .get id fun
   | .mem rows st fx=>if rows.length=n then .set id .dead (k (.a (.t (.sl false (Az rows)))) [])else .fail
   |_=> .fail
 | .sub id p i c n st,k=>match md with
  | .val=>k (.v (.sub id p i c n st)) []
  | .ref=> .get id fun
   | .mem rows stt fx=>if st=stt then(match CR rows p i c with
     |some (.sl true rs)=>if rs.length=n then .set id (.mem (Bn rows p i c .hole) (stt+1) fx) (k (.a (.ln rs)) [.cell id p i c])else .fail
     |_=> .fail)else .fail
   |_=> .fail
  | .give=> .fail
 | .ptr id p i off n st,k=>if p.isEmpty&&i=0&&n=1 then .get id fun
   | .mem [cells] stt fx=>if off<cells.length then .set id .dead (k (.a (.lp cells off)) [.root id stt fx [cells]])else .fail
   |_=> .fail else .fail
 | .pp cs,k=>k (.a (.pp cs)) []
 | .fn f caps,k=>Th .ref caps fun as bs=>k (.a (.fn f (as.map PA.arg))) bs
 | .tup _,_=> .fail
 | .vb ..,_=> .fail
 | .vw ..,_=> .fail
 | .dead,_=> .fail
def Th {α:Type} (md:Md):List V→(List PA→List Ep→M α)→M α
 |v::vs,k=>FB md v fun a b=>Th md vs fun as bs=>k (a::as) (b++bs)
 | [],k=>k [] []
end
def Ja {α:Type}:List Md→List V→(List PA→List Ep→M α)→M α
 |md,v::vs,k=>FB (md.headD .val) v fun a b=>Ja md.tail vs fun as bs=>k (a::as) (b++bs)
 |_,[],k=>k [] []
def IF {α:Type}:V→(T→M α)→M α
 | .t c,k=>k c
 | .nil,k=>k (.sl false [])
 |v,k=>GO v fun rows=>k (.sl false (Az rows))
def RF {α:Type}:List V→(List T→M α)→M α
 | [],k=>k []
 |v::vs,k=>IF v fun t=>RF vs fun ts=>k (t::ts)
def WU {α:Type}:PA→(NH→M α)→M α
 | .a x,k=>k x
 | .v (.agg cs),k=>RF cs fun ts=>k (.agg (ts.map NH.t))
 | .v v,k=>IF v fun t=>k (.t t)
def Sv {α:Type}:List PA→(List NH→M α)→M α
 | [],k=>k []
 |p::ps,k=>WU p fun a=>Sv ps fun as=>k (a::as)
def FC {α:Type}:List Ep→List (Option Rows)→M α→M α
 | [],[],m=>m
 | .root id st fx rows0::bs,o::os,m=> .get id fun
   | .dead=>(match o with
    |some rows=>if rows.map (·.length)=rows0.map (·.length)then .set id (.mem rows (st+1) fx) (FC bs os m)else .fail
    |none=>FC bs os m)
   |_=> .fail
 | .cell id p i c::bs,o::os,m=> .get id fun
   | .mem rows stt fx=>(match o with
    |some rs=> .set id (.mem (Bn rows p i c (.sl true rs)) (stt+1) fx) (FC bs os m)
    |none=>FC bs os m)
   |_=> .fail
 | .none::bs,_::os,m=>FC bs os m
 |_,_,_=> .fail
def Bf : List Ep→List Id
 | []=>[]
 | .root id _ _ _::bs=>id::Bf bs
 | .cell id _ _ _::bs=>id::Bf bs
 | .none::bs=>Bf bs
def Da : List Id→Bool
 | []=>true
 |a::l=> !l.contains a&&Da l
def Vh (d:Nat) (own:Bool) (k:Nat):T→V×List FA
 | .sl o rows=>if own&&o then(.ref (d,k) rows.length,[.mem rows 0 false])else(.t (.sl false (Az rows)),[])
 | .v x=>(.t (.v x),[])
 | .hole=>(.dead,[])
 | .pp _=>(.dead,[])
 | .fn _ _=>(.dead,[])
def jo (d:Nat) (own:Bool) (k:Nat):List T→List V×List FA
 | []=>([],[])
 |t::ts=>let a:=Vh d own k t;let b:=jo d own (k+a.2.length) ts;(a.1::b.1,a.2++b.2)
def RG (d:Nat) (own:Bool) (k:Nat):RV→V×List FA
 | .t c=>Vh d own k c
 | .agg cs=>let a:=jo d own k cs;(.agg a.1,a.2)
 | .box cells=>(.ptr (d,k) [] 0 0 1 0,[.mem [cells] 0 false])
def J6 (d k:Nat):List Bool→List RV→List V×List FA
 |_,[]=>([],[])
 |own,v::vs=>let a:=RG d (own.headD false) k v;let b:=J6 d (k+a.2.length) own.tail vs;(a.1::b.1,a.2++b.2)
def Ub (vs:List V):V:=match vs with| [v]=>v|_=> .tup vs
def V.isOwned : V→Bool
 | .ref _ _=>true
 | .sub .. =>true
 |_=>false
def PA.reads : PA→Bool
 | .a _=>false
 | .v (.agg cs)=>cs.any V.isOwned
 | .v x=>x.isOwned
mutual
def allOwn : T→Bool
 | .v _=>true
 | .sl o rows=>o&&Bc rows
 | .hole=>true
 | .pp _=>false
 | .fn _ _=>false
def De : List T→Bool
 | []=>true
 |t::ts=>allOwn t&&De ts
def Bc : List (List T)→Bool
 | []=>true
 |r::rs=>De r&&Bc rs
end
def RV.allOwn : RV→Bool
 | .t c=>TT.allOwn c
 | .agg cs=>De cs
 | .box cs=>De cs
def BD.allOwn (r:BD):Bool:=r.vals.all RV.allOwn&&r.after.all fun o=>match o with|some rows=>Bc rows|none=>true
def Xr (d:Nat) (f:FuncId) (md:List Md) (own:List Bool) (args:List V):M V:=
 Ja md args fun ps bs=>if !Da (Bf bs)then .fail else Sv ps fun as=> .call f as fun res=>if(ps.any PA.reads)&& !res.allOwn then .fail else FC bs res.after
  (let a:=J6 d 0 own res.vals;if a.2.isEmpty then .ret (Ub a.1)else .new a.2 (.ret (Ub a.1)))
def LIM : Nat:=140737488351232
def A0F (cs:List V) (k:Nat):List V→List V
 | []=>cs
 |v::vs=>A0F (cs.set k v) (k+1) vs
def V.isDead : V→Bool
 | .dead=>true
 |_=>false
def bld (s cs:List V):List (Nat×Nat×D2)→Option (List V)
 | []=>some cs
 |q::qs=>if(A9 s q.2.2).isDead=false∧(cellsOf (A9 s q.2.2)).length=q.2.1∧q.1+q.2.1≤cs.length then bld s (A0F cs q.1 (cellsOf (A9 s q.2.2))) qs else none
def jp (id:Id) (p:Path) (i off st:Nat):List T→V
 | [.sl true rs]=> .sub id p i off rs.length st
 |_=> .dead
def BL (s:List V) (d:Nat):O→M V
 | .mv x=> .ret (A9 s x)
 | .pick c a b=>match A9 s c with
  | .t (.v (.bool t))=> .ret (if t then A9 s a else A9 s b)
  |_=> .fail
 | .alloc z=> .new [.mem [z] 0 false] (.ret (.ptr (d,0) [] 0 0 1 0))
 | .box x=>FN (cellsOf (A9 s x)) fun ts=>if ts.isEmpty then .fail else .new [.mem [ts] 0 false] (.ret (.ptr (d,0) [] 0 0 1 0))
 | .vbox x=>match A9 s x with
  | .agg cs=>if cs.isEmpty|| !cs.all V.one then .fail else .new [.mem [List.replicate cs.length .hole] 0 false] (.ret (.vb (d,0) 0 0 cs))
  |_=> .fail
 | .vst n x y=>match gL (A9 s x),A9 s y with
  |some id, .agg cs=>if cs.length=n∧cs.all V.one=true then .get id fun
    | .mem [row] stt fx=>if row.length=n then .set id (.mem [List.replicate n .hole] (stt+1) fx) (.ret (.vb id 0 (stt+1) cs))else .fail
    |_=> .fail else .fail
  |_,_=> .fail
 | .build z parts=>match bld s (z.map fun c=>match c with| .sl true []=>V.nil|c=>V.t c) parts with
  |some cs=> .ret (.agg cs)
  |none=> .fail
 | .bsl sz parts=>E2 (parts.map fun q=>cellsOf (A9 s q)) fun rs=>if rs.all fun r=>r.length==sz then .new [.mem rs 0 false] (.ret (.ref (d,0) rs.length))else .fail
 | .bslz sz parts=>E2 (parts.map fun q=>cellsOf (A9 s q)) fun rs=>if rs.all fun r=>r.length==sz then .new [.mem rs 0 false] (.set (d,0) .dead (.ret (.t (.sl false (Az rs)))))else .fail
 | .ld n ag x=>match A9 s x with
  | .ptr id p i off m st=> .get id fun
    | .mem rows stt _=>(match Dw rows stt p i m st with
     |some row=>if off+n≤row.length then
       (let vs:=Pb id p i off stt ((row.drop off).take n);if ag then .ret (.agg vs)else match vs with| [v]=> .ret v|_=> .fail)else .fail
     |none=> .fail)
    |_=> .fail
  | .vb id off st cs=> .get id fun
    | .mem rows stt _=>if(st=stt∧rows.length=1)∧off+n≤cs.length then
       (let vs:=(cs.drop off).take n;if ag then .ret (.agg vs)else match vs with| [v]=> .ret v|_=> .fail)else .fail
    |_=> .fail
  | .pp cs=>if n≤cs.length then(let vs:=(cs.take n).map tV;if ag then .ret (.agg vs)else match vs with| [v]=> .ret v|_=> .fail)else .fail
  |_=> .fail
 | .ldr x=>match A9 s x with
  | .ptr id p i off m st=>if p=[]then .get id fun
    | .mem rows stt _=>(match Dw rows stt p i m st with
     |some row=>(match row[off]? with
      |some t=> .ret (Lq id p i off stt t)
      |none=> .fail)
     |none=> .fail)
    |_=> .fail else .fail
  |_=> .fail
 | .st n x y=>match A9 s x with
  | .ptr id p i off m st=>FN (cellsOf (A9 s y)) fun ts=> .get id fun
    | .mem rows stt fx=>(match Dw rows stt p i m st with
     |some row=>if ts.length=n∧off+n≤row.length then
       .set id (.mem (K0 rows p i off ts) (stt+1) fx) (.ret .dead)else .fail
     |none=> .fail)
    |_=> .fail
  |_=> .fail
 | .stk x y=>match A9 s x,A9 s y with
  | .ptr id p i off m st, .ref id2 n2=>FN [.ref id2 n2] fun ts=> .get id fun
    | .mem rows stt fx=>(match Dw rows stt p i m st with
     |some row=>if ts.length=1∧off+1≤row.length then
       .set id (.mem (K0 rows p i off ts) (stt+1) fx) (.ret (jp id p i off (stt+1) ts))else .fail
     |none=> .fail)
    |_=> .fail
  |_,_=> .fail
 | .nilc x=>match A9 s x with
  | .ptr a b c d e f=> .ret (.ptr a b c d e f)
  | .vb id o st cs=> .ret (.vb id o st cs)
  | .pp cs=> .ret (.pp cs)
  | .fn f caps=> .ret (.fn f caps)
  |_=> .fail
 | .bin op x y=>match A9 s x,A9 s y with
  | .t (.v a), .t (.v b)=>match EC op a b with|some r=> .ret (.t (.v r))|none=> .fail
  |_,_=> .fail
 | .eqs ne ks x y=>match A9 s x,A9 s y with
  | .agg as, .agg bs=>match eZ ks as bs with|some r=> .ret (.t (.v (.bool (if ne then !r else r))))|none=> .fail
  |_,_=> .fail
 | .beq ne x y=>match A9 s x,A9 s y with
  | .t (.v (.bool a)), .t (.v (.bool b))=> .ret (.t (.v (.bool (if ne then !(a==b)else a==b))))
  |_,_=> .fail
 | .eqi ne x=>match A9 s x with
  | .t (.v .nilIface)=> .ret (.t (.v (.bool (!ne))))
  |_=> .fail
 | .eqn ne x=>match A9 s x with
  | .nil=> .ret (.t (.v (.bool (!ne))))
  | .t (.v (.slice q _ _))=> .ret (.t (.v (.bool (if ne then !q.isNone else q.isNone))))
  | .t (.sl _ (_::_))=> .ret (.t (.v (.bool ne)))
  |_=> .fail
 | .un op x=>match op,A9 s x with
  | .not, .t (.v (.bool b))=> .ret (.t (.v (.bool (!b))))
  | .neg, .t (.v (.int k n))=> .ret (.t (.v (.int k (k.wrap (0-n)))))
  |_,_=> .fail
 | .conv c x=>match c with
  | .str=>match A9 s x with
   | .sub .. => .fail
   |v=>GO v fun rows=>match DR rows with|some l=> .ret (.t (.v (.string ⟨l.toArray⟩)))|none=> .fail
  |_=>match gK c (A9 s x)with|some v=> .ret v|none=> .fail
 | .mks z byt x=>match A9 s x with
  | .t (.v (.int _ n))=>if 0≤n∧n.toNat*byt≤LIM∧0<byt then .new [.mem (List.replicate n.toNat z) 0 false] (.ret (.ref (d,0) n.toNat))else .fail
  |_=> .fail
 | .slc sz x lo hi=>
  let b (o:Option D2) (e:Int):Option Int:=match o with
   |none=>some e
   |some q=>match A9 s q with| .t (.v (.int _ n))=>some n|_=>none
  match A9 s x with
  | .t (.v (.string st))=>match b lo 0,b hi st.size with
   |some l,some h=>if(0≤l∧l≤h∧h≤st.size)∧sz=0 then .ret (.t (.v (.string (st.extract l.toNat h.toNat))))else .fail
   |_,_=> .fail
  | .t (.sl _ rows)=>match b lo 0,b hi rows.length with
   |some l,some h=>if(0≤l∧l≤h∧h≤rows.length)∧0<sz∧(rows.all fun r=>r.length==sz)then .ret (.t (.sl false ((rows.drop l.toNat).take (h.toNat-l.toNat))))else .fail
   |_,_=> .fail
  |_=> .fail
 | .vws x lo hi=>
  let b (o:Option D2) (e:Int):Option Int:=match o with
   |none=>some e
   |some q=>match A9 s q with| .t (.v (.int _ n))=>some n|_=>none
  match A9 s x with
  | .ref id n=>match b lo 0,b hi n with
   |some l,some h=>if(0≤l∧l≤h∧h≤n)∧0<n then .ret (.vw id l.toNat h.toNat n)else .fail
   |_,_=> .fail
  |_=> .fail
 | .cut x y=>match A9 s x,A9 s y with
  | .vw id l1 h1 n, .vw id2 l2 h2 n2=>if(id2=id∧n2=n)∧l1=0∧h1<l2∧l2≤n∧h2=n then .get id fun
    | .mem rows _ _=>if rows.length=n∧X7 rows=true then .set id .dead (.ret (.t (.sl false (rows.take h1++rows.drop l2))))else .fail
    |_=> .fail else .fail
  |_,_=> .fail
 | .cvo x=>match A9 s x with
  | .t (.v (.string st))=>if st.size≤maxLen then .new [tu st] (.ret (.ref (d,0) st.size))else .fail
  |_=> .fail
 | .aps byt a x=>match A9 s x with
  | .t (.v (.string t))=>(match A9 s a with
   | .ref id n=> .get id fun
    | .mem rows st _=>if rows.length=n∧(n+t.size)*byt≤LIM∧0<byt∧(rows.all fun r=>r.length==1)then .set id (.mem (rows++DZ t) st false) (.ret (.ref id (n+t.size)))else .fail
    |_=> .fail
   |_=> .fail)
  |_=> .fail
 | .fa off x=>match A9 s x with
  | .ptr id p i o n st=> .ret (.ptr id p i (o+off) n st)
  | .vb id o st cs=> .ret (.vb id (o+off) st cs)
  | .pp cs=> .ret (.pp (cs.drop off))
  |_=> .fail
 | .fld off n ag x=>match A9 s x with
  | .agg cs=>if off+n≤cs.length then(let vs:=(cs.drop off).take n;if ag then .ret (.agg vs)else match vs with| [v]=> .ret v|_=> .fail)else .fail
  |_=> .fail
 | .ia sz x i=>match A9 s i with
  | .t (.v (.int _ n))=>if 0≤n then(match A9 s x with
   | .t (.sl _ rows)=>(match rows[n.toNat]? with|some row=>if row.length=sz then .ret (.pp row)else .fail|none=> .fail)
   | .ref id m=> .get id fun
     | .mem rows _ _=>if rows.length=m then(match rows[n.toNat]? with|some row=>if row.length=sz then .ret (.ptr id [] n.toNat 0 m 0)else .fail|none=> .fail)else .fail
     |_=> .fail
   | .sub id p j c m st=> .get id fun
     | .mem rows stt _=>if st=stt then(match CR rows p j c with
      |some (.sl true rs)=>if rs.length=m then(match rs[n.toNat]? with|some row=>if row.length=sz then .ret (.ptr id (p++[(j,c)]) n.toNat 0 m st)else .fail|none=> .fail)else .fail
      |_=> .fail)else .fail
     |_=> .fail
   |_=> .fail)else .fail
  |_=> .fail
 | .ix x i=>match A9 s x,A9 s i with
  | .t (.v (.string st)), .t (.v (.int _ n))=>if h:0≤n∧n.toNat<st.size then .ret (.t (.v (.int .u8 (st[n.toNat]'h.2).toNat)))else .fail
  |_,_=> .fail
 | .ixa sz len ag x i=>match A9 s x,A9 s i with
  | .agg cs, .t (.v (.int _ n))=>if 0≤n∧n<len∧cs.length=len*sz then
    (let vs:=(cs.drop (n.toNat*sz)).take sz;if ag then .ret (.agg vs)else match vs with| [v]=> .ret v|_=> .fail)else .fail
  |_,_=> .fail
 | .call f md own args=>Xr d f md own (args.map (A9 s))
 | .callv x md own args=>match A9 s x with
  | .fn f caps=>Xr d f (md++(caps.map fun _=>Md.ref)) own (args.map (A9 s)++caps)
  |_=> .fail
 | .app sz byt a x=>IT (A9 s x) fun new=>if new.all fun r=>r.length==sz then(match A9 s a with
  | .nil=>if new.length*byt≤LIM∧0<byt then .new [.mem new 0 false] (.ret (.ref (d,0) new.length))else .fail
  | .ref id n=> .get id fun
    | .mem rows st _=>if rows.length=n∧(n+new.length)*byt≤LIM∧0<byt∧(rows.all fun r=>r.length==sz)then .set id (.mem (rows++new) st false) (.ret (.ref id (n+new.length)))else .fail
    |_=> .fail
  | .sub id p i c n st=>take (.sub id p i c n st) fun
    | .sl true rows=>if(rows.length+new.length)*byt≤LIM∧0<byt∧(rows.all fun r=>r.length==sz)then .new [.mem (rows++new) 0 false] (.ret (.ref (d,0) (rows.length+new.length)))else .fail
    |_=> .fail
  |_=> .fail)else .fail
 | .appn q sz byt a x=>match A9 s a,A9 s x with
  | .sub id p i c n st, .ref id2 n2=>if p≠[]∧id.1=q∧id2.1≠q then IT (.ref id2 n2) fun new=>if new.all fun r=>r.length==sz then take (.sub id p i c n st) fun
    | .sl true rows=>if(rows.length+new.length)*byt≤LIM∧0<byt∧(rows.all fun r=>r.length==sz)then .new [.mem (rows++new) 0 false] (.ret (.ref (d,0) (rows.length+new.length)))else .fail
    |_=> .fail else .fail else .fail
  |_,_=> .fail
 | .len str x=>match str,A9 s x with
  |true, .t (.v (.string st))=> .ret (.t (.v (.int .i64 st.size)))
  |false, .t (.sl _ rows)=> .ret (.t (.v (.int .i64 rows.length)))
  |false, .nil=> .ret (.t (.v (.int .i64 0)))
  |false, .ref _ n=> .ret (.t (.v (.int .i64 n)))
  |false, .sub _ _ _ _ n _=> .ret (.t (.v (.int .i64 n)))
  |_,_=> .fail
 | .mm mx x y=>match A9 s x,A9 s y with
  | .t (.v (.int k a)), .t (.v (.int _ b))=> .ret (.t (.v (.int k (if mx then(if a<b then b else a)else(if b<a then b else a)))))
  |_,_=> .fail
 | .ext x i=>match A9 s x with
  | .tup vs=>match vs[i]? with|some v=> .ret v|none=> .fail
  |_=> .fail
 | .mkf f caps=> .ret (.fn f (caps.map (A9 s)))
structure FD where
 d:Option Nat
 g:Option (Nat×Bool)
 o:O
 rd:List Nat:=[]
 wr:List Nat:=[]
 deriving Inhabited
@[simp] abbrev oo (d:Nat) (o:O) : FD := ⟨some d, none, o, [], []⟩
@[simp] abbrev ow (d g:Nat) (w:Bool) (o:O) : FD := ⟨some d, some (g, w), o, [], []⟩
@[simp] abbrev on (o:O) : FD := ⟨none, none, o, [], []⟩
inductive H where
 |kill (ts:List Nat)
 |clean (ts:List Nat)
 |freeze (t:Nat)
 |own (t d:Nat)
 |home (t d:Nat)
 |frzc (d k:Nat)
 |frzr (d k:Nat)
 |frzb (d k:Nat)
 |opn (d:Nat) -- what is owned at d is there
 deriving Inhabited
inductive K where
 |skip
 |reg (draw:Bool) (ops:List FD)
 |seq (a b:K)
 |cond (x:D2) (a b:K)
 |blk (id:Nat) (b:K)
 |loop (b:K)
 |ex (id:Nat)
 |ret
 |h (hs:List H) (k:K)
 |hp (hs:List H) (k:K)
 deriving Inhabited
inductive Ex where
 |normal
 |exit (id:Nat)
 |ret
 deriving Inhabited
structure St where
 s:List V
 r:R
 deriving Inhabited
def St.put (st:St) (d:Option Nat) (v:V):St:=match d with
 |some t=>{ st with s:=st.s.set t v }
 |none=>st
def Hv (s:List V):Option (Nat×Bool)→Option Bool
 |none=>some true
 |some (t,want)=>match s.getD t .dead with
  | .t (.v (.bool b))=>some (b==want)
  | .tup []=>some false
  |_=>none
def Dl (call:Ai) (draw:Bool) (e:FD) (st:St):Option St:=
 (Hv st.s e.g).bind fun w=>if w then
  ((if draw then(BL st.s (e.d.getD 0) e.o).runA call (e.d.getD 0) e.rd e.wr st.r else(BL st.s (e.d.getD 0) e.o).run call (e.d.getD 0) st.r).map fun q=>({ st with r:=q.2 }:St).put e.d q.1)
  else some (st.put e.d (.tup []))
def Cp (call:Ai) (draw:Bool):List FD→St→Option St
 | [],st=>some st
 |e::es,st=>(Dl call draw e st).bind (Cp call draw es)
mutual
def V.mentions (ts:List Nat):V→Bool
 | .ref id _=>ts.contains id.1
 | .sub .. =>true
 | .ptr id p _ _ _ _=> !p.isEmpty||ts.contains id.1
 | .agg cs=>NI ts cs
 | .fn _ cs=>NI ts cs
 | .tup cs=>NI ts cs
 | .vb .. =>true
 | .vw id _ _ _=>ts.contains id.1
 |_=>false
def NI (ts:List Nat):List V→Bool
 | []=>false
 |v::vs=>v.mentions ts||NI ts vs
end
def FA.calm : FA→FA
 | .mem rows _ fx=> .mem rows 0 fx
 | .dead=> .dead
def Ti (ts:List Nat) (t:Nat) (es:List FA):List FA:=if ts.contains t then[]else es.map FA.calm
def Pc (ts:List Nat) (t:Nat) (v:V):V:=if ts.contains t||v.mentions ts then .dead else v
def QI {α:Type}:V→(V→M α)→M α
 | .ref id n,k=> .get id fun
   | .mem rows _ fx=>if rows.length=n∧fx=false then .set id .dead (k (.t (.sl false (Az rows))))else .fail
   | .dead=>if n=0 then .set id .dead (k (.t (.sl false [])))else .fail
 | .ptr id p i off n _,k=>if p.isEmpty&&(i==0&&n==1)then .get id fun
   | .mem [cells] _ fx=>if off<cells.length∧fx=false then .set id .dead (k (.pp ((HF cells).drop off)))else .fail
   |_=> .fail else .fail
 | .nil,k=>k (.t (.sl false []))
 | .t (.sl o rows),k=>k (.t (.sl o rows))
 |_,_=> .fail
def doH (st:St):H→Option St
 | .kill ts=>some { st with s:=ts.foldl (fun s t=>s.set t .dead) st.s }
 | .clean ts=>some { s:=st.s.mapIdx (Pc ts),r:=st.r.mapIdx (Ti ts) }
 | .freeze t=>((QI (st.s.getD t .dead) .ret).run (fun _ _=>none) 0 st.r).map fun q=>{ s:=st.s.set t q.1,r:=q.2 }
 | .own t d=>match st.s.getD t .dead with
  | .nil=>if d<st.r.length&&(st.r.getD d []).isEmpty then some { s:=st.s.set t (.ref (d,0) 0),r:=st.r.set d [.mem [] 0 false] }else none
  | .ref _ _=>some st
  |_=>none
 | .home t d=>match st.s.getD t .dead with
  | .ref id n=>match Ac st.r id,st.r.getD d []with
   | .mem rows _ false,[.dead]=>if rows.length=n∧id.1≠d then some { s:=(st.s.mapIdx (Pc [id.1,d])).set t (.ref (d,0) n),r:=(st.r.set id.1 []).set d [.mem rows 0 false] }else none
   |_,_=>none
  |_=>none
 | .frzc d k=>match Ac st.r (d,0)with
  | .mem rows stt fx=>match CR rows [] 0 k with
   |some (.sl true rs)=>some { st with r:=C3 st.r (d,0) (.mem (Bn rows [] 0 k (.sl false (Az rs))) stt fx) }
   |some (.sl false _)=>some st
   |_=>none
  |_=>none
 | .frzr d k=>match Ac st.r (d,k)with
  | .mem rows stt fx=>some { st with r:=C3 st.r (d,k) (.mem (Az rows) (stt+1) fx) }
  |_=>none
 | .opn d=>match Ac st.r (d,0)with
  | .mem .. =>some st
  |_=>none
 | .frzb d k=>match Ac st.r (d,0)with
  | .mem rows stt fx=>match CR rows [] 0 k with
   |some (.sl true rs)=>some { st with r:=C3 st.r (d,0) (.mem (Bn rows [] 0 k (.sl true (Az rs))) (stt+1) fx) }
   |_=>none
  |_=>none
def Vi : List H→St→Option St
 | [],st=>some st
 |h::hs,st=>(doH st h).bind (Vi hs)
def iter (f:St→Option (Ex×St)):Nat→St→Option (Ex×St)
 |0,_=>none
 |n+1,st=>(f st).bind fun q=>match q.1 with
  | .normal=>iter f n q.2
  |e=>some (e,q.2)
def Di (call:Ai) (lf:Nat):K→St→Option (Ex×St)
 | .skip,st=>some (.normal,st)
 | .reg draw ops,st=>(Cp call draw ops st).map fun st'=>(.normal,st')
 | .seq a b,st=>(Di call lf a st).bind fun q=>match q.1 with
  | .normal=>Di call lf b q.2
  |e=>some (e,q.2)
 | .cond x a b,st=>match A9 st.s x with
  | .t (.v (.bool true))=>Di call lf a st
  | .t (.v (.bool false))=>Di call lf b st
  |_=>none
 | .blk id b,st=>(Di call lf b st).map fun q=>match q.1 with
  | .exit j=>if j=id then(.normal,q.2)else(.exit j,q.2)
  |e=>(e,q.2)
 | .loop b,st=>iter (fun st=>Di call lf b st) lf st
 | .ex id,st=>some (.exit id,st)
 | .ret,st=>some (.ret,st)
 | .h hs k,st=>(Di call lf k st).bind fun q=>match q.1 with
  | .normal=>(Vi hs q.2).map fun st'=>(.normal,st')
  |e=>some (e,q.2)
 | .hp hs k,st=>(Vi hs st).bind fun st'=>Di call lf k st'
inductive RK where
 |tmp (t:Nat)
 |cell (t n:Nat) (ag:Bool)
 deriving Inhabited
inductive K2 where
 |seqL (a:K2) (b:K)
 |seqR (a:K) (b:K2)
 |condL (x:D2) (a:K2) (b:K)
 |condR (x:D2) (a:K) (b:K2)
 |condB (x:D2) (a b:K2)
 |blk (id:Nat) (b:K2)
 |h (hs:List H) (k:K2)
 |hp (hs:List H) (k:K2)
 |coin (t u:Nat) (a b:K)
 deriving Inhabited
def K2.pick (c:Bool):K2→K
 | .seqL a b=> .seq (a.pick c) b
 | .seqR a b=> .seq a (b.pick c)
 | .condL x a b=> .cond x (a.pick c) b
 | .condR x a b=> .cond x a (b.pick c)
 | .condB x a b=> .cond x (a.pick c) (b.pick c)
 | .blk id b=> .blk id (b.pick c)
 | .h hs k=> .h hs (k.pick c)
 | .hp hs k=> .hp hs (k.pick c)
 | .coin t u a b=> .seq (.reg false [oo t (.alloc [.v (.bool false)]),on (.st 1 (.s t) (.c (.bool (!c)))),on (.st 1 (.s t) (.c (.bool c))),oo u (.ld 1 false (.s t))]) (.cond (.s u) a b)
inductive Co where
 |k (k:K2)
 |m (m:List NH→M BD)
 deriving Inhabited
structure F where
 nt:Nat
 res:List RK
 body:K
 co:Option Co
 deriving Inhabited
mutual
def inV (t k:Nat):NH→V×List FA
 | .t c=>(.t c,[])
 | .agg cs=>let a:=jq t k cs;(.agg a.1,a.2)
 | .ln rows=>(.ref (t,k) rows.length,[.mem rows 0 true])
 | .lp cells off=>(.ptr (t,k) [] 0 off 1 0,[.mem [cells] 0 true])
 | .pp cells=>(.pp cells,[])
 | .fn f caps=>let a:=jq t k caps;(.fn f a.1,a.2)
def jq (t k:Nat):List NH→List V×List FA
 | []=>([],[])
 |a::as=>let x:=inV t k a;let y:=jq t (k+x.2.length) as;(x.1::y.1,x.2++y.2)
end
def Rj (t:Nat):List NH→List (V×List FA)
 | []=>[]
 |a::as=>inV t 0 a::Rj (t+1) as
def enter (nt:Nat) (args:List NH):St:=
 let ps:=Rj 0 args
 { s:=ps.map (·.1)++List.replicate (nt-args.length) .dead,r:=ps.map (·.2)++List.replicate (nt-args.length) [] }
def tw {α:Type}:V→(T→M α)→M α
 | .nil,k=>k (.sl true [])
 |v,k=>take v k
def pd {α:Type}:List V→(List T→M α)→M α
 | [],k=>k []
 |v::vs,k=>tw v fun t=>pd vs fun ts=>k (t::ts)
def jr {α:Type}:V→(RV→M α)→M α
 | .agg cs,k=>pd cs fun ts=>k (.agg ts)
 | .ptr id p i off n st,k=>if p.isEmpty&&i=0&&off=0&&n=1 then .get id fun
   | .mem [cells] _ fx=>if fx then .fail else .set id .dead (k (.box cells))
   |_=> .fail else .fail
 |v,k=>tw v fun t=>k (.t t)
def A0G {α:Type} (s:List V):RK→(V→M α)→M α
 | .tmp t,k=>k (s.getD t .dead)
 | .cell t n ag,k=>match s.getD t .dead with
  | .ptr id p i off m st=> .get id fun
    | .mem rows stt _=>(match Dw rows stt p i m st with
     |some row=>if off+n≤row.length then
       (let vs:=Pb id p i off stt ((row.drop off).take n);if ag then k (.agg vs)else match vs with| [v]=>k v|_=> .fail)else .fail
     |none=> .fail)
    |_=> .fail
  |_=> .fail
def ni {α:Type} (s:List V):List RK→(List RV→M α)→M α
 | [],k=>k []
 |q::qs,k=>A0G s q fun v=>jr v fun x=>ni s qs fun xs=>k (x::xs)
def js : FA→Option Rows
 | .mem rows _ true=>some rows
 |_=>none
def jt (r:R) (na:Nat):List (Option Rows):=(r.take na).flatMap fun es=>es.map js
def Xs (r:R) (na:Nat):List Nat:=(r.take na).map (·.length)
abbrev nj := FuncId→Option F
def iH (call:Ai) (lf nt:Nat) (res:List RK) (body:K) (args:List NH):Option BD:=
 if args.length≤nt then
  (Di call lf body (enter nt args)).bind fun q=>match q.1 with
   | .exit _=>none
   |_=>((ni q.2.s res M.ret).run (fun _ _=>none) 0 q.2.r).bind fun o=>
    if Xs o.2 args.length=Xs (enter nt args).r args.length then some { vals:=o.1,after:=jt o.2 args.length }else none
 else none
noncomputable def nk (call:Ai) (lf:Nat) (fn:F) (args:List NH):Option BD:=match fn.co with
 |none=>iH call lf fn.nt fn.res fn.body args
 |some (.m m)=>((m args).run call 0 []).map (·.1)
 |some (.k k)=>(iH call lf fn.nt fn.res (k.pick true) args).bind fun x=>(iH call lf fn.nt fn.res (k.pick false) args).bind fun y=> @ite _ (x=y) (Classical.propDecidable _) (some x) none
noncomputable def J0 (FT:nj) (X:Ai):Nat→Ai
 |0,_,_=>none
 |n+1,f,args=>match X f args with
  |some r=>some r
  |none=>(FT f).bind fun fn=>nk (J0 FT X n) n fn args
end TT
