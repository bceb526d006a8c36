import Derived.Laws.AppendOwn
import Derived.Below
set_option linter.unusedVariables false
set_option linter.unusedSimpArgs false
namespace TT
theorem bf : (false=true)=False:=Bool.false_eq_true
theorem bz (a b:Bool):((a&&b)=true)=(a=true∧b=true):=Bool.and_eq_true a b
theorem oi {α:Type _} (a b:α):(some a=some b)=(a=b):=Option.some.injEq a b
theorem ai {a b:Prop} (x:a) (y:b):a∧b:=⟨x,y⟩
open Go
inductive T where
 |v (x:Value)
 |sl (own:Bool) (rows:List (List T))
 |hole
 |pp (cs:List T) -- a pointer to shared cells
 |fn (f:FuncId) (cs:List (List T)) -- a function value:what the pointers lead to that it captures
 deriving Inhabited
abbrev Rows := List (List T)
def Split (S A C:Nat→Prop):Prop:=(∀b,S b↔(A b∨C b))∧∀b,A b→¬C b
def Emp (S:Nat→Prop):Prop:=∀b,¬S b
theorem Split.comm {S A C:Nat→Prop} (h:Split S A C):Split S C A:=⟨fun b=>(h.1 b).trans Or.comm,fun b hc ha=>h.2 b ha hc⟩
theorem Split.left {S A C:Nat→Prop} (h:Split S A C) {b:Nat} (hb:A b):S b:=(h.1 b).2 (.inl hb)
theorem Split.right {S A C:Nat→Prop} (h:Split S A C) {b:Nat} (hb:C b):S b:=(h.1 b).2 (.inr hb)
theorem Split.of_emp_left {S A:Nat→Prop} (h:Emp A):Split S A S:=⟨fun b=>⟨.inr,fun h'=>h'.resolve_left (h b)⟩,fun b ha=>absurd ha (h b)⟩
theorem Split.mk' {A C:Nat→Prop} (h:∀b,A b→¬C b):Split (fun b=>A b∨C b) A C:=⟨fun _=>Iff.rfl,h⟩
mutual
def E9 (w:World) (B:Nat→Prop):T→Value→Prop
 | .v x,u=>u=x
 | .sl true _,_=>False
 | .sl false rows,u=>∃q cap,u= .slice q rows.length cap∧rows.length≤cap∧cap≤maxLen∧(rows=[]∨∃b o sz,q=some ⟨b,o,none⟩∧B b∧0<sz∧C5 w B b o sz rows)
 | .hole,_=>True
 | .pp cs,u=>∃b o,u= .pointer (some ⟨b,o,none⟩)∧B b∧Mc w B b o cs
 | .fn f cs,u=>∃us,u= .func (.func f) #[] us∧Za w B cs us.toList
def Mc (w:World) (B:Nat→Prop) (b o:Nat):List T→Prop
 | []=>True
 |t::ts=>(∃u,w.cell? ⟨b,o,none⟩=some u∧u.oneCell'=true∧E9 w B t u)∧Mc w B b (o+1) ts
def C5 (w:World) (B:Nat→Prop) (b o sz:Nat):List (List T)→Prop
 | []=>True
 |r::rs=>r.length=sz∧Mc w B b o r∧C5 w B b (o+sz) sz rs
def Za (w:World) (B:Nat→Prop):List (List T)→List Value→Prop
 | [],us=>us=[]
 |r::rs,us=>∃b o us',us= .pointer (some ⟨b,o,none⟩)::us'∧B b∧Mc w B b o r∧Za w B rs us'
end
def TD (w:World) (b:Nat) (cur:Array Value) (e:TypeId):Prop:=∃fz:Nat×Nat,w.heap[b]? =some (.cells cur e fz)∧(fz=(0,0)∨cur.size≤fz.1)
theorem TD.of {w:World} {b:Nat} {cur:Array Value} {e:TypeId} (h:w.heap[b]? =some (.cells cur e (0,0))):TD w b cur e:=⟨_,h, .inl rfl⟩
theorem TD.cell {w:World} {b:Nat} {cur:Array Value} {e:TypeId} (h:TD w b cur e) (k:Nat):w.cell? ⟨b,k,none⟩=cur[k]? :=by
 obtain⟨fz,h,_⟩:=h
 simp[World.cell?,h]
theorem TD.lt {w:World} {b:Nat} {cur:Array Value} {e:TypeId} (h:TD w b cur e):b<w.heap.size:=by
 obtain⟨fz,h,_⟩:=h
 exact(Array.getElem?_eq_some_iff.1 h).1
theorem TD.same {w w':World} {b:Nat} {cur:Array Value} {e:TypeId} (h:TD w b cur e) (hs:w'.heap[b]? =w.heap[b]?):TD w' b cur e:=by
 obtain⟨fz,h,h2⟩:=h
 exact⟨fz,by rw[hs];exact h,h2⟩
theorem TD.inj {w:World} {b:Nat} {cur cur':Array Value} {e e':TypeId} (h:TD w b cur e) (h':TD w b cur' e'):cur=cur':=by
 obtain⟨fz,h,_⟩:=h
 obtain⟨fz',h',_⟩:=h'
 rw[h]at h'
 cases h'
 rfl
theorem TD.free {w:World} {b k:Nat} {cur:Array Value} {e:TypeId} (h:TD w b cur e) (hk:k<cur.size):w.frozen? ⟨b,k,none⟩=false:=by
 obtain⟨fz,h,h2⟩:=h
 simp only[World.frozen?,h]
 rcases h2 with h2|h2
 ·subst h2;simp
 ·simp;omega
theorem TD.set {w:World} {b k:Nat} {cur:Array Value} {e:TypeId} {u:Value} (h:TD w b cur e):TD (w.setCell ⟨b,k,none⟩ u) b (cur.setIfInBounds k u) e:=by
 obtain⟨fz,h,h2⟩:=h
 refine⟨fz, ?_,by simpa using h2⟩
 have hlt:=(Array.getElem?_eq_some_iff.1 h).1
 simp[World.setCell,Array.getElem?_modify,h]
mutual
def Ey (w:World) (B:Nat→Prop):T→Value→(Nat→Prop)→Prop
 | .v x,u,S=>u=x∧Emp S
 | .sl false rows,u,S=>E9 w B (.sl false rows) u∧Emp S
 | .sl true rows,u,S=>∃q cap,u= .slice q rows.length cap∧
   ((q=none∧cap=0∧rows=[]∧Emp S)∨
    ∃b sz e cur S',q=some ⟨b,0,none⟩∧TD w b cur e∧(rows.length≤cap∧(rows=[]→cap=0))∧cap≤maxLen∧cur.size=cap*sz∧0<sz∧
     Split S (· =b) S'∧CN w B b 0 sz rows S')
 | .hole,_,S=>Emp S
 | .pp cs,u,S=>E9 w B (.pp cs) u∧Emp S
 | .fn f cs,u,S=>E9 w B (.fn f cs) u∧Emp S
def Mn (w:World) (B:Nat→Prop) (b o:Nat):List T→(Nat→Prop)→Prop
 | [],S=>Emp S
 |t::ts,S=>∃u S1 S2,w.cell? ⟨b,o,none⟩=some u∧u.oneCell'=true∧Ey w B t u S1∧Mn w B b (o+1) ts S2∧Split S S1 S2
def CN (w:World) (B:Nat→Prop) (b o sz:Nat):List (List T)→(Nat→Prop)→Prop
 | [],S=>Emp S
 |r::rs,S=>∃S1 S2,r.length=sz∧Mn w B b o r S1∧CN w B b (o+sz) sz rs S2∧Split S S1 S2
end
def GS (w:World) (B:Nat→Prop) (q:Option Addr) (cap:Nat) (rows:Rows) (S:Nat→Prop):Prop:=
 (q=none∧cap=0∧rows=[]∧Emp S)∨
 ∃b sz e cur S',q=some ⟨b,0,none⟩∧TD w b cur e∧(rows.length≤cap∧(rows=[]→cap=0))∧cap≤maxLen∧cur.size=cap*sz∧0<sz∧
  Split S (· =b) S'∧CN w B b 0 sz rows S'
theorem FI {w:World} {B:Nat→Prop} {rows:Rows} {u:Value} {S:Nat→Prop}:
  Ey w B (.sl true rows) u S↔∃q cap,u= .slice q rows.length cap∧GS w B q cap rows S:=by
 simp only[Ey,GS]
def Fm (D:Nat→Prop) (w w':World):Prop:=∀b,D b→w'.heap[b]? =w.heap[b]?
theorem EE {w w':World} {b:Nat} (h:w'.heap[b]? =w.heap[b]?) (o:Nat):w'.cell? ⟨b,o,none⟩=w.cell? ⟨b,o,none⟩:=by
 simp[World.cell?,h]
mutual
theorem E9.same {w w':World} {B B':Nat→Prop} (hB:∀b,B b→B' b) (h:Fm B w w'):∀{t:T} {u:Value},E9 w B t u→E9 w' B' t u
 | .v x,u,hh=>by simpa [E9] using hh
 | .sl true rows,u,hh=>by simp only[E9]at hh
 | .sl false rows,u,hh=>by
  simp only[E9]at hh ⊢
  obtain⟨q,cap,h1,h2,h3,h4⟩:=hh
  refine⟨q,cap,h1,h2,h3, ?_⟩
  rcases h4 with h4|⟨b,o,sz,h5,h6,h7,h8⟩
  ·exact .inl h4
  ·exact .inr ⟨b,o,sz,h5,hB b h6,h7,C5.same hB h h6 h8⟩
 | .hole,u,hh=>by simp[E9]
 | .pp cs,u,hh=>by
  simp only[E9]at hh ⊢
  obtain⟨b,o,h1,h2,h3⟩:=hh
  exact⟨b,o,h1,hB b h2,Mc.same hB h h2 h3⟩
 | .fn f cs,u,hh=>by
  simp only[E9]at hh ⊢
  obtain⟨us,h1,h2⟩:=hh
  exact⟨us,h1,Za.same hB h h2⟩
theorem Mc.same {w w':World} {B B':Nat→Prop} (hB:∀b,B b→B' b) (h:Fm B w w'):∀{b o:Nat} {ts:List T},B b→Mc w B b o ts→Mc w' B' b o ts
 |b,o,[],_,hh=>by simp[Mc]
 |b,o,t::ts,hb,hh=>by
  simp only[Mc]at hh ⊢
  obtain⟨⟨u,h1,h0,h2⟩,h3⟩:=hh
  exact⟨⟨u,by rw[EE (h b hb)];exact h1,h0,E9.same hB h h2⟩,Mc.same hB h hb h3⟩
theorem C5.same {w w':World} {B B':Nat→Prop} (hB:∀b,B b→B' b) (h:Fm B w w'):∀{b o sz:Nat} {rs:List (List T)},B b→C5 w B b o sz rs→C5 w' B' b o sz rs
 |b,o,sz,[],_,hh=>by simp[C5]
 |b,o,sz,r::rs,hb,hh=>by
  simp only[C5]at hh ⊢
  exact⟨hh.1,Mc.same hB h hb hh.2.1,C5.same hB h hb hh.2.2⟩
theorem Za.same {w w':World} {B B':Nat→Prop} (hB:∀b,B b→B' b) (h:Fm B w w'):∀{rs:List (List T)} {us:List Value},Za w B rs us→Za w' B' rs us
 | [],us,hh=>by simpa only[Za] using hh
 |r::rs,us,hh=>by
  simp only[Za]at hh ⊢
  obtain⟨b,o,us',h1,h2,h3,h4⟩:=hh
  exact⟨b,o,us',h1,hB b h2,Mc.same hB h h2 h3,Za.same hB h h4⟩
end
mutual
theorem Ey.same {w w':World} {B B':Nat→Prop} (hB:∀b,B b→B' b) (h:Fm B w w'):∀{t:T} {u:Value} {S:Nat→Prop},Fm S w w'→Ey w B t u S→Ey w' B' t u S
 | .v x,u,S,_,hh=>by simpa [Ey] using hh
 | .sl false rows,u,S,_,hh=>by
  simp only[Ey]at hh ⊢
  exact⟨E9.same hB h hh.1,hh.2⟩
 | .sl true rows,u,S,hS,hh=>by
  simp only[Ey]at hh ⊢
  obtain⟨q,cap,h1,h2⟩:=hh
  refine⟨q,cap,h1, ?_⟩
  rcases h2 with h2|⟨b,sz,e,cur,S',h3,h4,h5,h6,h7,h8,h9,h10⟩
  ·exact .inl h2
  ·refine .inr ⟨b,sz,e,cur,S',h3, ?_,h5,h6,h7,h8,h9, ?_⟩
   ·exact h4.same (hS b (h9.left rfl))
   ·exact CN.same hB h (fun o _=>EE (hS b (h9.left rfl)) o) (fun x hx=>hS x (h9.right hx)) h10
 | .hole,u,S,_,hh=>by simpa [Ey] using hh
 | .pp cs,u,S,_,hh=>by
  simp only[Ey]at hh ⊢
  exact⟨E9.same hB h hh.1,hh.2⟩
 | .fn f cs,u,S,_,hh=>by
  simp only[Ey]at hh ⊢
  exact⟨E9.same hB h hh.1,hh.2⟩
theorem Mn.same {w w':World} {B B':Nat→Prop} (hB:∀b,B b→B' b) (h:Fm B w w'):∀{b o:Nat} {ts:List T} {S:Nat→Prop},
  (∀x,o≤x∧x<o+ts.length→w'.cell? ⟨b,x,none⟩=w.cell? ⟨b,x,none⟩)→Fm S w w'→Mn w B b o ts S→Mn w' B' b o ts S
 |b,o,[],S,_,_,hh=>by simpa [Mn] using hh
 |b,o,t::ts,S,hc,hS,hh=>by
  simp only[Mn]at hh ⊢
  obtain⟨u,S1,S2,h1,h0,h2,h3,h4⟩:=hh
  refine⟨u,S1,S2,by rw[hc o ⟨Nat.le_refl _,by simp⟩];exact h1,h0,Ey.same hB h (fun x hx=>hS x (h4.left hx)) h2, ?_,h4⟩
  exact Mn.same hB h (fun x hx=>hc x ⟨by omega,by simp at hx ⊢;omega⟩) (fun x hx=>hS x (h4.right hx)) h3
theorem CN.same {w w':World} {B B':Nat→Prop} (hB:∀b,B b→B' b) (h:Fm B w w'):∀{b o sz:Nat} {rs:List (List T)} {S:Nat→Prop},
  (∀x,o≤x→w'.cell? ⟨b,x,none⟩=w.cell? ⟨b,x,none⟩)→Fm S w w'→CN w B b o sz rs S→CN w' B' b o sz rs S
 |b,o,sz,[],S,_,_,hh=>by simpa [CN] using hh
 |b,o,sz,r::rs,S,hc,hS,hh=>by
  simp only[CN]at hh ⊢
  obtain⟨S1,S2,h0,h1,h2,h3⟩:=hh
  exact⟨S1,S2,h0,Mn.same hB h (fun x hx=>hc x hx.1) (fun x hx=>hS x (h3.left hx)) h1,
   CN.same hB h (fun x hx=>hc x (by omega)) (fun x hx=>hS x (h3.right hx)) h2,h3⟩
end
theorem GS.same {w w':World} {B B':Nat→Prop} (hB:∀b,B b→B' b) (h:Fm B w w') {q:Option Addr} {cap:Nat} {rows:Rows} {S:Nat→Prop} (hS:Fm S w w') (hh:GS w B q cap rows S):GS w' B' q cap rows S:=by
 have h1:Ey w B (.sl true rows) (.slice q rows.length cap) S:=FI.2 ⟨q,cap,rfl,hh⟩
 obtain⟨q',cap',he,h2⟩:=FI.1 (Ey.same hB h hS h1)
 injection he with e1 e2 e3
 subst e1;subst e3
 exact h2
def Vy (w:World) (S:Nat→Prop):Prop:=∀b,S b→b<w.heap.size
theorem xr {w:World} {b:Nat} {o:Obj} (h:w.heap[b]? =some o):b<w.heap.size:=(Array.getElem?_eq_some_iff.1 h).1
mutual
theorem Ey.inHeap {w:World} {B:Nat→Prop}:∀{t:T} {u:Value} {S:Nat→Prop},Ey w B t u S→Vy w S
 | .v x,u,S,hh=>by simp only[Ey]at hh;exact fun b hb=>absurd hb (hh.2 b)
 | .sl false rows,u,S,hh=>by simp only[Ey]at hh;exact fun b hb=>absurd hb (hh.2 b)
 | .sl true rows,u,S,hh=>by
  simp only[Ey]at hh
  obtain⟨q,cap,h1,h2⟩:=hh
  rcases h2 with h2|⟨b,sz,e,cur,S',h3,h4,h5,h6,h7,h8,h9,h10⟩
  ·exact fun b hb=>absurd hb (h2.2.2.2 b)
  ·intro x hx
   rcases(h9.1 x).1 hx with rfl|hx'
   ·exact h4.lt
   ·exact CN.inHeap h10 x hx'
 | .hole,u,S,hh=>by simp only[Ey]at hh;exact fun b hb=>absurd hb (hh b)
 | .pp cs,u,S,hh=>by simp only[Ey]at hh;exact fun b hb=>absurd hb (hh.2 b)
 | .fn f cs,u,S,hh=>by simp only[Ey]at hh;exact fun b hb=>absurd hb (hh.2 b)
theorem Mn.inHeap {w:World} {B:Nat→Prop}:∀{b o:Nat} {ts:List T} {S:Nat→Prop},Mn w B b o ts S→Vy w S
 |b,o,[],S,hh=>by simp only[Mn]at hh;exact fun b hb=>absurd hb (hh b)
 |b,o,t::ts,S,hh=>by
  simp only[Mn]at hh
  obtain⟨u,S1,S2,h1,h0,h2,h3,h4⟩:=hh
  intro x hx
  rcases(h4.1 x).1 hx with h|h
  ·exact Ey.inHeap h2 x h
  ·exact Mn.inHeap h3 x h
theorem CN.inHeap {w:World} {B:Nat→Prop}:∀{b o sz:Nat} {rs:List (List T)} {S:Nat→Prop},CN w B b o sz rs S→Vy w S
 |b,o,sz,[],S,hh=>by simp only[CN]at hh;exact fun b hb=>absurd hb (hh b)
 |b,o,sz,r::rs,S,hh=>by
  simp only[CN]at hh
  obtain⟨S1,S2,h0,h1,h2,h3⟩:=hh
  intro x hx
  rcases(h3.1 x).1 hx with h|h
  ·exact Mn.inHeap h1 x h
  ·exact CN.inHeap h2 x h
end
mutual
def frz : T→T
 | .v x=> .v x
 | .sl _ rows=> .sl false (Aw rows)
 | .hole=> .hole
 | .pp cs=> .pp cs
 | .fn f cs=> .fn f cs
def Ho : List T→List T
 | []=>[]
 |t::ts=>frz t::Ho ts
def Aw : List (List T)→List (List T)
 | []=>[]
 |r::rs=>Ho r::Aw rs
end
theorem kS (ts:List T):Ho ts=ts.map frz:=by
 induction ts with
 |nil=>rfl
 |cons t ts ih=>simp[Ho,ih]
theorem XV (rs:List (List T)):Aw rs=rs.map (·.map frz):=by
 induction rs with
 |nil=>rfl
 |cons t ts ih=>simp[Aw,ih,kS]
mutual
theorem E9.frz {w:World} {B:Nat→Prop}:∀{t:T} {u:Value},E9 w B t u→E9 w B (TT.frz t) u
 | .v x,u,hh=>by simpa [TT.frz,E9] using hh
 | .sl true rows,u,hh=>by simp only[E9]at hh
 | .sl false rows,u,hh=>by
  simp only[TT.frz,E9]at hh ⊢
  obtain⟨q,cap,h1,h2,h3,h4⟩:=hh
  have hl:(Aw rows).length=rows.length:=by simp[XV]
  refine⟨q,cap,by rw[hl];exact h1,by rw[hl];exact h2,h3, ?_⟩
  rcases h4 with h4|⟨b,o,sz,h5,h6,h7,h8⟩
  ·exact .inl (by simp[h4,Aw])
  ·exact .inr ⟨b,o,sz,h5,h6,h7,C5.frz h8⟩
 | .hole,u,hh=>by simp[TT.frz,E9]
 | .pp cs,u,hh=>by rw[TT.frz];exact hh
 | .fn f cs,u,hh=>by rw[TT.frz];exact hh
theorem Mc.frz {w:World} {B:Nat→Prop}:∀{b o:Nat} {ts:List T},Mc w B b o ts→Mc w B b o (Ho ts)
 |b,o,[],hh=>by simp[Ho,Mc]
 |b,o,t::ts,hh=>by
  simp only[Ho,Mc]at hh ⊢
  obtain⟨⟨u,h1,h0,h2⟩,h3⟩:=hh
  exact⟨⟨u,h1,h0,E9.frz h2⟩,Mc.frz h3⟩
theorem C5.frz {w:World} {B:Nat→Prop}:∀{b o sz:Nat} {rs:List (List T)},C5 w B b o sz rs→C5 w B b o sz (Aw rs)
 |b,o,sz,[],hh=>by simp[Aw,C5]
 |b,o,sz,r::rs,hh=>by
  simp only[Aw,C5]at hh ⊢
  exact⟨by simp[kS,hh.1],Mc.frz hh.2.1,C5.frz hh.2.2⟩
end
mutual
theorem Ey.frz {w:World} {B B':Nat→Prop} (hB:∀b,B b→B' b):∀{t:T} {u:Value} {S:Nat→Prop},(∀b,S b→B' b)→Ey w B t u S→E9 w B' (TT.frz t) u
 | .v x,u,S,_,hh=>by simp only[Ey]at hh;simpa [TT.frz,E9] using hh.1
 | .sl false rows,u,S,_,hh=>by
  simp only[Ey]at hh
  exact E9.frz (E9.same hB (fun _ _=>rfl) hh.1)
 | .sl true rows,u,S,hS,hh=>by
  simp only[Ey]at hh
  simp only[TT.frz,E9]
  obtain⟨q,cap,h1,h2⟩:=hh
  have hl:(Aw rows).length=rows.length:=by simp[XV]
  rcases h2 with ⟨h3,h4,h5,h6⟩|⟨b,sz,e,cur,S',h3,h4,h5,h6,h7,h8,h9,h10⟩
  ·subst h5
   exact⟨q,cap,h1,by simp[Aw],by simp[h4], .inl (by simp[Aw])⟩
  ·refine⟨q,cap,by rw[hl];exact h1,by rw[hl];exact h5.1,h6, .inr ⟨b,0,sz,h3,hS b (h9.left rfl),h8, ?_⟩⟩
   exact CN.frz hB (fun x hx=>hS x (h9.right hx)) h10
 | .hole,u,S,_,hh=>by simp[TT.frz,E9]
 | .pp cs,u,S,_,hh=>by
  simp only[Ey]at hh
  rw[TT.frz]
  exact E9.same hB (fun _ _=>rfl) hh.1
 | .fn f cs,u,S,_,hh=>by
  simp only[Ey]at hh
  rw[TT.frz]
  exact E9.same hB (fun _ _=>rfl) hh.1
theorem Mn.frz {w:World} {B B':Nat→Prop} (hB:∀b,B b→B' b):∀{b o:Nat} {ts:List T} {S:Nat→Prop},(∀b,S b→B' b)→Mn w B b o ts S→Mc w B' b o (Ho ts)
 |b,o,[],S,_,hh=>by simp[Ho,Mc]
 |b,o,t::ts,S,hS,hh=>by
  simp only[Mn]at hh
  simp only[Ho,Mc]
  obtain⟨u,S1,S2,h1,h0,h2,h3,h4⟩:=hh
  exact⟨⟨u,h1,h0,Ey.frz hB (fun x hx=>hS x (h4.left hx)) h2⟩,Mn.frz hB (fun x hx=>hS x (h4.right hx)) h3⟩
theorem CN.frz {w:World} {B B':Nat→Prop} (hB:∀b,B b→B' b):∀{b o sz:Nat} {rs:List (List T)} {S:Nat→Prop},(∀b,S b→B' b)→CN w B b o sz rs S→C5 w B' b o sz (Aw rs)
 |b,o,sz,[],S,_,hh=>by simp[Aw,C5]
 |b,o,sz,r::rs,S,hS,hh=>by
  simp only[CN]at hh
  simp only[Aw,C5]
  obtain⟨S1,S2,h0,h1,h2,h3⟩:=hh
  exact⟨by simp[kS,h0],Mn.frz hB (fun x hx=>hS x (h3.left hx)) h1,CN.frz hB (fun x hx=>hS x (h3.right hx)) h2⟩
end
end TT
namespace TT
open Go
abbrev B5 := List (Nat×Nat)
def Cb : Rows→B5→Option Rows
 |rows,[]=>some rows
 |rows,(i,c)::p=>match rows[i]?.bind (·[c]?)with
  |some (.sl true rows')=>Cb rows' p
  |_=>none
def C6 (rows:Rows) (p:B5) (i c:Nat):Option T:=(Cb rows p).bind fun rs=>rs[i]?.bind (·[c]?)
def HC (rows:Rows) (i c:Nat) (t:T):Rows:=match rows[i]? with
 |some row=>rows.set i (row.set c t)
 |none=>rows
def BR : Rows→B5→Nat→Nat→T→Rows
 |rows,[],i,c,t=>HC rows i c t
 |rows,(i0,c0)::p,i,c,t=>match rows[i0]?.bind (·[c0]?)with
  |some (.sl true rows')=>HC rows i0 c0 (.sl true (BR rows' p i c t))
  |_=>rows
theorem SP (rows:Rows) (i c:Nat) (t:T):(HC rows i c t).length=rows.length:=by
 simp only[HC];split<;>simp
theorem BL (rows:Rows) (p:B5) (i c:Nat) (t:T):(BR rows p i c t).length=rows.length:=by
 cases p with
 |nil=>exact SP ..
 |cons ic p=>
  obtain⟨i1,c1⟩:=ic
  simp only[BR]
  split
  ·exact SP ..
  ·rfl
def BM (w:World):Option Addr→Rows→B5→Nat→Nat→Nat→Nat→Prop
 |q,rows,[],i,c,b,k=>q=some ⟨b,0,none⟩∧∃row,rows[i]? =some row∧c<row.length∧k=i*row.length+c
 |q,rows,(i0,c0)::p,i,c,b,k=>∃b0 row rows1 q1 n1 cap1,q=some ⟨b0,0,none⟩∧rows[i0]? =some row∧row[c0]? =some (.sl true rows1)∧
   w.cell? ⟨b0,i0*row.length+c0,none⟩=some (.slice q1 n1 cap1)∧BM w q1 rows1 p i c b k
theorem Split.assoc {S A C D E:Nat→Prop} (h:Split S A C) (h':Split A D E):∃F,Split S D F∧Split F E C:=by
 refine⟨fun b=>E b∨C b,⟨fun b=> ?_,fun b hd he=> ?_⟩,⟨fun b=>Iff.rfl,fun b he hc=>h.2 b (h'.right he) hc⟩⟩
 ·rw[h.1,h'.1];exact or_assoc
 ·rcases he with he|hc
  ·exact h'.2 b hd he
  ·exact h.2 b (h'.left hd) hc
theorem Split.congr {S A C C':Nat→Prop} (h:Split S A C) (hc:∀x,C x↔C' x):Split S A C':=
 ⟨fun b=>(h.1 b).trans (or_congr Iff.rfl (hc b)),fun b ha hb=>h.2 b ha ((hc b).2 hb)⟩
theorem Split.put {A F D C:Nat→Prop} (h:Split F D C) (hd:∀x,A x→¬F x):Split (fun x=>A x∨F x) (fun x=>A x∨D x) C:=by
 refine⟨fun x=> ?_,fun x hx hx'=> ?_⟩
 ·show(A x∨F x)↔((A x∨D x)∨C x)
  rw[h.1];exact or_assoc.symm
 ·rcases hx with h1|h1
  ·exact hd x h1 (h.right hx')
  ·exact h.2 x h1 hx'
theorem Mn.lens {w:World} {B:Nat→Prop} {b:Nat}:∀{ts:List T} {o c:Nat} {S:Nat→Prop} {t:T},Mn w B b o ts S→ts[c]? =some t→
  ∃u S1 S2,w.cell? ⟨b,o+c,none⟩=some u∧u.oneCell'=true∧Ey w B t u S1∧Split S S1 S2∧
   ∀(w':World) (B':Nat→Prop) (t':T) (u':Value) (S1':Nat→Prop),(∀b,B b→B' b)→Fm B w w'→Fm S2 w w'→
    (∀x,o≤x→x≠o+c→w'.cell? ⟨b,x,none⟩=w.cell? ⟨b,x,none⟩)→w'.cell? ⟨b,o+c,none⟩=some u'→u'.oneCell'=true→
    Ey w' B' t' u' S1'→(∀x,S1' x→¬S2 x)→Mn w' B' b o (ts.set c t') (fun x=>S1' x∨S2 x)
 | [],o,c,S,t,_,hc=>by simp at hc
 |t0::ts,o,0,S,t,hh,hc=>by
  simp only[Mn]at hh
  obtain⟨u,S1,S2,h1,h0,h2,h3,h4⟩:=hh
  simp at hc
  subst hc
  refine⟨u,S1,S2,h1,h0,h2,h4, ?_⟩
  intro w' B' t' u' S1' hB hs hs2 hcell hu h1c hn hd
  simp only[List.set_cons_zero,Mn]
  refine⟨u',S1',S2,hu,h1c,hn, ?_,Split.mk' hd⟩
  exact Mn.same hB hs (fun x hx=>hcell x (by omega) (by omega)) hs2 h3
 |t0::ts,o,c+1,S,t,hh,hc=>by
  simp only[Mn]at hh
  obtain⟨u0,S0,Sr,h1,h0,h2,h3,h4⟩:=hh
  simp at hc
  obtain⟨u,S1,S2,g1,g0,g2,g3,g4⟩:=Mn.lens h3 hc
  have he:o+1+c=o+(c+1):=by omega
  rw[he]at g1 g4
  obtain⟨F,f1,f2⟩:=Split.assoc h4.comm g3
  refine⟨u,S1,F,g1,g0,g2,f1, ?_⟩
  intro w' B' t' u' S1' hB hs hs2 hcell hu h1c hn hd
  simp only[List.set_cons_succ,Mn]
  refine⟨u0,S0,_,by rw[hcell o (Nat.le_refl _) (by omega)];exact h1,h0,Ey.same hB hs (fun x hx=>hs2 x (f2.right hx)) h2,
   g4 w' B' t' u' S1' hB hs (fun x hx=>hs2 x (f2.left hx)) (fun x hx hne=>hcell x (by omega) hne) hu h1c hn (fun x hx hx'=>hd x hx (f2.left hx')), ?_⟩
  exact(Split.put f2 hd).comm
theorem Mn.cells {w:World} {B:Nat→Prop} {b:Nat} {ts:List T} {o:Nat} {S:Nat→Prop} (h:Mn w B b o ts S) {c:Nat} (hc:c<ts.length):∃u,w.cell? ⟨b,o+c,none⟩=some u:=by
 obtain⟨u,_,_,h1,_⟩:=h.lens (c:=c) (t:=ts[c]) (by simp[hc])
 exact⟨u,h1⟩
theorem CN.lens {w:World} {B:Nat→Prop} {b sz:Nat}:∀{rs:Rows} {o i c:Nat} {S:Nat→Prop} {row:List T} {t:T},CN w B b o sz rs S→rs[i]? =some row→row[c]? =some t→
  row.length=sz∧∃u S1 S2,w.cell? ⟨b,o+(i*sz+c),none⟩=some u∧u.oneCell'=true∧Ey w B t u S1∧Split S S1 S2∧
   ∀(w':World) (B':Nat→Prop) (t':T) (u':Value) (S1':Nat→Prop),(∀b,B b→B' b)→Fm B w w'→Fm S2 w w'→
    (∀x,o≤x→x≠o+(i*sz+c)→w'.cell? ⟨b,x,none⟩=w.cell? ⟨b,x,none⟩)→w'.cell? ⟨b,o+(i*sz+c),none⟩=some u'→u'.oneCell'=true→
    Ey w' B' t' u' S1'→(∀x,S1' x→¬S2 x)→CN w' B' b o sz (rs.set i (row.set c t')) (fun x=>S1' x∨S2 x)
 | [],o,i,c,S,row,t,_,hr,_=>by simp at hr
 |r0::rs,o,0,c,S,row,t,hh,hr,hc=>by
  simp only[CN]at hh
  obtain⟨Sa,Sb,h0,h1,h2,h3⟩:=hh
  simp at hr
  subst hr
  obtain⟨u,S1,S2,g1,g0,g2,g3,g4⟩:=h1.lens hc
  obtain⟨F,f1,f2⟩:=Split.assoc h3 g3
  simp only[Nat.zero_mul,Nat.zero_add]
  have hlt:c<r0.length:=(List.getElem?_eq_some_iff.1 hc).1
  refine⟨h0,u,S1,F,g1,g0,g2,f1, ?_⟩
  intro w' B' t' u' S1' hB hs hs2 hcell hu h1c hn hd
  simp only[List.set_cons_zero,CN]
  refine⟨_,Sb,by simpa using h0,g4 w' B' t' u' S1' hB hs (fun x hx=>hs2 x (f2.left hx)) hcell hu h1c hn (fun x hx hx'=>hd x hx (f2.left hx')),
   CN.same hB hs (fun x hx=>hcell x (by omega) (by omega)) (fun x hx=>hs2 x (f2.right hx)) h2, ?_⟩
  exact Split.put f2 hd
 |r0::rs,o,i+1,c,S,row,t,hh,hr,hc=>by
  simp only[CN]at hh
  obtain⟨Sa,Sb,h0,h1,h2,h3⟩:=hh
  simp at hr
  obtain⟨hl,u,S1,S2,g1,g0,g2,g3,g4⟩:=CN.lens h2 hr hc
  have he:o+sz+(i*sz+c)=o+((i+1)*sz+c):=by rw[Nat.add_mul];omega
  rw[he]at g1 g4
  obtain⟨F,f1,f2⟩:=Split.assoc h3.comm g3
  refine⟨hl,u,S1,F,g1,g0,g2,f1, ?_⟩
  intro w' B' t' u' S1' hB hs hs2 hcell hu h1c hn hd
  have hge:o+sz≤o+((i+1)*sz+c):=by rw[Nat.add_mul];omega
  simp only[List.set_cons_succ,CN]
  refine⟨Sa,_,h0,Mn.same hB hs (fun x hx=>hcell x hx.1 (by omega)) (fun x hx=>hs2 x (f2.right hx)) h1,
   g4 w' B' t' u' S1' hB hs (fun x hx=>hs2 x (f2.left hx)) (fun x hx hne=>hcell x (by omega) hne) hu h1c hn (fun x hx hx'=>hd x hx (f2.left hx')), ?_⟩
  exact(Split.put f2 hd).comm
theorem A2r {w:World} {b k:Nat} {cur:Array Value} {e:TypeId} {f:Nat×Nat} (h:w.heap[b]? =some (.cells cur e f)):w.cell? ⟨b,k,none⟩=cur[k]? :=by
 simp[World.cell?,h]
theorem GS.lens {w:World} {B:Nat→Prop}:∀(p:B5) {q:Option Addr} {cap:Nat} {rows:Rows} {S:Nat→Prop} {i c:Nat} {t:T},GS w B q cap rows S→C6 rows p i c=some t→
  ∃b k cur e u S1 S2,BM w q rows p i c b k∧TD w b cur e∧cur[k]? =some u∧u.oneCell'=true∧Ey w B t u S1∧Split S S1 S2∧S2 b∧
   ∀(w':World) (B':Nat→Prop) (t':T) (u':Value) (S1':Nat→Prop),(∀b,B b→B' b)→Fm B w w'→(∀x,S2 x→x≠b→w'.heap[x]? =w.heap[x]?)→
    TD w' b (cur.setIfInBounds k u') e→u'.oneCell'=true→
    Ey w' B' t' u' S1'→(∀x,S1' x→¬S2 x)→GS w' B' q cap (BR rows p i c t') (fun x=>S1' x∨S2 x)
 | [],q,cap,rows,S,i,c,t,hh,hg=>by
  simp only[C6,Cb,Option.bind_some]at hg
  obtain⟨row,hr,hc⟩:=Option.bind_eq_some_iff.1 hg
  rcases hh with ⟨_,_,h,_⟩|⟨b,sz,e,cur,S',h3,h4,h5,h6,h7,h8,h9,h10⟩
  ·subst h;simp at hr
  ·obtain⟨hl,u,S1,S2,g1,g0,g2,g3,g4⟩:=h10.lens hr hc
   obtain⟨F,f1,f2⟩:=Split.assoc h9.comm g3
   have hlt:c<row.length:=(List.getElem?_eq_some_iff.1 hc).1
   simp only[Nat.zero_add]at g1 g4
   have hcu:cur[i*sz+c]? =some u:=by rw[←g1,h4.cell _]
   refine⟨b,i*sz+c,cur,e,u,S1,F,⟨h3,row,hr,hlt,by rw[hl]⟩,h4,hcu,g0,g2,f1,f2.right rfl, ?_⟩
   intro w' B' t' u' S1' hB hs hs2 hb hu1 hn hd
   have hk:i*sz+c<cur.size:=by
    rcases Nat.lt_or_ge (i*sz+c) cur.size with h|h
    ·exact h
    ·simp[Array.getElem?_eq_none h]at hcu
   have hnb:∀x,S2 x→x≠b:=fun x hx e=>f2.2 x hx (by simpa using e)
   have hw:=g4 w' B' t' u' S1' hB hs (fun x hx=>hs2 x (f2.left hx) (hnb x hx))
    (fun x _ hne=>by rw[hb.cell _,h4.cell _,Array.getElem?_setIfInBounds_ne (Ne.symm hne)])
    (by rw[hb.cell _];simp[hk]) hu1 hn (fun x hx hx'=>hd x hx (f2.left hx'))
   refine .inr ⟨b,sz,e,cur.setIfInBounds (i*sz+c) u',fun x=>S1' x∨S2 x,h3,hb, ?_,h6,by simpa using h7,h8, ?_, ?_⟩
   ·simp only[BR,HC,hr]
    exact⟨by simpa using h5.1,fun h=>h5.2 (List.length_eq_zero_iff.1 (by have:=congrArg List.length h;simpa using this))⟩
   ·exact(Split.put f2 hd).comm
   ·simp only[BR,HC,hr];exact hw
 |(i0,c0)::p,q,cap,rows,S,i,c,t,hh,hg=>by
  simp only[C6,Cb]at hg
  cases hrc:rows[i0]?.bind (·[c0]?)with
  |none=>simp[hrc]at hg
  |some t0=>
   cases t0 with
   |v x=>simp[hrc]at hg
   |hole=>simp[hrc]at hg
   |pp cs=>simp[hrc]at hg
   |fn f cs=>simp[hrc]at hg
   |sl own rows1=>
    cases own with
    |false=>simp[hrc]at hg
    |true=>
     simp only[hrc]at hg
     obtain⟨row,hr,hc⟩:=Option.bind_eq_some_iff.1 hrc
     rcases hh with ⟨_,_,h,_⟩|⟨b0,sz,e0,cur0,S',h3,h4,h5,h6,h7,h8,h9,h10⟩
     ·subst h;simp at hr
     ·obtain⟨hl,u0,T1,T2,g1,g0,g2,g3,g4⟩:=h10.lens hr hc
      simp only[Nat.zero_add]at g1 g4
      obtain⟨q1,cap1,hu0,hs1⟩:=FI.1 g2
      obtain⟨b,k,cur,e,u,S1,S2,l1,l2,l3,l4,l5,l6,l7,l8⟩:=GS.lens p hs1 hg
      obtain⟨F,f1,f2⟩:=Split.assoc h9.comm g3
      obtain⟨G,k1,k2⟩:=Split.assoc f1 l6
      have hlt:c0<row.length:=(List.getElem?_eq_some_iff.1 hc).1
      refine⟨b,k,cur,e,u,S1,G,⟨b0,row,rows1,q1,rows1.length,cap1,h3,hr,hc,by rw[hl,g1,hu0],l1⟩,l2,l3,l4,l5,k1,k2.left l7, ?_⟩
      intro w' B' t' u' S1' hB hs hs2 hb hu1 hn hd
      have hb0:b0≠b:=fun e=>by
       subst e
       exact f1.2 b0 (l6.right l7) (f2.right rfl)
      have hF0:∀x,F x→x≠b:=fun x hx e=>by subst e;exact f1.2 x (l6.right l7) hx
      have hw0:w'.heap[b0]? =w.heap[b0]? :=hs2 b0 (k2.right (f2.right rfl)) hb0
      have sub:=l8 w' B' t' u' S1' hB hs (fun x hx hne=>hs2 x (k2.left hx) hne) hb hu1 hn (fun x hx hx'=>hd x hx (k2.left hx'))
      have hlen:(BR rows1 p i c t').length=rows1.length:=by
       cases p with
       |nil=>simp only[BR,HC];split<;>simp
       |cons ic p=>
        obtain⟨i1,c1⟩:=ic
        simp only[BR,HC]
        split
        ·split<;>simp
        ·rfl
      have hn0:Ey w' B' (.sl true (BR rows1 p i c t')) u0 (fun x=>S1' x∨S2 x):=FI.2 ⟨q1,cap1,by rw[hlen];exact hu0,sub⟩
      have hd0:∀x,(S1' x∨S2 x)→¬T2 x:=fun x hx hx'=>by
       rcases hx with h|h
       ·exact hd x h (k2.right (f2.left hx'))
       ·exact f1.2 x (l6.right h) (f2.left hx')
      have hw:=g4 w' B' (.sl true (BR rows1 p i c t')) u0 _ hB hs (fun x hx=>hs2 x (k2.right (f2.left hx)) (hF0 x (f2.left hx)))
       (fun x _ _=>EE hw0 x) (by rw[EE hw0];exact g1) g0 hn0 hd0
      refine .inr ⟨b0,sz,e0,cur0,fun x=>(S1' x∨S2 x)∨T2 x,h3,h4.same hw0, ?_,h6,h7,h8, ?_, ?_⟩
      ·exact⟨by rw[BL];exact h5.1,fun h=>h5.2 (List.length_eq_zero_iff.1 (by have:=congrArg List.length h;simpa [BL] using this))⟩
      ·obtain⟨H,m1,m2⟩:=Split.assoc (Split.put k2 hd).comm f2.comm
       exact m1.congr fun x=>(m2.1 x).trans Or.comm
      ·have he:BR rows ((i0,c0)::p) i c t'=rows.set i0 (row.set c0 (.sl true (BR rows1 p i c t'))):=by
        simp only[BR,hrc,HC];rw[hr]
       rw[he];exact hw
end TT
namespace TT
open Go
abbrev Id := Nat×Nat
inductive V where
 |t (c:T)
 |nil
 |agg (cs:List V)
 |ref (id:Id) (n:Nat)
 |sub (id:Id) (p:B5) (i c n st:Nat)
 |ptr (id:Id) (p:B5) (i off n st:Nat)
 |pp (cs:List T)
 |fn (f:FuncId) (caps:List V)
 |tup (vs:List V)
 |vb (id:Id) (off st:Nat) (cs:List V)
 |vw (id:Id) (lo hi n:Nat) -- a part of an owned list of one-cell rows
 |dead
 deriving Inhabited
inductive EQ where
 |dead
 |mem (rows:Rows) (st:Nat) (fix:Bool)
 deriving Inhabited
abbrev R := List (List EQ)
def Aa (r:R) (id:Id):EQ:=(r.getD id.1 []).getD id.2 .dead
def Bf (r:R) (id:Id) (e:EQ):R:=r.set id.1 ((r.getD id.1 []).set id.2 e)
inductive M4 where
 |t (c:T)
 |agg (cs:List M4)
 |ln (rows:Rows)
 |lp (cells:List T) (off:Nat)
 |pp (cells:List T)
 |fn (f:FuncId) (caps:List M4)
 deriving Inhabited
inductive RV where
 |t (c:T)
 |agg (cs:List T)
 |box (cells:List T)
 deriving Inhabited
structure Ay where
 vals:List RV
 after:List (Option Rows)
 deriving Inhabited
inductive M (α:Type) where
 |ret (v:α)
 |fail
 |get (id:Id) (k:EQ→M α)
 |set (id:Id) (e:EQ) (m:M α)
 |new (es:List EQ) (m:M α)
 |call (f:FuncId) (args:List M4) (k:Ay→M α)
abbrev Ag := FuncId→List M4→Option Ay
def M.run {α:Type} (call:Ag) (d:Nat):M α→R→Option (α×R)
 | .ret v,r=>some (v,r)
 | .fail,_=>none
 | .get id k,r=>(k (Aa r id)).run call d r
 | .set id e m,r=>m.run call d (Bf r id e)
 | .new es m,r=>if d<r.length&&(r.getD d []).isEmpty then m.run call d (r.set d es)else none
 | .call f args k,r=>(call f args).bind fun res=>(k res).run call d r
def M.runA {α:Type} (call:Ag) (d:Nat) (rd wr:List Nat):M α→R→Option (α×R)
 | .ret v,r=>some (v,r)
 | .fail,_=>none
 | .get id k,r=>if rd.contains id.1||wr.contains id.1 then(k (Aa r id)).runA call d rd wr r else none
 | .set id e m,r=>if wr.contains id.1 then m.runA call d rd wr (Bf r id e)else none
 | .new es m,r=>if wr.contains d&&(d<r.length&&(r.getD d []).isEmpty)then m.runA call d rd wr (r.set d es)else none
 | .call f args k,r=>(call f args).bind fun res=>(k res).runA call d rd wr r
def tV : T→V
 | .pp cs=> .pp cs
 | .fn f cs=> .fn f (cs.map V.pp)
 |t=> .t t
def kc : List V→Option (List (List T))
 | []=>some []
 | .pp cs::vs=>(kc vs).map fun r=>cs::r
 |_=>none
def T.isOwn : T→Bool
 | .sl true _=>true
 |_=>false
def KC (id:Id) (p:B5) (i c st:Nat):T→V
 | .v x=> .t (.v x)
 | .sl true rows=> .sub id p i c rows.length st
 | .sl false rows=> .t (.sl false rows)
 | .hole=> .dead
 | .pp cs=> .pp cs
 | .fn f cs=> .fn f (cs.map V.pp)
def PJ (id:Id) (p:B5) (i c st:Nat):List T→List V
 | []=>[]
 |t::ts=>KC id p i c st t::PJ id p i (c+1) st ts
def DN (rows:Rows) (stt:Nat) (p:B5) (i n st:Nat):Option (List T):=
 match p with
 | []=>if rows.length=n then rows[i]? else none
 |_::_=>if st=stt then(Cb rows p).bind (·[i]?)else none
def IQ (rows:Rows) (p:B5) (i c:Nat):List T→Rows
 | []=>rows
 |t::ts=>IQ (BR rows p i c t) p i (c+1) ts
def cellsOf : V→List V
 | .agg cs=>cs
 |v=>[v]
def take {α:Type}:V→(T→M α)→M α
 | .t c,k=>k c
 | .nil,k=>k (.sl true [])
 | .ref id n,k=> .get id fun
   | .mem rows _ fx=>if rows.length=n then .set id .dead (k (.sl true rows))else .fail
   |_=> .fail
 | .sub id p i c n st,k=> .get id fun
   | .mem rows stt fx=>if st=stt then(match C6 rows p i c with
     |some (.sl true rs)=>if rs.length=n then .set id (.mem (BR rows p i c .hole) stt fx) (k (.sl true rs))else .fail
     |_=> .fail)else .fail
   |_=> .fail
 | .pp cs,k=>k (.pp cs)
 | .fn f caps,k=>match kc caps with
  |some cs=>k (.fn f cs)
  |none=> .fail
 |_,_=> .fail
def Eg {α:Type}:List V→(List T→M α)→M α
 | [],k=>k []
 |v::vs,k=>take v fun t=>Eg vs fun ts=>k (t::ts)
def DS {α:Type} (vss:List (List V)) (k:Rows→M α):M α:=
 match vss with
 | []=>k []
 |vs::vss=>Eg vs fun r=>DS vss fun rs=>k (r::rs)
def Fn {α:Type}:V→(Rows→M α)→M α
 | .t (.sl _ rows),k=>k rows
 | .nil,k=>k []
 | .ref id n,k=> .get id fun
   | .mem rows _ _=>if rows.length=n then k rows else .fail
   |_=> .fail
 | .sub id p i c n st,k=> .get id fun
   | .mem rows stt _=>if st=stt then(match C6 rows p i c with
     |some (.sl true rs)=>if rs.length=n then k rs else .fail
     |_=> .fail)else .fail
   |_=> .fail
 |_,_=> .fail
def HM {α:Type}:V→(Rows→M α)→M α
 | .t (.sl _ rows),k=>k rows
 | .t (.v (.slice _ 0 _)),k=>k []
 |v,k=>take v fun
   | .sl true rows=>k rows
   |_=> .fail
def TM (op:BinOp) (k:IntKind) (a b:Int):Option Value:=
 match op with
 | .add=>some (.int k (k.wrap (a+b)))
 | .sub=>some (.int k (k.wrap (a-b)))
 | .mul=>some (.int k (k.wrap (a*b)))
 | .quo=>if b=0 then none else some (.int k (k.wrap (a.tdiv b)))
 | .rem=>if b=0 then none else some (.int k (a.tmod b))
 | .and=>some (.int k (Go.bits .and k a b))
 | .or=>some (.int k (Go.bits .or k a b))
 | .xor=>some (.int k (Go.bits .xor k a b))
 | .andNot=>some (.int k (Go.bits .andNot k a b))
 | .eql=>some (.bool (a==b))
 | .neq=>some (.bool (a != b))
 | .lss=>some (.bool (decide (a<b)))
 | .leq=>some (.bool (decide (a≤b)))
 | .gtr=>some (.bool (decide (a>b)))
 | .geq=>some (.bool (decide (a≥b)))
 |_=>none
def A2s (op:BinOp) (x y:ByteArray):Option Value:=
 match op with
 | .add=>if x.size+y.size≤9223372036854775807 then some (.string (x++y))else none
 | .eql=>some (.bool (x.toList==y.toList))
 | .neq=>some (.bool (!(x.toList==y.toList)))
 | .lss=>some (.bool (Op.bytesLess x.toList y.toList))
 | .leq=>some (.bool (Op.bytesLess x.toList y.toList||x.toList==y.toList))
 | .gtr=>some (.bool (!(Op.bytesLess x.toList y.toList||x.toList==y.toList)))
 | .geq=>some (.bool (!(Op.bytesLess x.toList y.toList)))
 |_=>none
def Dh (op:BinOp):Value→Value→Option Value
 | .int k a, .int yk b=>match op with
  | .shl=>if b<0 then none else some (.int k (k.wrap (a*2^(min b.toNat k.bits))))
  | .shr=>if b<0 then none else some (.int k (a.fdiv (2^(min b.toNat k.bits))))
  |_=>if k=yk then TM op k a b else none
 | .string a, .string b=>A2s op a b
 |_,_=>none
inductive FK where
 |int|str|bool
 deriving Inhabited,DecidableEq
def eqK : FK→V→V→Option Bool
 | .int, .t (.v (.int k a)), .t (.v (.int k' b))=>if k=k' then some (a==b)else none
 | .str, .t (.v (.string a)), .t (.v (.string b))=>some (a.toList==b.toList)
 | .bool, .t (.v (.bool a)), .t (.v (.bool b))=>some (a==b)
 |_,_,_=>none
def fJ : List FK→List V→List V→Option Bool
 | [],[],[]=>some true
 |k::ks,a::as,b::bs=>(eqK k a b).bind fun e=>(fJ ks as bs).map fun r=>e&&r
 |_,_,_=>none
inductive Cv where
 |int (k:IntKind)
 |rune
 |same
 |str -- bytes as a string
 |bytes -- a string as bytes (shared)
 deriving Inhabited
def D4 (s:ByteArray):Rows:=s.data.toList.map fun b=>[.v (.int .u8 (b.toNat:Int))]
def vH (s:ByteArray):EQ:=if s.size=0 then .dead else .mem (D4 s) 0 false
def gh (c:Cv):V→Option V
 | .t (.v (.int k n))=>match c with
  | .int k'=>some (.t (.v (.int k' (k'.wrap n))))
  | .rune=>some (.t (.v (.string (Utf8.encode n))))
  |_=>none
 | .t (.v (.string s))=>match c with
  | .same=>some (.t (.v (.string s)))
  | .bytes=>if s.size≤maxLen then some (.t (.sl false (D4 s)))else none
  |_=>none
 |_=>none
inductive Md where
 |val|ref|give
 deriving Inhabited
def Wd : Rows→Bool
 | []=>true
 | [.v _]::rs=>Wd rs
 |_=>false
def Cp : Rows→Option (List UInt8)
 | []=>some []
 | [.v (.int .u8 n)]::rs=>(Cp rs).map fun l=>UInt8.ofNat n.toNat::l
 |_=>none
inductive CY where
 |s (t:Nat)
 |c (x:Value)
 |f (f:FuncId)
 |z (cs:List T) -- a struct of constants
 deriving Inhabited
def Uf : Value→V
 | .slice none 0 0=> .nil
 |x=> .t (.v x)
def V.one : V→Bool
 | .t _| .nil| .ref .. | .sub .. | .ptr .. =>true
 |_=>false
def A6 (s:List V):CY→V
 | .s t=>s.getD t .dead
 | .c x=>Uf x
 | .f f=> .fn f []
 | .z cs=> .agg (cs.map fun c=>match c with| .sl true []=>V.nil|c=>V.t c)
def gi : V→Option Id
 | .ptr id p i off m _=>if p.isEmpty&&(i==0&&(off==0&&m==1))then some id else none
 | .vb id off _ _=>if off==0 then some id else none
 |_=>none
inductive O where
 |mv (x:CY)
 |pick (c a b:CY)
 |alloc (z:List T)
 |box (x:CY)
 |vbox (x:CY)
 |vst (n:Nat) (x y:CY)
 |build (z:List T) (parts:List (Nat×Nat×CY))
 |bsl (sz:Nat) (parts:List CY)
 |bslz (sz:Nat) (parts:List CY) -- shared at once
 |ld (n:Nat) (ag:Bool) (x:CY)
 |ldr (x:CY) -- one cell out of a root itself
 |st (n:Nat) (x y:CY)
 |stk (x y:CY) -- a list is stored;its slot is the place from then on
 |nilc (x:CY)
 |bin (op:BinOp) (x y:CY)
 |eqs (ne:Bool) (ks:List FK) (x y:CY)
 |beq (ne:Bool) (x y:CY)
 |eqn (ne:Bool) (x:CY)
 |eqi (ne:Bool) (x:CY)
 |un (op:UnOp) (x:CY)
 |conv (c:Cv) (x:CY)
 |mks (z:List T) (byt:Nat) (x:CY)
 |slc (sz:Nat) (x:CY) (lo hi:Option CY)
 |vws (x:CY) (lo hi:Option CY) -- a part of an owned list
 |cut (x y:CY) -- append(l[:i],l[j:]...),l owned,i<j
 |cvo (x:CY) -- a string as bytes of one's own
 |aps (byt:Nat) (s x:CY) -- a string's bytes appended
 |fa (off:Nat) (x:CY)
 |fld (off n:Nat) (ag:Bool) (x:CY)
 |ia (sz:Nat) (x i:CY)
 |ix (x i:CY)
 |ixa (sz len:Nat) (ag:Bool) (x i:CY)
 |call (f:FuncId) (md:List Md) (own:List Bool) (args:List CY)
 |callv (x:CY) (md:List Md) (own:List Bool) (args:List CY)
 |app (sz byt:Nat) (s x:CY)
 |appn (q sz byt:Nat) (s x:CY) -- to a list below the cells of the root q
 |len (str:Bool) (x:CY)
 |mm (mx:Bool) (x y:CY)
 |ext (x:CY) (i:Nat)
 |mkf (f:FuncId) (caps:List CY)
 deriving Inhabited
inductive EB where
 |root (id:Id) (st:Nat) (fx:Bool) (rows:Rows)
 |cell (id:Id) (p:B5) (i c:Nat)
 |none
 deriving Inhabited
inductive PA where
 |a (x:M4)
 |v (v:V)
 deriving Inhabited
def PA.arg : PA→M4
 | .a x=>x
 | .v _=> .t .hole
mutual
def ER {α:Type} (md:Md):V→(PA→List EB→M α)→M α
 | .t c,k=>k (.a (.t c)) []
 | .nil,k=>match md with
  | .ref=>k (.a (.ln [])) [.none]
  |_=>k (.a (.t (.sl false []))) []
 | .agg cs,k=>match md with
  | .val=>k (.v (.agg cs)) []
  |_=>TN md cs fun as bs=>k (.a (.agg (as.map PA.arg))) bs
 | .ref id n,k=>match md with
  | .val=>k (.v (.ref id n)) []
  | .ref=> .get id fun
   | .mem rows st fx=>if rows.length=n then .set id .dead (k (.a (.ln rows)) [.root id st fx rows])else .fail
   |_=> .fail
  | .give=> .get id fun
   | .mem rows st fx=>if rows.length=n then .set id .dead (k (.a (.t (.sl false (Aw rows)))) [])else .fail
   |_=> .fail
 | .sub id p i c n st,k=>match md with
  | .val=>k (.v (.sub id p i c n st)) []
  | .ref=> .get id fun
   | .mem rows stt fx=>if st=stt then(match C6 rows p i c with
     |some (.sl true rs)=>if rs.length=n then .set id (.mem (BR rows p i c .hole) (stt+1) fx) (k (.a (.ln rs)) [.cell id p i c])else .fail
     |_=> .fail)else .fail
   |_=> .fail
  | .give=> .fail
 | .ptr id p i off n st,k=>if p.isEmpty&&i=0&&n=1 then .get id fun
   | .mem [cells] stt fx=>if off<cells.length then .set id .dead (k (.a (.lp cells off)) [.root id stt fx [cells]])else .fail
   |_=> .fail else .fail
 | .pp cs,k=>k (.a (.pp cs)) []
 | .fn f caps,k=>TN .ref caps fun as bs=>k (.a (.fn f (as.map PA.arg))) bs
 | .tup _,_=> .fail
 | .vb ..,_=> .fail
 | .vw ..,_=> .fail
 | .dead,_=> .fail
def TN {α:Type} (md:Md):List V→(List PA→List EB→M α)→M α
 |v::vs,k=>ER md v fun a b=>TN md vs fun as bs=>k (a::as) (b++bs)
 | [],k=>k [] []
end
def I8 {α:Type}:List Md→List V→(List PA→List EB→M α)→M α
 |md,v::vs,k=>ER (md.headD .val) v fun a b=>I8 md.tail vs fun as bs=>k (a::as) (b++bs)
 |_,[],k=>k [] []
def HE {α:Type}:V→(T→M α)→M α
 | .t c,k=>k c
 | .nil,k=>k (.sl false [])
 |v,k=>Fn v fun rows=>k (.sl false (Aw rows))
def R5 {α:Type}:List V→(List T→M α)→M α
 | [],k=>k []
 |v::vs,k=>HE v fun t=>R5 vs fun ts=>k (t::ts)
def Vz {α:Type}:PA→(M4→M α)→M α
 | .a x,k=>k x
 | .v (.agg cs),k=>R5 cs fun ts=>k (.agg (ts.map M4.t))
 | .v v,k=>HE v fun t=>k (.t t)
def SQ {α:Type}:List PA→(List M4→M α)→M α
 | [],k=>k []
 |p::ps,k=>Vz p fun a=>SQ ps fun as=>k (a::as)
def ET {α:Type}:List EB→List (Option Rows)→M α→M α
 | [],[],m=>m
 | .root id st fx rows0::bs,o::os,m=> .get id fun
   | .dead=>(match o with
    |some rows=>if rows.map (·.length)=rows0.map (·.length)then .set id (.mem rows (st+1) fx) (ET bs os m)else .fail
    |none=>ET bs os m)
   |_=> .fail
 | .cell id p i c::bs,o::os,m=> .get id fun
   | .mem rows stt fx=>(match o with
    |some rs=> .set id (.mem (BR rows p i c (.sl true rs)) (stt+1) fx) (ET bs os m)
    |none=>ET bs os m)
   |_=> .fail
 | .none::bs,_::os,m=>ET bs os m
 |_,_,_=> .fail
def BN : List EB→List Id
 | []=>[]
 | .root id _ _ _::bs=>id::BN bs
 | .cell id _ _ _::bs=>id::BN bs
 | .none::bs=>BN bs
def D5 : List Id→Bool
 | []=>true
 |a::l=> !l.contains a&&D5 l
def VO (d:Nat) (own:Bool) (k:Nat):T→V×List EQ
 | .sl o rows=>if own&&o then(.ref (d,k) rows.length,[.mem rows 0 false])else(.t (.sl false (Aw rows)),[])
 | .v x=>(.t (.v x),[])
 | .hole=>(.dead,[])
 | .pp _=>(.dead,[])
 | .fn _ _=>(.dead,[])
def ke (d:Nat) (own:Bool) (k:Nat):List T→List V×List EQ
 | []=>([],[])
 |t::ts=>let a:=VO d own k t;let b:=ke d own (k+a.2.length) ts;(a.1::b.1,a.2++b.2)
def R6 (d:Nat) (own:Bool) (k:Nat):RV→V×List EQ
 | .t c=>VO d own k c
 | .agg cs=>let a:=ke d own k cs;(.agg a.1,a.2)
 | .box cells=>(.ptr (d,k) [] 0 0 1 0,[.mem [cells] 0 false])
def Hp (d k:Nat):List Bool→List RV→List V×List EQ
 |_,[]=>([],[])
 |own,v::vs=>let a:=R6 d (own.headD false) k v;let b:=Hp d (k+a.2.length) own.tail vs;(a.1::b.1,a.2++b.2)
def UM (vs:List V):V:=match vs with| [v]=>v|_=> .tup vs
def V.isOwned : V→Bool
 | .ref _ _=>true
 | .sub .. =>true
 |_=>false
def PA.reads : PA→Bool
 | .a _=>false
 | .v (.agg cs)=>cs.any V.isOwned
 | .v x=>x.isOwned
mutual
def allOwn : T→Bool
 | .v _=>true
 | .sl o rows=>o&&Bm rows
 | .hole=>true
 | .pp _=>false
 | .fn _ _=>false
def EU : List T→Bool
 | []=>true
 |t::ts=>allOwn t&&EU ts
def Bm : List (List T)→Bool
 | []=>true
 |r::rs=>EU r&&Bm rs
end
def RV.allOwn : RV→Bool
 | .t c=>TT.allOwn c
 | .agg cs=>EU cs
 | .box cs=>EU cs
def Ay.allOwn (r:Ay):Bool:=r.vals.all RV.allOwn&&r.after.all fun o=>match o with|some rows=>Bm rows|none=>true
def XW (d:Nat) (f:FuncId) (md:List Md) (own:List Bool) (args:List V):M V:=
 I8 md args fun ps bs=>if !D5 (BN bs)then .fail else SQ ps fun as=> .call f as fun res=>if(ps.any PA.reads)&& !res.allOwn then .fail else ET bs res.after
  (let a:=Hp d 0 own res.vals;if a.2.isEmpty then .ret (UM a.1)else .new a.2 (.ret (UM a.1)))
def LIM : Nat:=140737488351232
def A11 (cs:List V) (k:Nat):List V→List V
 | []=>cs
 |v::vs=>A11 (cs.set k v) (k+1) vs
def V.isDead : V→Bool
 | .dead=>true
 |_=>false
def bld (s cs:List V):List (Nat×Nat×CY)→Option (List V)
 | []=>some cs
 |q::qs=>if(A6 s q.2.2).isDead=false∧(cellsOf (A6 s q.2.2)).length=q.2.1∧q.1+q.2.1≤cs.length then bld s (A11 cs q.1 (cellsOf (A6 s q.2.2))) qs else none
def kf (id:Id) (p:B5) (i off st:Nat):List T→V
 | [.sl true rs]=> .sub id p i off rs.length st
 |_=> .dead
def BD (s:List V) (d:Nat):O→M V
 | .mv x=> .ret (A6 s x)
 | .pick c a b=>match A6 s c with
  | .t (.v (.bool t))=> .ret (if t then A6 s a else A6 s b)
  |_=> .fail
 | .alloc z=> .new [.mem [z] 0 false] (.ret (.ptr (d,0) [] 0 0 1 0))
 | .box x=>Eg (cellsOf (A6 s x)) fun ts=>if ts.isEmpty then .fail else .new [.mem [ts] 0 false] (.ret (.ptr (d,0) [] 0 0 1 0))
 | .vbox x=>match A6 s x with
  | .agg cs=>if cs.isEmpty|| !cs.all V.one then .fail else .new [.mem [List.replicate cs.length .hole] 0 false] (.ret (.vb (d,0) 0 0 cs))
  |_=> .fail
 | .vst n x y=>match gi (A6 s x),A6 s y with
  |some id, .agg cs=>if cs.length=n∧cs.all V.one=true then .get id fun
    | .mem [row] stt fx=>if row.length=n then .set id (.mem [List.replicate n .hole] (stt+1) fx) (.ret (.vb id 0 (stt+1) cs))else .fail
    |_=> .fail else .fail
  |_,_=> .fail
 | .build z parts=>match bld s (z.map fun c=>match c with| .sl true []=>V.nil|c=>V.t c) parts with
  |some cs=> .ret (.agg cs)
  |none=> .fail
 | .bsl sz parts=>DS (parts.map fun q=>cellsOf (A6 s q)) fun rs=>if rs.all fun r=>r.length==sz then .new [.mem rs 0 false] (.ret (.ref (d,0) rs.length))else .fail
 | .bslz sz parts=>DS (parts.map fun q=>cellsOf (A6 s q)) fun rs=>if rs.all fun r=>r.length==sz then .new [.mem rs 0 false] (.set (d,0) .dead (.ret (.t (.sl false (Aw rs)))))else .fail
 | .ld n ag x=>match A6 s x with
  | .ptr id p i off m st=> .get id fun
    | .mem rows stt _=>(match DN rows stt p i m st with
     |some row=>if off+n≤row.length then
       (let vs:=PJ id p i off stt ((row.drop off).take n);if ag then .ret (.agg vs)else match vs with| [v]=> .ret v|_=> .fail)else .fail
     |none=> .fail)
    |_=> .fail
  | .vb id off st cs=> .get id fun
    | .mem rows stt _=>if(st=stt∧rows.length=1)∧off+n≤cs.length then
       (let vs:=(cs.drop off).take n;if ag then .ret (.agg vs)else match vs with| [v]=> .ret v|_=> .fail)else .fail
    |_=> .fail
  | .pp cs=>if n≤cs.length then(let vs:=(cs.take n).map tV;if ag then .ret (.agg vs)else match vs with| [v]=> .ret v|_=> .fail)else .fail
  |_=> .fail
 | .ldr x=>match A6 s x with
  | .ptr id p i off m st=>if p=[]then .get id fun
    | .mem rows stt _=>(match DN rows stt p i m st with
     |some row=>(match row[off]? with
      |some t=> .ret (KC id p i off stt t)
      |none=> .fail)
     |none=> .fail)
    |_=> .fail else .fail
  |_=> .fail
 | .st n x y=>match A6 s x with
  | .ptr id p i off m st=>Eg (cellsOf (A6 s y)) fun ts=> .get id fun
    | .mem rows stt fx=>(match DN rows stt p i m st with
     |some row=>if ts.length=n∧off+n≤row.length then
       .set id (.mem (IQ rows p i off ts) (stt+1) fx) (.ret .dead)else .fail
     |none=> .fail)
    |_=> .fail
  |_=> .fail
 | .stk x y=>match A6 s x,A6 s y with
  | .ptr id p i off m st, .ref id2 n2=>Eg [.ref id2 n2] fun ts=> .get id fun
    | .mem rows stt fx=>(match DN rows stt p i m st with
     |some row=>if ts.length=1∧off+1≤row.length then
       .set id (.mem (IQ rows p i off ts) (stt+1) fx) (.ret (kf id p i off (stt+1) ts))else .fail
     |none=> .fail)
    |_=> .fail
  |_,_=> .fail
 | .nilc x=>match A6 s x with
  | .ptr a b c d e f=> .ret (.ptr a b c d e f)
  | .vb id o st cs=> .ret (.vb id o st cs)
  | .pp cs=> .ret (.pp cs)
  | .fn f caps=> .ret (.fn f caps)
  |_=> .fail
 | .bin op x y=>match A6 s x,A6 s y with
  | .t (.v a), .t (.v b)=>match Dh op a b with|some r=> .ret (.t (.v r))|none=> .fail
  |_,_=> .fail
 | .eqs ne ks x y=>match A6 s x,A6 s y with
  | .agg as, .agg bs=>match fJ ks as bs with|some r=> .ret (.t (.v (.bool (if ne then !r else r))))|none=> .fail
  |_,_=> .fail
 | .beq ne x y=>match A6 s x,A6 s y with
  | .t (.v (.bool a)), .t (.v (.bool b))=> .ret (.t (.v (.bool (if ne then !(a==b)else a==b))))
  |_,_=> .fail
 | .eqi ne x=>match A6 s x with
  | .t (.v .nilIface)=> .ret (.t (.v (.bool (!ne))))
  |_=> .fail
 | .eqn ne x=>match A6 s x with
  | .nil=> .ret (.t (.v (.bool (!ne))))
  | .t (.v (.slice q _ _))=> .ret (.t (.v (.bool (if ne then !q.isNone else q.isNone))))
  | .t (.sl _ (_::_))=> .ret (.t (.v (.bool ne)))
  |_=> .fail
 | .un op x=>match op,A6 s x with
  | .not, .t (.v (.bool b))=> .ret (.t (.v (.bool (!b))))
  | .neg, .t (.v (.int k n))=> .ret (.t (.v (.int k (k.wrap (0-n)))))
  |_,_=> .fail
 | .conv c x=>match c with
  | .str=>match A6 s x with
   | .sub .. => .fail
   |v=>Fn v fun rows=>match Cp rows with|some l=> .ret (.t (.v (.string ⟨l.toArray⟩)))|none=> .fail
  |_=>match gh c (A6 s x)with|some v=> .ret v|none=> .fail
 | .mks z byt x=>match A6 s x with
  | .t (.v (.int _ n))=>if 0≤n∧n.toNat*byt≤LIM∧0<byt then .new [.mem (List.replicate n.toNat z) 0 false] (.ret (.ref (d,0) n.toNat))else .fail
  |_=> .fail
 | .slc sz x lo hi=>
  let b (o:Option CY) (e:Int):Option Int:=match o with
   |none=>some e
   |some q=>match A6 s q with| .t (.v (.int _ n))=>some n|_=>none
  match A6 s x with
  | .t (.v (.string st))=>match b lo 0,b hi st.size with
   |some l,some h=>if(0≤l∧l≤h∧h≤st.size)∧sz=0 then .ret (.t (.v (.string (st.extract l.toNat h.toNat))))else .fail
   |_,_=> .fail
  | .t (.sl _ rows)=>match b lo 0,b hi rows.length with
   |some l,some h=>if(0≤l∧l≤h∧h≤rows.length)∧0<sz∧(rows.all fun r=>r.length==sz)then .ret (.t (.sl false ((rows.drop l.toNat).take (h.toNat-l.toNat))))else .fail
   |_,_=> .fail
  |_=> .fail
 | .vws x lo hi=>
  let b (o:Option CY) (e:Int):Option Int:=match o with
   |none=>some e
   |some q=>match A6 s q with| .t (.v (.int _ n))=>some n|_=>none
  match A6 s x with
  | .ref id n=>match b lo 0,b hi n with
   |some l,some h=>if(0≤l∧l≤h∧h≤n)∧0<n then .ret (.vw id l.toNat h.toNat n)else .fail
   |_,_=> .fail
  |_=> .fail
 | .cut x y=>match A6 s x,A6 s y with
  | .vw id l1 h1 n, .vw id2 l2 h2 n2=>if(id2=id∧n2=n)∧l1=0∧h1<l2∧l2≤n∧h2=n then .get id fun
    | .mem rows _ _=>if rows.length=n∧Wd rows=true then .set id .dead (.ret (.t (.sl false (rows.take h1++rows.drop l2))))else .fail
    |_=> .fail else .fail
  |_,_=> .fail
 | .cvo x=>match A6 s x with
  | .t (.v (.string st))=>if st.size≤maxLen then .new [vH st] (.ret (.ref (d,0) st.size))else .fail
  |_=> .fail
 | .aps byt a x=>match A6 s x with
  | .t (.v (.string t))=>(match A6 s a with
   | .ref id n=> .get id fun
    | .mem rows st _=>if rows.length=n∧(n+t.size)*byt≤LIM∧0<byt∧(rows.all fun r=>r.length==1)then .set id (.mem (rows++D4 t) st false) (.ret (.ref id (n+t.size)))else .fail
    |_=> .fail
   |_=> .fail)
  |_=> .fail
 | .fa off x=>match A6 s x with
  | .ptr id p i o n st=> .ret (.ptr id p i (o+off) n st)
  | .vb id o st cs=> .ret (.vb id (o+off) st cs)
  | .pp cs=> .ret (.pp (cs.drop off))
  |_=> .fail
 | .fld off n ag x=>match A6 s x with
  | .agg cs=>if off+n≤cs.length then(let vs:=(cs.drop off).take n;if ag then .ret (.agg vs)else match vs with| [v]=> .ret v|_=> .fail)else .fail
  |_=> .fail
 | .ia sz x i=>match A6 s i with
  | .t (.v (.int _ n))=>if 0≤n then(match A6 s x with
   | .t (.sl _ rows)=>(match rows[n.toNat]? with|some row=>if row.length=sz then .ret (.pp row)else .fail|none=> .fail)
   | .ref id m=> .get id fun
     | .mem rows _ _=>if rows.length=m then(match rows[n.toNat]? with|some row=>if row.length=sz then .ret (.ptr id [] n.toNat 0 m 0)else .fail|none=> .fail)else .fail
     |_=> .fail
   | .sub id p j c m st=> .get id fun
     | .mem rows stt _=>if st=stt then(match C6 rows p j c with
      |some (.sl true rs)=>if rs.length=m then(match rs[n.toNat]? with|some row=>if row.length=sz then .ret (.ptr id (p++[(j,c)]) n.toNat 0 m st)else .fail|none=> .fail)else .fail
      |_=> .fail)else .fail
     |_=> .fail
   |_=> .fail)else .fail
  |_=> .fail
 | .ix x i=>match A6 s x,A6 s i with
  | .t (.v (.string st)), .t (.v (.int _ n))=>if h:0≤n∧n.toNat<st.size then .ret (.t (.v (.int .u8 (st[n.toNat]'h.2).toNat)))else .fail
  |_,_=> .fail
 | .ixa sz len ag x i=>match A6 s x,A6 s i with
  | .agg cs, .t (.v (.int _ n))=>if 0≤n∧n<len∧cs.length=len*sz then
    (let vs:=(cs.drop (n.toNat*sz)).take sz;if ag then .ret (.agg vs)else match vs with| [v]=> .ret v|_=> .fail)else .fail
  |_,_=> .fail
 | .call f md own args=>XW d f md own (args.map (A6 s))
 | .callv x md own args=>match A6 s x with
  | .fn f caps=>XW d f (md++(caps.map fun _=>Md.ref)) own (args.map (A6 s)++caps)
  |_=> .fail
 | .app sz byt a x=>HM (A6 s x) fun new=>if new.all fun r=>r.length==sz then(match A6 s a with
  | .nil=>if new.length*byt≤LIM∧0<byt then .new [.mem new 0 false] (.ret (.ref (d,0) new.length))else .fail
  | .ref id n=> .get id fun
    | .mem rows st _=>if rows.length=n∧(n+new.length)*byt≤LIM∧0<byt∧(rows.all fun r=>r.length==sz)then .set id (.mem (rows++new) st false) (.ret (.ref id (n+new.length)))else .fail
    |_=> .fail
  | .sub id p i c n st=>take (.sub id p i c n st) fun
    | .sl true rows=>if(rows.length+new.length)*byt≤LIM∧0<byt∧(rows.all fun r=>r.length==sz)then .new [.mem (rows++new) 0 false] (.ret (.ref (d,0) (rows.length+new.length)))else .fail
    |_=> .fail
  |_=> .fail)else .fail
 | .appn q sz byt a x=>match A6 s a,A6 s x with
  | .sub id p i c n st, .ref id2 n2=>if p≠[]∧id.1=q∧id2.1≠q then HM (.ref id2 n2) fun new=>if new.all fun r=>r.length==sz then take (.sub id p i c n st) fun
    | .sl true rows=>if(rows.length+new.length)*byt≤LIM∧0<byt∧(rows.all fun r=>r.length==sz)then .new [.mem (rows++new) 0 false] (.ret (.ref (d,0) (rows.length+new.length)))else .fail
    |_=> .fail else .fail else .fail
  |_,_=> .fail
 | .len str x=>match str,A6 s x with
  |true, .t (.v (.string st))=> .ret (.t (.v (.int .i64 st.size)))
  |false, .t (.sl _ rows)=> .ret (.t (.v (.int .i64 rows.length)))
  |false, .nil=> .ret (.t (.v (.int .i64 0)))
  |false, .ref _ n=> .ret (.t (.v (.int .i64 n)))
  |false, .sub _ _ _ _ n _=> .ret (.t (.v (.int .i64 n)))
  |_,_=> .fail
 | .mm mx x y=>match A6 s x,A6 s y with
  | .t (.v (.int k a)), .t (.v (.int _ b))=> .ret (.t (.v (.int k (if mx then(if a<b then b else a)else(if b<a then b else a)))))
  |_,_=> .fail
 | .ext x i=>match A6 s x with
  | .tup vs=>match vs[i]? with|some v=> .ret v|none=> .fail
  |_=> .fail
 | .mkf f caps=> .ret (.fn f (caps.map (A6 s)))
structure EV where
 d:Option Nat
 g:Option (Nat×Bool)
 o:O
 rd:List Nat:=[]
 wr:List Nat:=[]
 deriving Inhabited
@[simp] abbrev oo (d:Nat) (o:O) : EV := ⟨some d, none, o, [], []⟩
@[simp] abbrev ow (d g:Nat) (w:Bool) (o:O) : EV := ⟨some d, some (g, w), o, [], []⟩
@[simp] abbrev on (o:O) : EV := ⟨none, none, o, [], []⟩
inductive H where
 |kill (ts:List Nat)
 |clean (ts:List Nat)
 |freeze (t:Nat)
 |own (t d:Nat)
 |home (t d:Nat)
 |frzc (d k:Nat)
 |frzr (d k:Nat)
 |frzb (d k:Nat)
 |opn (d:Nat) -- what is owned at d is there
 deriving Inhabited
inductive K where
 |skip
 |reg (draw:Bool) (ops:List EV)
 |seq (a b:K)
 |cond (x:CY) (a b:K)
 |blk (id:Nat) (b:K)
 |loop (b:K)
 |ex (id:Nat)
 |ret
 |h (hs:List H) (k:K)
 |hp (hs:List H) (k:K)
 deriving Inhabited
inductive Ex where
 |normal
 |exit (id:Nat)
 |ret
 deriving Inhabited
structure St where
 s:List V
 r:R
 deriving Inhabited
def St.put (st:St) (d:Option Nat) (v:V):St:=match d with
 |some t=>{ st with s:=st.s.set t v }
 |none=>st
def Gu (s:List V):Option (Nat×Bool)→Option Bool
 |none=>some true
 |some (t,want)=>match s.getD t .dead with
  | .t (.v (.bool b))=>some (b==want)
  | .tup []=>some false
  |_=>none
def DD (call:Ag) (draw:Bool) (e:EV) (st:St):Option St:=
 (Gu st.s e.g).bind fun w=>if w then
  ((if draw then(BD st.s (e.d.getD 0) e.o).runA call (e.d.getD 0) e.rd e.wr st.r else(BD st.s (e.d.getD 0) e.o).run call (e.d.getD 0) st.r).map fun q=>({ st with r:=q.2 }:St).put e.d q.1)
  else some (st.put e.d (.tup []))
def CS (call:Ag) (draw:Bool):List EV→St→Option St
 | [],st=>some st
 |e::es,st=>(DD call draw e st).bind (CS call draw es)
mutual
def V.mentions (ts:List Nat):V→Bool
 | .ref id _=>ts.contains id.1
 | .sub .. =>true
 | .ptr id p _ _ _ _=> !p.isEmpty||ts.contains id.1
 | .agg cs=>M5 ts cs
 | .fn _ cs=>M5 ts cs
 | .tup cs=>M5 ts cs
 | .vb .. =>true
 | .vw id _ _ _=>ts.contains id.1
 |_=>false
def M5 (ts:List Nat):List V→Bool
 | []=>false
 |v::vs=>v.mentions ts||M5 ts vs
end
def EQ.calm : EQ→EQ
 | .mem rows _ fx=> .mem rows 0 fx
 | .dead=> .dead
def TO (ts:List Nat) (t:Nat) (es:List EQ):List EQ:=if ts.contains t then[]else es.map EQ.calm
def PK (ts:List Nat) (t:Nat) (v:V):V:=if ts.contains t||v.mentions ts then .dead else v
def Q1 {α:Type}:V→(V→M α)→M α
 | .ref id n,k=> .get id fun
   | .mem rows _ fx=>if rows.length=n∧fx=false then .set id .dead (k (.t (.sl false (Aw rows))))else .fail
   | .dead=>if n=0 then .set id .dead (k (.t (.sl false [])))else .fail
 | .ptr id p i off n _,k=>if p.isEmpty&&(i==0&&n==1)then .get id fun
   | .mem [cells] _ fx=>if off<cells.length∧fx=false then .set id .dead (k (.pp ((Ho cells).drop off)))else .fail
   |_=> .fail else .fail
 | .nil,k=>k (.t (.sl false []))
 | .t (.sl o rows),k=>k (.t (.sl o rows))
 |_,_=> .fail
def doH (st:St):H→Option St
 | .kill ts=>some { st with s:=ts.foldl (fun s t=>s.set t .dead) st.s }
 | .clean ts=>some { s:=st.s.mapIdx (PK ts),r:=st.r.mapIdx (TO ts) }
 | .freeze t=>((Q1 (st.s.getD t .dead) .ret).run (fun _ _=>none) 0 st.r).map fun q=>{ s:=st.s.set t q.1,r:=q.2 }
 | .own t d=>match st.s.getD t .dead with
  | .nil=>if d<st.r.length&&(st.r.getD d []).isEmpty then some { s:=st.s.set t (.ref (d,0) 0),r:=st.r.set d [.mem [] 0 false] }else none
  | .ref _ _=>some st
  |_=>none
 | .home t d=>match st.s.getD t .dead with
  | .ref id n=>match Aa st.r id,st.r.getD d []with
   | .mem rows _ false,[.dead]=>if rows.length=n∧id.1≠d then some { s:=(st.s.mapIdx (PK [id.1,d])).set t (.ref (d,0) n),r:=(st.r.set id.1 []).set d [.mem rows 0 false] }else none
   |_,_=>none
  |_=>none
 | .frzc d k=>match Aa st.r (d,0)with
  | .mem rows stt fx=>match C6 rows [] 0 k with
   |some (.sl true rs)=>some { st with r:=Bf st.r (d,0) (.mem (BR rows [] 0 k (.sl false (Aw rs))) stt fx) }
   |some (.sl false _)=>some st
   |_=>none
  |_=>none
 | .frzr d k=>match Aa st.r (d,k)with
  | .mem rows stt fx=>some { st with r:=Bf st.r (d,k) (.mem (Aw rows) (stt+1) fx) }
  |_=>none
 | .opn d=>match Aa st.r (d,0)with
  | .mem .. =>some st
  |_=>none
 | .frzb d k=>match Aa st.r (d,0)with
  | .mem rows stt fx=>match C6 rows [] 0 k with
   |some (.sl true rs)=>some { st with r:=Bf st.r (d,0) (.mem (BR rows [] 0 k (.sl true (Aw rs))) (stt+1) fx) }
   |_=>none
  |_=>none
def VP : List H→St→Option St
 | [],st=>some st
 |h::hs,st=>(doH st h).bind (VP hs)
def iter (f:St→Option (Ex×St)):Nat→St→Option (Ex×St)
 |0,_=>none
 |n+1,st=>(f st).bind fun q=>match q.1 with
  | .normal=>iter f n q.2
  |e=>some (e,q.2)
def DC (call:Ag) (lf:Nat):K→St→Option (Ex×St)
 | .skip,st=>some (.normal,st)
 | .reg draw ops,st=>(CS call draw ops st).map fun st'=>(.normal,st')
 | .seq a b,st=>(DC call lf a st).bind fun q=>match q.1 with
  | .normal=>DC call lf b q.2
  |e=>some (e,q.2)
 | .cond x a b,st=>match A6 st.s x with
  | .t (.v (.bool true))=>DC call lf a st
  | .t (.v (.bool false))=>DC call lf b st
  |_=>none
 | .blk id b,st=>(DC call lf b st).map fun q=>match q.1 with
  | .exit j=>if j=id then(.normal,q.2)else(.exit j,q.2)
  |e=>(e,q.2)
 | .loop b,st=>iter (fun st=>DC call lf b st) lf st
 | .ex id,st=>some (.exit id,st)
 | .ret,st=>some (.ret,st)
 | .h hs k,st=>(DC call lf k st).bind fun q=>match q.1 with
  | .normal=>(VP hs q.2).map fun st'=>(.normal,st')
  |e=>some (e,q.2)
 | .hp hs k,st=>(VP hs st).bind fun st'=>DC call lf k st'
inductive RK where
 |tmp (t:Nat)
 |cell (t n:Nat) (ag:Bool)
 deriving Inhabited
inductive K2 where
 |seqL (a:K2) (b:K)
 |seqR (a:K) (b:K2)
 |condL (x:CY) (a:K2) (b:K)
 |condR (x:CY) (a:K) (b:K2)
 |condB (x:CY) (a b:K2)
 |blk (id:Nat) (b:K2)
 |h (hs:List H) (k:K2)
 |hp (hs:List H) (k:K2)
 |coin (t u:Nat) (a b:K)
 deriving Inhabited
def K2.pick (c:Bool):K2→K
 | .seqL a b=> .seq (a.pick c) b
 | .seqR a b=> .seq a (b.pick c)
 | .condL x a b=> .cond x (a.pick c) b
 | .condR x a b=> .cond x a (b.pick c)
 | .condB x a b=> .cond x (a.pick c) (b.pick c)
 | .blk id b=> .blk id (b.pick c)
 | .h hs k=> .h hs (k.pick c)
 | .hp hs k=> .hp hs (k.pick c)
 | .coin t u a b=> .seq (.reg false [oo t (.alloc [.v (.bool false)]),on (.st 1 (.s t) (.c (.bool (!c)))),on (.st 1 (.s t) (.c (.bool c))),oo u (.ld 1 false (.s t))]) (.cond (.s u) a b)
inductive Co where
 |k (k:K2)
 |m (m:List M4→M Ay)
 deriving Inhabited
structure F where
 nt:Nat
 res:List RK
 body:K
 co:Option Co
 deriving Inhabited
mutual
def inV (t k:Nat):M4→V×List EQ
 | .t c=>(.t c,[])
 | .agg cs=>let a:=kg t k cs;(.agg a.1,a.2)
 | .ln rows=>(.ref (t,k) rows.length,[.mem rows 0 true])
 | .lp cells off=>(.ptr (t,k) [] 0 off 1 0,[.mem [cells] 0 true])
 | .pp cells=>(.pp cells,[])
 | .fn f caps=>let a:=kg t k caps;(.fn f a.1,a.2)
def kg (t k:Nat):List M4→List V×List EQ
 | []=>([],[])
 |a::as=>let x:=inV t k a;let y:=kg t (k+x.2.length) as;(x.1::y.1,x.2++y.2)
end
def RT (t:Nat):List M4→List (V×List EQ)
 | []=>[]
 |a::as=>inV t 0 a::RT (t+1) as
def enter (nt:Nat) (args:List M4):St:=
 let ps:=RT 0 args
 { s:=ps.map (·.1)++List.replicate (nt-args.length) .dead,r:=ps.map (·.2)++List.replicate (nt-args.length) [] }
def vI {α:Type}:V→(T→M α)→M α
 | .nil,k=>k (.sl true [])
 |v,k=>take v k
def qj {α:Type}:List V→(List T→M α)→M α
 | [],k=>k []
 |v::vs,k=>vI v fun t=>qj vs fun ts=>k (t::ts)
def kh {α:Type}:V→(RV→M α)→M α
 | .agg cs,k=>qj cs fun ts=>k (.agg ts)
 | .ptr id p i off n st,k=>if p.isEmpty&&i=0&&off=0&&n=1 then .get id fun
   | .mem [cells] _ fx=>if fx then .fail else .set id .dead (k (.box cells))
   |_=> .fail else .fail
 |v,k=>vI v fun t=>k (.t t)
def A12 {α:Type} (s:List V):RK→(V→M α)→M α
 | .tmp t,k=>k (s.getD t .dead)
 | .cell t n ag,k=>match s.getD t .dead with
  | .ptr id p i off m st=> .get id fun
    | .mem rows stt _=>(match DN rows stt p i m st with
     |some row=>if off+n≤row.length then
       (let vs:=PJ id p i off stt ((row.drop off).take n);if ag then k (.agg vs)else match vs with| [v]=>k v|_=> .fail)else .fail
     |none=> .fail)
    |_=> .fail
  |_=> .fail
def ol {α:Type} (s:List V):List RK→(List RV→M α)→M α
 | [],k=>k []
 |q::qs,k=>A12 s q fun v=>kh v fun x=>ol s qs fun xs=>k (x::xs)
def ki : EQ→Option Rows
 | .mem rows _ true=>some rows
 |_=>none
def kj (r:R) (na:Nat):List (Option Rows):=(r.take na).flatMap fun es=>es.map ki
def XX (r:R) (na:Nat):List Nat:=(r.take na).map (·.length)
abbrev om := FuncId→Option F
def iV (call:Ag) (lf nt:Nat) (res:List RK) (body:K) (args:List M4):Option Ay:=
 if args.length≤nt then
  (DC call lf body (enter nt args)).bind fun q=>match q.1 with
   | .exit _=>none
   |_=>((ol q.2.s res M.ret).run (fun _ _=>none) 0 q.2.r).bind fun o=>
    if XX o.2 args.length=XX (enter nt args).r args.length then some { vals:=o.1,after:=kj o.2 args.length }else none
 else none
noncomputable def oq (call:Ag) (lf:Nat) (fn:F) (args:List M4):Option Ay:=match fn.co with
 |none=>iV call lf fn.nt fn.res fn.body args
 |some (.m m)=>((m args).run call 0 []).map (·.1)
 |some (.k k)=>(iV call lf fn.nt fn.res (k.pick true) args).bind fun x=>(iV call lf fn.nt fn.res (k.pick false) args).bind fun y=> @ite _ (x=y) (Classical.propDecidable _) (some x) none
noncomputable def Hg (FT:om) (X:Ag):Nat→Ag
 |0,_,_=>none
 |n+1,f,args=>match X f args with
  |some r=>some r
  |none=>(FT f).bind fun fn=>oq (Hg FT X n) n fn args
end TT
