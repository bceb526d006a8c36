import Derived.Test.YtpmnlfgdicmiiaaGreatDoorTD7
set_option linter.unusedVariables false
set_option linter.unusedSimpArgs false
namespace TT
open Go
section
variable {P:Program} {c:Ctx} {w w':World} {B:Nat→Prop} {ρ:Id→HG} {Sf:Id→Nat→Prop} {X:Nat→Prop} {r:R} {a:Act} {o:Oper} {id0:Id}
def PZ (P:Program) (o:Oper) (a:Act) (w w':World):Prop:=(execOp a.eval o).run P w= .ok .skip w'
def stB (P:Program) (t:TypeId) (n:Nat):Bool:=match P.info? t with|some i=>i.size==n&&decide (0<n)|none=>false
theorem NM {t:TypeId} {n:Nat} {x y:Operand} (h:o.op= .store t x y) (hb:stB P t n=true) {ad:Addr} (hx:a.eval x= .pointer (some ad)) (hn:(a.eval y).cells.size=n) (hrun:(storeCells ad (a.eval y).cells.toList 0).run P w= .ok () w'):PZ P o a w w':=by
 unfold stB at hb
 cases hi:P.info? t with
 |none=>rw[hi]at hb;cases hb
 |some i=>
  rw[hi]at hb
  simp only[bz,beq_iff_eq]at hb
  have h1:(Instr.storeAt t (.pointer (some ad)) (a.eval y)).run P w= .ok () w':=by
   simp only[Instr.storeAt,Instr.sureAddr,storeVar]
   simp[Sem.run_bind,Jb hi,hb.1,hn,hrun]
  unfold PZ execOp
  rw[h]
  simp only[hx]
  rw[Sem.run_bind,h1]
  rfl
theorem ABJ (hI:E5 c w B ρ Sf (fun _=>False) r) {t:TypeId} {n:Nat} {y z:Operand} (h:o.op= .store t y z) (hb:stB P t n=true) {v:V} (hv:A6 w B ρ r v (a.eval z)) {id:Id} {p:Path} {i off m st:Nat}
  (hp:A6 w B ρ r (.ptr id p i off m st) (a.eval y)) {call:Ai} {d:Nat} {x:V×R}
  (hrun:(FN (cellsOf v) fun ts=> .get id fun
     | .mem rows stt fx=>(match Dw rows stt p i m st with
      |some row=>if ts.length=n∧off+n≤row.length then
        .set id (.mem (K0 rows p i off ts) (stt+1) fx) (.ret .dead)else .fail
      |none=> .fail)
     |_=> .fail).run call d r=some x):
  ∃w' Sf',PZ P o a w w'∧E5 c w' B ρ Sf' (fun _=>False) x.2∧x.2.length=r.length∧(∀v u,A6 w B ρ r v u→A6 w' B ρ x.2 v u)∧x.1= .dead:=by
 have hnd:v≠ .dead:=fun e=>by subst e;exact bO hrun
 obtain⟨ts,S,Sf1,r1,g1,g2,g3,g4,g5,g6,g7⟩:=Pf hrun hI (NL hv hnd)
 simp only[M.run]at g1
 cases h0:Ac r1 id with
 |dead=>rw[h0]at g1;simp[M.run]at g1
 |mem rows stt fx=>
  rw[h0]at g1
  simp only at g1
  cases hpr:Dw rows stt p i m st with
  |none=>rw[hpr]at g1;simp[M.run]at g1
  |some row=>
   rw[hpr]at g1
   simp only at g1
   split at g1
   ·rename_i hc
    simp only[M.run,oi]at g1
    subst g1
    have hn0:0<n:=by
     unfold stB at hb
     cases hi:P.info? t with
     |none=>rw[hi]at hb;cases hb
     |some i=>rw[hi]at hb;simp only[bz,decide_eq_true_eq]at hb;exact hb.2
    obtain⟨b,k,us,e1,_,_,_,hloc⟩:=Vm g3 h0 (g5.claims _ _ hp) hpr hn0 hc.2
    obtain⟨r1',r2',r3'⟩:=WW hpr
    obtain⟨ho,hfx⟩:=g3.mem h0
    have hSb:Sf1 id b:=by
     have hlt:off<row.length:=by omega
     obtain⟨b',k',cur,e,u0,S1,S2,l1,l2,l3,l4,l5,l6,l7,l8⟩:=H1.lens p ho (show CR rows p i off=some row[off] by rw[KI r1'];simp[hlt])
     obtain⟨rfl,rfl⟩:=Bb.unique p l1 hloc
     exact l6.right l7
    obtain⟨w2,m1,m2,m3,m4,m5,m6,S',m7,m8⟩:=Tj (P:=P) ts (k:=k) (j:=0) ho r1' (by omega) (fun _=>hloc) g2 (fun x hx hx'=>g3.xd id x (.inr hx) hx') (fun x hx=>g3.nb id x hx) (fun x hx=>g3.xb x (.inr hx))
    obtain⟨Sf2,n1,n2⟩:=g3.turn (w':=w2) (ρ':=ρ) (rows':=K0 rows p i off ts) (stt':=stt+1) (fx':=fx) h0 (fun x hx hX hS=>m3 x (fun e=>hS (e▸hSb))) (by omega) m4 m5 m6 (fun _ _=>rfl) m7 (fun x hx=>by
      rcases m8 x hx with h|h
      ·exact .inr (.inr h)
      ·exact .inr (.inl (.inr h))) (fun hf=>⟨(hfx hf).1,by rw[Ni];exact(hfx hf).2⟩)
     (fun hk hB v u hh=>NJ h0 (Ni ..) (fun i row' hr=>bP ts i row' hr) (Nat.lt_succ_self _) (fun _ h=>h) hB hk hh)
    have hsz:(a.eval z).cells.size=n:=by
     have:=CS.length g2
     rw[←hc.1,←this];simp
    exact⟨w2,Sf2,NM h hb e1 hsz m1,n1,by rw[Bu,g5.size],fun v u hh=>n2 v u (g5.claims v u hh),rfl⟩
   ·simp[M.run]at g1
theorem Xv {b:Nat}:∀{us:List Value} {w w2:World} {j:Nat} {cur:Array Value} {e:TypeId},(storeCells ⟨b,0,none⟩ us j).run P w= .ok () w2→SW w b cur e→(∀u∈us,u.oneCell'=true)→j+us.length≤cur.size→
  (∀(i:Nat) u,us[i]? =some u→w2.cell? ⟨b,j+i,none⟩=some u)∧∀i,i<j→w2.cell? ⟨b,i,none⟩=w.cell? ⟨b,i,none⟩
 | [],w,w2,j,cur,e,hrun,hb,h1,hl=>by
  have:w2=w:=by
   have hrun':(pure ():Sem Unit).run P w= .ok () w2:=hrun
   simp at hrun'
   exact hrun'.symm
  subst this
  exact⟨fun i u h=>by simp at h,fun _ _=>rfl⟩
 |u::us,w,w2,j,cur,e,hrun,hb,h1,hl=>by
  have hj:j<cur.size:=by simp at hl;omega
  have hs:=Vp (P:=P) (k:=j) hb (show cur[j]? =some cur[j] by simp[hj]) (h1 u (List.mem_cons_self ..))
  simp only[storeCells,DB,Nat.zero_add]at hrun
  rw[Sem.run_bind,hs]at hrun
  obtain⟨g1,g2⟩:=Xv (us:=us) (j:=j+1) hrun (SW.set hb) (fun u hu=>h1 u (List.mem_cons_of_mem _ hu)) (by simp at hl ⊢;omega)
  refine⟨fun i v hi=> ?_,fun i hi=> ?_⟩
  ·cases i with
   |zero=>
    simp only[List.getElem?_cons_zero,oi]at hi
    subst hi
    rw[Nat.add_zero,g2 j (Nat.lt_succ_self _),(SW.set hb).cell _]
    simp[hj]
   |succ i=>
    have:=g1 i v (by simpa using hi)
    rwa [show j+1+i=j+(i+1) by omega]at this
  ·rw[g2 i (by omega),(SW.set hb).cell _,hb.cell _,Array.getElem?_setIfInBounds_ne (by omega)]
theorem pj : ∀ (ts pre rest:List T),ts.length≤rest.length→K0 [pre++rest] [] 0 pre.length ts=[pre++ts++rest.drop ts.length]
 | [],pre,rest,h=>by simp[K0]
 |t::ts,pre,[],h=>by simp at h
 |t::ts,pre,x::rest,h=>by
  have h1:Bn [pre++x::rest] [] 0 pre.length t=[(pre++[t])++rest]:=by
   simp[Bn,ID]
  simp only[K0,h1]
  have:=pj ts (pre++[t]) rest (by simpa using h)
  rw[show pre.length+1=(pre++[t]).length by simp,this]
  simp
theorem A0N {v:V} {id:Id} {u:Value} (h:gL v=some id) (hv:A6 w B ρ r v u):A6 w B ρ r (.ptr id [] 0 0 1 0) u:=by
 cases v with
 |ptr id' p i off m st=>
  simp only[gL]at h
  split at h
  ·rename_i hc
   simp only[bz,beq_iff_eq,List.isEmpty_iff]at hc
   obtain⟨rfl,rfl,rfl,rfl⟩:=hc
   cases h
   simp only[A6]at hv ⊢
   obtain⟨h1,ad,h2,h3⟩:=hv
   refine⟨h1,ad,h2,fun rows stt fx hg=> ?_⟩
   obtain⟨k1,k2,k3⟩:=h3 rows stt fx hg
   exact⟨k1,fun e=>absurd rfl e,fun e _=>⟨fun e=>absurd rfl e,(k3 e fun e=>absurd rfl e).2⟩⟩
  ·cases h
 |vb id' off st cs=>
  simp only[gL]at h
  split at h
  ·rename_i hc
   simp only[beq_iff_eq]at hc
   subst hc
   cases h
   simp only[A6]at hv ⊢
   exact⟨hv.1,hv.2.1⟩
  ·cases h
 |_=>simp[gL]at h
theorem A9K (hI:E5 c w B ρ Sf (fun _=>False) r) {t:TypeId} {n:Nat} {y z:Operand} (h:o.op= .store t y z) (hb:stB P t n=true) {cs:List V} (hv:A6 w B ρ r (.agg cs) (a.eval z)) {v:V} {id:Id} (hid:gL v=some id)
  (hp:A6 w B ρ r v (a.eval y)) (hlen:cs.length=n) (hone:cs.all V.one=true) {row:List T} {stt:Nat} {fx:Bool} (h0:Ac r id= .mem [row] stt fx) (hrow:row.length=n):
  ∃w' Sf',PZ P o a w w'∧E5 c w' B ρ Sf' (fun _=>False) (C3 r id (.mem [List.replicate n .hole] (stt+1) fx))∧(∀v u,A6 w B ρ r v u→A6 w' B ρ (C3 r id (.mem [List.replicate n .hole] (stt+1) fx)) v u)∧
   A6 w' B ρ (C3 r id (.mem [List.replicate n .hole] (stt+1) fx)) (.vb id 0 (stt+1) cs) (a.eval y):=by
 have hn0:0<n:=by
  unfold stB at hb
  cases hi:P.info? t with
  |none=>rw[hi]at hb;cases hb
  |some i=>rw[hi]at hb;simp only[bz,decide_eq_true_eq]at hb;exact hb.2
 have hptr:=A0N hid hp
 have hptr0:=hptr
 simp only[A6]at hptr
 obtain⟨hth,ad,had,hP⟩:=hptr
 obtain⟨b,k,hloc,hadr⟩:=((hP _ _ _ h0).2.2 (fun _=>rfl) (fun e=>absurd rfl e)).2 row (by simp[D5]) (by omega)
 have hloc0:=hloc
 obtain⟨hq,row1,hr1,hlt,hk⟩:=hloc
 simp only[Nat.zero_mul,Nat.zero_add]at hk
 subst hk
 have had':a.eval y= .pointer (some ⟨b,0,none⟩):=by rw[had,hadr]
 have hv0:=hv
 simp only[A6]at hv
 obtain⟨us,hu,hvs⟩:=hv
 have hcells:(a.eval z).cells=us:=by rw[hu];rfl
 have hul:=AJ.length hvs
 obtain⟨ho,hfx⟩:=hI.mem h0
 have hO:CS w B (List.replicate n .hole) us.toList (fun _=>False):=by rw[←hlen];exact CS.holes hvs hone
 have hSb:Sf id b∧∃cur e,SW w b cur e∧n≤cur.size:=by
  have hr0:∀j,j<n→CR [row] [] 0 j=some (row.getD j .hole):=fun j hj=>by
   rw[KI (row:=row) (by simp[D5])]
   simp[hrow,hj]
  obtain⟨b',k',cur,e,u0,S1,S2,l1,l2,l3,l4,l5,l6,l7,l8⟩:=H1.lens [] ho (hr0 0 hn0)
  obtain⟨rfl,rfl⟩:=Bb.unique [] l1 hloc0
  refine⟨l6.right l7,cur,e,l2, ?_⟩
  obtain⟨b2,k2,cur2,e2,u2,S12,S22,m1,m2,m3,m4,m5,m6,m7,m8⟩:=H1.lens [] ho (hr0 (n-1) (by omega))
  obtain⟨m1a,row2,m1b,m1c,m1d⟩:=m1
  rw[hq]at m1a
  simp only[oi,Addr.mk.injEq,and_true]at m1a
  subst m1a
  have hcc:=l2.inj m2
  subst hcc
  have:=(Array.getElem?_eq_some_iff.1 m3).1
  omega
 obtain⟨hSb,cur,e,hheap,hsz⟩:=hSb
 obtain⟨w2,m1,m2,m3,m4,m5,m6,S',m7,m8⟩:=Tj (P:=P) (List.replicate n .hole) (k:=0) (cc:=0) (j:=0) ho (i:=0) (p:=[]) (row:=row) (by simp[D5]) (by simp;omega) (fun _=>hloc0) hO (fun x hx=>hx.elim) (fun x hx=>hI.nb id x hx) (fun x hx=>hx.elim)
 have hset:K0 [row] [] 0 0 (List.replicate n T.hole)=[List.replicate n .hole]:=by
  have:=pj (List.replicate n T.hole) [] row (by simp;omega)
  simpa [←hrow] using this
 rw[hset]at m7
 obtain⟨Sf2,n1,n2⟩:=hI.turn (w':=w2) (ρ':=ρ) (rows':=[List.replicate n .hole]) (stt':=stt+1) (fx':=fx) h0 (fun x hx hX hS=>m3 x (fun e=>hS (e▸hSb))) (by omega) m4 m5 m6 (fun _ _=>rfl) m7 (fun x hx=>by
   rcases m8 x hx with h|h
   ·exact .inr (.inr h)
   ·exact h.elim) (fun hf=>⟨(hfx hf).1,(hfx hf).2⟩)
  (fun hk hB v u hh=>NJ (rows':=[List.replicate n .hole]) h0 rfl (fun i row' hr=>by
    cases i with
    |zero=>simp only[List.getElem?_cons_zero,oi]at hr;subst hr;exact⟨row,rfl,by simp[hrow]⟩
    |succ i=>simp at hr) (Nat.lt_succ_self _) (fun _ h=>h) hB hk hh)
 obtain⟨c1,_⟩:=Xv m1 hheap (fun u hu=>CS.one hO u hu) (by simp only[Nat.zero_add,Array.length_toList];have:us.toList.length=us.size:=Array.length_toList;omega)
 refine⟨w2,Sf2,NM h hb had' (by rw[hcells,←hlen,←hul];simp) (by rw[hcells];exact m1),n1,n2, ?_⟩
 have hp2:=n2 _ _ hptr0
 have hv2:=n2 _ _ hv0
 simp only[A6]at hp2 hv2 ⊢
 obtain⟨p1,p2⟩:=hp2
 obtain⟨us',e1,e2⟩:=hv2
 rw[hu]at e1
 cases e1
 refine⟨p1,p2,us.toList,e2,fun rows stt' fx' hg=> ?_⟩
 rw[AR hth]at hg
 simp only[FA.mem.injEq]at hg
 obtain⟨rfl,rfl,rfl⟩:=hg
 refine⟨by simp,Nat.le_refl _,fun _ _=>⟨_,b,rfl,by rw[List.length_replicate,hul,hlen],hq,fun j u hj=> ?_⟩⟩
 have:=c1 j u hj
 rwa [Nat.zero_add]at this
theorem Ng.values {b:Nat}:∀{ts:List T} {o:Nat} {S:Nat→Prop},Ng w B b o ts S→∃us,CS w B ts us S∧Gx w b o us
 | [],o,S,h=>⟨[],by simp only[Ng]at h;simp only[CS];exact⟨trivial,h⟩,fun j u hj=>by simp at hj⟩
 |t::ts,o,S,h=>by
  simp only[Ng]at h
  obtain⟨u,S1,S2,h1,h2,h3,h4,h5⟩:=h
  obtain⟨us,g1,g2⟩:=Ng.values h4
  refine⟨u::us, ?_,Gx.cons h1 g2⟩
  simp only[CS]
  exact⟨u,us,S1,S2,rfl,h2,h3,g1,h5⟩
theorem Gx.append {b k n:Nat} {us us':List Value} (hn:us.length=n) (h:Gx w b k us) (h':Gx w b (k+n) us'):Gx w b k (us++us'):=by
 intro j u hj
 by_cases hl:j<us.length
 ·rw[List.getElem?_append_left hl]at hj;exact h j u hj
 ·rw[List.getElem?_append_right (by omega)]at hj
  have:=h' _ u hj
  rwa [show k+n+(j-us.length)=k+j by omega]at this
theorem Cf.values {b sz:Nat}:∀{rs:Rows} {o:Nat} {S:Nat→Prop},Cf w B b o sz rs S→∃uss,Al w B sz rs uss S∧Gx w b o uss.flatten
 | [],o,S,h=>⟨[],by simp only[Cf]at h;simp only[Al];exact⟨trivial,h⟩,fun j u hj=>by simp at hj⟩
 |t::ts,o,S,h=>by
  simp only[Cf]at h
  obtain⟨S1,S2,h1,h2,h3,h4⟩:=h
  obtain⟨us,g1,g2⟩:=Ng.values h2
  obtain⟨uss,g3,g4⟩:=Cf.values h3
  refine⟨us::uss, ?_, ?_⟩
  ·simp only[Al]
   exact⟨us,uss,S1,S2,rfl,h1,g1,g3,h4⟩
  ·rw[List.flatten_cons]
   exact Gx.append (by rw[CS.length g1,h1]) g2 g4
theorem Ml.values {b:Nat}:∀{ts:List T} {o:Nat},Ml w B b o ts→∃us,CS w B ts us (fun _=>False)∧Gx w b o us
 | [],o,h=>⟨[],by simp only[CS];exact⟨trivial,fun _ h=>h⟩,fun j u hj=>by simp at hj⟩
 |t::ts,o,h=>by
  simp only[Ml]at h
  obtain⟨⟨u,h1,h2,h3⟩,h4⟩:=h
  obtain⟨us,g1,g2⟩:=Ml.values h4
  refine⟨u::us, ?_,Gx.cons h1 g2⟩
  simp only[CS]
  refine⟨u,us,fun _=>False,fun _=>False,rfl,h2, ?_,g1,⟨fun b=>by simp,fun b (h:False)=>h.elim⟩⟩
  cases t with
  |v x=>simp only[EV]at h3;simp only[Fb];exact⟨h3,fun _ h=>h⟩
  |hole=>simp only[Fb];exact fun _ h=>h
  |pp _=>simp only[Fb];exact⟨h3,fun _ h=>h⟩
  |fn _ _=>simp only[Fb];exact⟨h3,fun _ h=>h⟩
  |sl ow rows=>cases ow with
   |true=>simp only[EV]at h3
   |false=>simp only[Fb];exact⟨h3,fun _ h=>h⟩
theorem CK.values {b sz:Nat}:∀{rs:Rows} {o:Nat},CK w B b o sz rs→∃uss,Al w B sz rs uss (fun _=>False)∧Gx w b o uss.flatten
 | [],o,h=>⟨[],by simp only[Al];exact⟨trivial,fun _ h=>h⟩,fun j u hj=>by simp at hj⟩
 |t::ts,o,h=>by
  simp only[CK]at h
  obtain⟨h1,h2,h3⟩:=h
  obtain⟨us,g1,g2⟩:=Ml.values h2
  obtain⟨uss,g3,g4⟩:=CK.values h3
  refine⟨us::uss, ?_, ?_⟩
  ·simp only[Al]
   exact⟨us,uss,_,_,rfl,h1,g1,g3,⟨fun b=>by simp,fun b (h:False)=>h.elim⟩⟩
  ·rw[List.flatten_cons]
   exact Gx.append (by rw[CS.length g1,h1]) g2 g4
theorem Al.resz {sz sz':Nat}:∀{ts:Rows} {uss:List (List Value)} {S:Nat→Prop},Al w B sz ts uss S→(∀t∈ts,t.length=sz')→Al w B sz' ts uss S
 | [],uss,S,h,_=>by simpa only[Al] using h
 |t::ts,uss,S,h,ha=>by
  simp only[Al]at h ⊢
  obtain⟨us,uss',S1,S2,rfl,h1,h2,h3,h4⟩:=h
  exact⟨us,uss',S1,S2,rfl,ha t (List.mem_cons_self ..),h2,Al.resz h3 fun t ht=>ha t (List.mem_cons_of_mem _ ht),h4⟩
theorem Al.append {sz:Nat}:∀{ts ts':Rows} {uss uss':List (List Value)} {S S':Nat→Prop},Al w B sz ts uss S→Al w B sz ts' uss' S'→(∀b,S b→¬S' b)→Al w B sz (ts++ts') (uss++uss') (fun b=>S b∨S' b)
 | [],ts',uss,uss',S,S',h,h',hd=>by
  simp only[Al]at h
  obtain⟨rfl,he⟩:=h
  have:(fun b=>S b∨S' b)=S':=funext fun b=>propext ⟨fun h=>h.resolve_left (he b), .inr⟩
  rw[this];exact h'
 |t::ts,ts',uss,uss',S,S',h,h',hd=>by
  simp only[Al]at h
  obtain⟨us,uss1,S1,S2,rfl,h1,h2,h3,h4⟩:=h
  simp only[List.cons_append,Al]
  refine⟨us,uss1++uss',S1,_,rfl,h1,h2,Al.append h3 h' (fun b hb=>hd b (h4.right hb)),⟨fun b=> ?_,fun b hb hb'=> ?_⟩⟩
  ·show(S b∨S' b)↔_
   rw[h4.1];exact or_assoc
  ·rcases hb' with h|h
   ·exact h4.2 b hb h
   ·exact hd b (h4.left hb) h
theorem Al.one {sz:Nat}:∀{ts:Rows} {uss:List (List Value)} {S:Nat→Prop},Al w B sz ts uss S→∀u∈uss.flatten,u.oneCell'=true
 | [],uss,S,h=>by simp only[Al]at h;simp[h.1]
 |t::ts,uss,S,h=>by
  simp only[Al]at h
  obtain⟨us,uss',S1,S2,rfl,h1,h2,h3,h4⟩:=h
  intro u hu
  rw[List.flatten_cons]at hu
  rcases List.mem_append.1 hu with hu|hu
  ·exact CS.one h2 u hu
  ·exact Al.one h3 u hu
theorem Al.flat {sz:Nat}:∀{ts:Rows} {uss:List (List Value)} {S:Nat→Prop},Al w B sz ts uss S→uss.flatten.length=ts.length*sz
 | [],uss,S,h=>by simp only[Al]at h;simp[h.1]
 |t::ts,uss,S,h=>by
  simp only[Al]at h
  obtain⟨us,uss',S1,S2,rfl,h1,h2,h3,h4⟩:=h
  rw[List.flatten_cons,List.length_append,Al.flat h3,CS.length h2,h1,List.length_cons,Nat.succ_mul,Nat.add_comm]
end
end TT
namespace TT
open Go
section
variable {P:Program} {c:Ctx} {w w':World} {B:Nat→Prop} {ρ:Id→HG} {Sf:Id→Nat→Prop} {X:Nat→Prop} {r:R} {a:Act} {o:Oper} {id0:Id}
theorem SW.setRow {g:Nat} {cur new:Array Value} {t:TypeId} (h:SW w g cur t) (hs:new.size=cur.size):SW (w.setRow g new) g new t:=by
 obtain⟨fz,h,h2⟩:=h
 exact⟨fz,setRow_heap w g cur new t fz h,by rw[hs];exact h2⟩
theorem Tk (g o:Nat) (t:TypeId):∀(vs:List Value) (i:Nat) (cur:Array Value) (w:World),SW w g cur t→o+i+vs.length≤cur.size→(∀v∈vs,v.oneCell'=true)→
  (storeCells ⟨g,o,none⟩ vs i).run P w= .ok () (w.setRow g (cur.toList.take (o+i)++vs++cur.toList.drop (o+i+vs.length)).toArray)
 | [],i,cur,w,hg,_,_=>by
  simp only[storeCells,List.append_nil,List.length_nil,Nat.add_zero,List.take_append_drop,Array.toArray_toList]
  obtain⟨fz,hg,_⟩:=hg
  rw[setRow_self w g cur t fz hg]
  rfl
 |v::rest,i,cur,w,hg,hl,h1=>by
  have hi:o+i<cur.size:=by simp at hl;omega
  have hadd:(⟨g,o,none⟩:Addr).add i=⟨g,o+i,none⟩:=DB ..
  have hcell:w.cell? ⟨g,o+i,none⟩=some cur[o+i]:=by rw[hg.cell];simp[hi]
  have hfro:w.frozen? ⟨g,o+i,none⟩=false:=hg.free hi
  have hst:(store ((⟨g,o,none⟩:Addr).add i) v).run P w= .ok () (w.setRow g (cur.setIfInBounds (o+i) v)):=by
   obtain⟨fz,hh,_⟩:=hg
   rw[hadd,run_store P w _ v _ (h1 v (by simp)),hcell]
   simp[hfro,setCell_eq_setRow w g (o+i) cur t fz v hh]
  have ih:=Tk g o t rest (i+1) (cur.setIfInBounds (o+i) v) (w.setRow g (cur.setIfInBounds (o+i) v)) (hg.setRow (by simp)) (by simp at hl ⊢;omega) (fun x hx=>h1 x (by simp[hx]))
  simp only[storeCells,Sem.run_bind,hst,Result.andThen_ok,ih,setRow_setRow]
  congr 3
  have e:=list_seg_step cur.toList (o+i) v rest (by simp at hl ⊢;omega)
  simpa [Array.toList_setIfInBounds,Nat.add_assoc] using e
theorem kB {t ty e e':TypeId} {i:TypeInfo} (ht:P.underlying t=some (.slice e)) (hi:P.info? e=some i)
  {g sLen sCap:Nat} {cur:Array Value} (hg:SW w g cur e')
  {a:Addr} {m c:Nat} {news:List Value} (hl:news.length=m*i.size) (hnews:∀(j:Nat) u,news[j]? =some u→w.cell? (a.add j)=some u) (h1:∀u∈news,u.oneCell'=true)
  (hroom:sLen+m≤sCap) (hfit:sLen*i.size+news.length≤cur.size):
  (Builtin.append_ #[t,t] ty #[.slice (some ⟨g,0,none⟩) sLen sCap, .slice (some a) m c]).run P w=
   .ok (.slice (some ⟨g,0,none⟩) (sLen+m) sCap) (w.setRow g (cur.toList.take (sLen*i.size)++news++cur.toList.drop (sLen*i.size+news.length)).toArray):=by
 have hf:=run_firstCells_some (P:=P) w i.size m a m c news hl hnews
 have hst:=Tk (P:=P) g (sLen*i.size) e' news 0 cur w hg (by simpa using hfit) h1
 simp only[Nat.add_zero]at hst
 simp[Builtin.append_,run_underlying ht,Go.sizeOf,typeInfo,hi,Builtin.lenOf,hroom,hf,Addr.add_lit,hst]
def Src (w:World) (ux:Value) (uss:List (List Value)):Prop:=
 (uss=[]∧∃q c,ux= .slice q 0 c)∨∃b k c,ux= .slice (some ⟨b,k,none⟩) uss.length c∧Gx w b k uss.flatten
theorem Ls {t ty e:TypeId} {i:TypeInfo} (ht:P.underlying t=some (.slice e)) (hi:P.info? e=some i) {q q':Option Addr} {sLen sCap c:Nat} (hroom:sLen≤sCap):
  (Builtin.append_ #[t,t] ty #[.slice q sLen sCap, .slice q' 0 c]).run P w= .ok (.slice q sLen sCap) w:=by
 have hf:(Builtin.firstCells i.size 0 (.slice q' 0 c)).run P w= .ok #[] w:=by
  cases q' with
  |none=>simp[Builtin.firstCells]
  |some a=>simp[Builtin.firstCells,loadCells,loadCellsFrom]
 cases q<;>simp[Builtin.append_,run_underlying ht,Go.sizeOf,typeInfo,hi,Builtin.lenOf,hroom,hf,storeCells]
structure bQ (w w':World) (B:Nat→Prop) (q:Option Addr) (cap:Nat) (rows new:Rows) (sz:Nat) (S Sn:Nat→Prop) (q':Option Addr) (cap':Nat):Prop where
 own:∃S',H1 w' B q' cap' (rows++new) S'∧∀b,S' b→S b∨Sn b∨w.heap.size≤b
 size:w.heap.size≤w'.heap.size
 heap:∀b,b<w.heap.size→q≠some ⟨b,0,none⟩→w'.heap[b]? =w.heap[b]?
 os:w'.os=w.os
 tape:w'.tape=w.tape
 output:w'.output=w.output
 nil:new=[]→q'=q∧cap'=cap
 cells:∀b,q=some ⟨b,0,none⟩→∃b',q'=some ⟨b',0,none⟩∧∀k,k<rows.length*sz→w'.cell? ⟨b',k,none⟩=w.cell? ⟨b,k,none⟩
 le:rows.length+new.length≤cap'
theorem bQ.refl {q:Option Addr} {cap sz:Nat} {rows:Rows} {S Sn:Nat→Prop} (ho:H1 w B q cap rows S):bQ w w B q cap rows [] sz S Sn q cap:=by
 refine⟨⟨S,by simpa using ho,fun b h=> .inl h⟩,Nat.le_refl _,fun _ _ _=>rfl,rfl,rfl,rfl,fun _=>⟨rfl,rfl⟩,fun b hb=>⟨b,hb,fun _ _=>rfl⟩, ?_⟩
 rcases ho with ⟨_,e1,e2,_⟩|⟨_,_,_,_,_,_,_,e3,_⟩
 ·simp[e1,e2]
 ·simpa using e3.1
structure rD (P:Program) (w:World) (t xt ty e:TypeId) (i:TypeInfo) (z:Value) (ux:Value) (m:Nat) (news:List Value):Prop where
 none:m=0→∀q sLen sCap,sLen≤sCap→(Builtin.append_ #[t,xt] ty #[.slice q sLen sCap,ux]).run P w= .ok (.slice q sLen sCap) w
 nil:0<m→(m:Int)≤9223372036854775807→m*i.bytes≤281474976710656→(Builtin.append_ #[t,xt] ty #[.slice Option.none 0 0,ux]).run P w=
   .ok (.slice (some ⟨w.heap.size,0,Option.none⟩) m (grownCap w m 0 e)) (w.drew.alloc (.cells (news.toArray++Builtin.zeroCells z.cells (grownCap w m 0 e-m)) e))
 room:0<m→∀{e':TypeId} {g sLen sCap:Nat} {cur:Array Value},SW w g cur e'→sLen+m≤sCap→sLen*i.size+news.length≤cur.size→(Builtin.append_ #[t,xt] ty #[.slice (some ⟨g,0,Option.none⟩) sLen sCap,ux]).run P w=
   .ok (.slice (some ⟨g,0,Option.none⟩) (sLen+m) sCap) (w.setRow g (cur.toList.take (sLen*i.size)++news++cur.toList.drop (sLen*i.size+news.length)).toArray)
 grow:0<m→∀(b:Addr) (sLen sCap:Nat) (olds:List Value),olds.length=sLen*i.size→(∀(j:Nat) v,olds[j]? =some v→w.cell? (b.add j)=some v)→sCap<sLen+m→((sLen+m:Nat):Int)≤9223372036854775807→Builtin.nextslicecap (sLen+m) sCap*i.bytes≤281474976710656→
   (Builtin.append_ #[t,xt] ty #[.slice (some b) sLen sCap,ux]).run P w= .ok (.slice (some ⟨w.heap.size,0,Option.none⟩) (sLen+m) (grownCap w (sLen+m) sCap e))
    (w.drew.alloc (.cells (olds.toArray++news.toArray++Builtin.zeroCells z.cells (grownCap w (sLen+m) sCap e-(sLen+m))) e))
theorem gR {t xt ty e:TypeId} {i:TypeInfo} {z:Value} (ht:P.underlying t=some (.slice e)) (hi:P.info? e=some i) (hz:i.zero=some z) (hzs:z.cells.size=i.size) (h0:0<i.size)
  {q:Option Addr} {cap:Nat} {rows new:Rows} {S Sn:Nat→Prop} {ussN:List (List Value)} {ux:Value} (ho:H1 w B q cap rows S) (hrows:∀t∈rows,t.length=i.size) (hn:Al w B i.size new ussN Sn) (hR:rD P w t xt ty e i z ux new.length ussN.flatten)
  (hdis:∀b,S b→¬Sn b) (hSB:∀b,S b→¬B b) (hBh:∀b,B b→b<w.heap.size) (hSh:∀b,Sn b→b<w.heap.size) (hfit:(rows.length+new.length)*i.bytes≤LIM) (hmax:rows.length+new.length≤maxLen):
  ∃q' cap' w',(Builtin.append_ #[t,xt] ty #[.slice q rows.length cap,ux]).run P w= .ok (.slice q' (rows.length+new.length) cap') w'∧bQ w w' B q cap rows new i.size S Sn q' cap':=by
 have hLIM:LIM=140737488351232:=rfl
 have hM:maxLen=9223372036854775807:=rfl
 obtain⟨hnl,_⟩:=Al.sizes hn
 have hflat:=Al.flat hn
 have hSmem:=H1.inHeap ho
 by_cases hnew:new=[]
 ·subst hnew
  have hu:ussN=[]:=List.length_eq_zero_iff.1 (by simpa using hnl)
  have hle:rows.length≤cap:=by simpa using (bQ.refl (sz:=0) (Sn:=Sn) ho).le
  exact⟨q,cap,w,by simpa using hR.none rfl q _ _ hle,bQ.refl ho⟩
 ·have hpos:0<new.length:=List.length_pos_iff.2 hnew
  have grown:∀(uss:List (List Value)) (So:Nat→Prop) (old:Nat) (wd:World),Al w B i.size rows uss So→(∀b,So b→S b)→old<rows.length+new.length→wd=w.drew.alloc (.cells (uss.flatten.toArray++ussN.flatten.toArray++Builtin.zeroCells z.cells (grownCap w (rows.length+new.length) old e-(rows.length+new.length))) e)→
    (∀b,q=some ⟨b,0,none⟩→Gx w b 0 uss.flatten)→bQ w wd B q cap rows new i.size S Sn (some ⟨w.heap.size,0,none⟩) (grownCap w (rows.length+new.length) old e):=by
   intro uss So old wd hv hsub hold hwd hcells
   have hge:=grownCap_ge w (rows.length+new.length) old e
   have hcm:grownCap w (rows.length+new.length) old e≤maxLen:=grownCap_le_maxLen w _ old e hmax
   have hheap:wd.heap=w.heap.push (.cells (uss.flatten.toArray++ussN.flatten.toArray++Builtin.zeroCells z.cells (grownCap w (rows.length+new.length) old e-(rows.length+new.length))) e (0,0)):=by rw[hwd];rfl
   have hfl:=Al.flat hv
   have hall:=Al.append hv hn (fun b hb=>hdis b (hsub b hb))
   have hsame:∀D:Nat→Prop,(∀b,D b→b<w.heap.size)→Fx D w wd:=fun D h b hb=>Vn hheap (h b hb)
   have hall':=Al.same (fun _ h=>h) (hsame B hBh) (hsame _ (fun b hb=>by
    rcases hb with h|h
    ·exact hSmem b (hsub b h)
    ·exact hSh b h)) hall
   refine⟨⟨fun b=>b=w.heap.size∨(So b∨Sn b), .inr ⟨w.heap.size,i.size,e,_,fun b=>So b∨Sn b,rfl,SW.of (k9 hheap),⟨by simpa using hge,fun h=>absurd (List.append_eq_nil_iff.1 h).2 hnew⟩,hcm, ?_,h0,⟨fun b=>Iff.rfl, ?_⟩, ?_⟩, ?_⟩,by rw[hheap,Array.size_push];omega,fun b hb _=>Vn hheap hb,by rw[hwd];rfl,by rw[hwd];rfl,by rw[hwd];rfl,fun h=>absurd h hnew, ?_,hge⟩
   ·simp only[Array.size_append,List.size_toArray,size_zeroCells,hzs,hfl,hflat,←Nat.add_mul]
    congr 1
    omega
   ·rintro b rfl hb
    rcases hb with h|h
    ·exact absurd (hSmem _ (hsub _ h)) (by omega)
    ·exact absurd (hSh _ h) (by omega)
   ·refine Cf.of_values hall' fun j u hj=> ?_
    rw[Vo hheap,Nat.zero_add]
    rw[List.flatten_append]at hj
    have hlt:=(List.getElem?_eq_some_iff.1 hj).1
    rw[Array.getElem?_append_left (by simpa using hlt)]
    simpa using hj
   ·intro b hb
    rcases hb with h|h|h
    ·exact .inr (.inr (by omega))
    ·exact .inl (hsub b h)
    ·exact .inr (.inl h)
   ·intro b hb
    refine⟨_,rfl,fun k hk=> ?_⟩
    have hk':k<uss.flatten.length:=by rw[hfl];exact hk
    have hc:=hcells b hb k uss.flatten[k] (by simp[hk'])
    rw[Nat.zero_add]at hc
    rw[hc]
    have:=Vo hheap (o:=0) (j:=k)
    rw[Nat.zero_add]at this
    rw[this,Array.getElem?_append_left (by simp only[Array.size_append,List.size_toArray];omega),Array.getElem?_append_left (by simpa using hk')]
    simp[hk']
  rcases ho with ⟨rfl,rfl,rfl,he⟩|⟨g,sz,e',cur,S',rfl,hg,hlen,hcap,hcs,hsz0,hsp,hown⟩
  ·have hrun:=hR.nil hpos (by simp at hmax;omega) (by simp at hfit;omega)
   refine⟨_,_,_,by simpa using hrun, ?_⟩
   have:=grown [] (fun _=>False) 0 (w.drew.alloc (.cells (ussN.flatten.toArray++Builtin.zeroCells z.cells (grownCap w new.length 0 e-new.length)) e)) (by simp only[Al];exact⟨trivial,fun _ h=>h⟩) (fun _ h=>h.elim) (by simpa using hpos) (by simp) (fun b hb=>by cases hb)
   simpa using this
  ·by_cases hroom:rows.length+new.length≤cap
   ·have hne:rows≠[]:=fun h=>by have:=hlen.2 h;subst h;simp at hroom;omega
    have hsz:sz=i.size:=by
     cases rows with
     |nil=>exact absurd rfl hne
     |cons r0 rs=>
      simp only[Cf]at hown
      obtain⟨_,_,h1,_⟩:=hown
      rw[←h1];exact hrows r0 (List.mem_cons_self ..)
    subst hsz
    have hfit':rows.length*i.size+ussN.flatten.length≤cur.size:=by rw[hflat,hcs,←Nat.add_mul];exact Nat.mul_le_mul_right _ hroom
    have hrun:=hR.room hpos hg hroom hfit'
    refine⟨_,_,_,hrun, ?_⟩
    have hother:∀k,k≠g→(w.setRow g (cur.toList.take (rows.length*i.size)++ussN.flatten++cur.toList.drop (rows.length*i.size+ussN.flatten.length)).toArray).heap[k]? =w.heap[k]? :=fun k hk=>setRow_other w g k _ hk
    have hhere:=SW.setRow (new:=(cur.toList.take (rows.length*i.size)++ussN.flatten++cur.toList.drop (rows.length*i.size+ussN.flatten.length)).toArray) hg (by simp only[List.size_toArray,List.length_append,List.length_take,List.length_drop,Array.length_toList];omega)
    have hgS:S g:=hsp.left rfl
    obtain⟨uss,hv,hvc⟩:=hown.values
    have hfl:=Al.flat hv
    have hcur:∀k,k<rows.length*i.size→cur[k]? =uss.flatten[k]? :=by
     intro k hk
     have hk':k<uss.flatten.length:=by rw[hfl];exact hk
     have:=hvc k uss.flatten[k] (by simp[hk'])
     rw[Nat.zero_add,hg.cell _]at this
     rw[this];simp[hk']
    have hall:=Al.append hv hn (fun b hb=>hdis b (hsp.right hb))
    have hall':=Al.same (w':=w.setRow g (cur.toList.take (rows.length*i.size)++ussN.flatten++cur.toList.drop (rows.length*i.size+ussN.flatten.length)).toArray) (fun _ h=>h) (fun b hb=>hother b (fun e=>hSB g hgS (e▸hb))) (fun b hb=>hother b (fun e=>by
     subst e
     rcases hb with h|h
     ·exact hsp.2 b rfl h
     ·exact hdis b hgS h)) hall
    have hlt:rows.length*i.size≤cur.size:=by rw[hcs];exact Nat.mul_le_mul_right _ hlen.1
    refine⟨⟨fun b=>b=g∨(S' b∨Sn b), .inr ⟨g,i.size,e',_,fun b=>S' b∨Sn b,rfl,hhere,⟨by simpa using hroom,fun h=>absurd (List.append_eq_nil_iff.1 h).2 hnew⟩,hcap, ?_,h0,⟨fun b=>Iff.rfl, ?_⟩, ?_⟩, ?_⟩,by simp[World.setRow],fun b _ hb=>hother b (fun e=>hb (by rw[e])),rfl,rfl,rfl,fun h=>absurd h hnew, ?_,hroom⟩
    ·simp only[List.size_toArray,List.length_append,List.length_take,List.length_drop,Array.length_toList]
     omega
    ·rintro b rfl hb
     rcases hb with h|h
     ·exact hsp.2 b rfl h
     ·exact hdis b hgS h
    ·refine Cf.of_values hall' fun j u hj=> ?_
     rw[Nat.zero_add,hhere.cell _]
     rw[List.flatten_append]at hj
     have hj1:=(List.getElem?_eq_some_iff.1 hj).1
     simp only[List.getElem?_toArray]
     have hj3:j<uss.flatten.length+ussN.flatten.length:=by simpa only[List.length_append] using hj1
     rw[List.getElem?_append_left (by
      simp only[List.length_append,List.length_take,Array.length_toList]
      omega)]
     by_cases hj2:j<uss.flatten.length
     ·rw[List.getElem?_append_left hj2]at hj
      rw[List.getElem?_append_left (by simp only[List.length_take,List.length_append,Array.length_toList];omega),List.getElem?_take,if_pos (by omega),Array.getElem?_toList,hcur j (by omega)]
      exact hj
     ·rw[List.getElem?_append_right (by omega)]at hj
      rw[List.getElem?_append_right (by simp only[List.length_take,List.length_append,Array.length_toList];omega)]
      have:(cur.toList.take (rows.length*i.size)).length=uss.flatten.length:=by simp only[List.length_take,Array.length_toList];omega
      rw[this];exact hj
    ·intro b hb
     rcases hb with rfl|h|h
     ·exact .inl hgS
     ·exact .inl (hsp.right h)
     ·exact .inr (.inl h)
    ·intro b hb
     simp only[oi,Addr.mk.injEq,and_true]at hb
     subst hb
     refine⟨g,rfl,fun k hk=> ?_⟩
     rw[hhere.cell _,hg.cell _]
     simp only[List.getElem?_toArray]
     rw[List.getElem?_append_left (by simp only[List.length_take,List.length_append,Array.length_toList];omega),List.getElem?_append_left (by simp only[List.length_take,List.length_append,Array.length_toList];omega),List.getElem?_take,if_pos hk,Array.getElem?_toList]
   ·obtain⟨uss,hv,hvc⟩:=hown.values
    have hv':=hv.resz hrows
    have hfl:=Al.flat hv'
    have hrun:=hR.grow hpos ⟨g,0,none⟩ rows.length cap uss.flatten hfl (fun j u hj=>by rw[DB];exact hvc j u hj) (by omega) (by omega) (growslice_fits (by omega) (by omega))
    refine⟨_,_,_,hrun, ?_⟩
    exact grown uss S' cap _ hv' (fun b hb=>hsp.right hb) (by omega) rfl (fun b hb=>by
     simp only[oi,Addr.mk.injEq,and_true]at hb
     subst hb;exact hvc)
theorem A2P {t ty e:TypeId} {i:TypeInfo} {z:Value} (ht:P.underlying t=some (.slice e)) (hi:P.info? e=some i) (hz:i.zero=some z) {new:Rows} {ussN:List (List Value)} {Sn:Nat→Prop} {ux:Value} (hn:Al w B i.size new ussN Sn) (hsrc:Src w ux ussN):rD P w t t ty e i z ux new.length ussN.flatten:=by
 obtain⟨hnl,_⟩:=Al.sizes hn
 have hflat:=Al.flat hn
 have hux:new.length=0→∃q' c,ux= .slice q' 0 c:=fun h0=>by
  have hu:ussN=[]:=List.length_eq_zero_iff.1 (by omega)
  rcases hsrc with ⟨_,h⟩|⟨b,k,c,h,_⟩
  ·exact h
  ·exact⟨_,_,by rw[h,hu];rfl⟩
 have hn0:0<new.length→∃b k c,ux= .slice (some ⟨b,k,none⟩) new.length c∧Gx w b k ussN.flatten:=fun hpos=>by
  rcases hsrc with ⟨h,_⟩|⟨b,k,c,h,h'⟩
  ·rw[h]at hnl;simp at hnl;omega
  ·exact⟨b,k,c,by rw[h,hnl],h'⟩
 constructor
 ·intro h0 q sLen sCap hle
  obtain⟨q',c,rfl⟩:=hux h0
  exact Ls ht hi hle
 ·intro h0 h1 h2
  obtain⟨b,k,c,rfl,hc⟩:=hn0 h0
  exact run_append_nil (P:=P) w t ty e i z ht hi hz ⟨b,k,none⟩ new.length c ussN.flatten hflat (fun j u hj=>by rw[DB];exact hc j u hj) h0 h1 h2
 ·intro h0 e' g sLen sCap cur hg hroom hfit
  obtain⟨b,k,c,rfl,hc⟩:=hn0 h0
  exact kB (P:=P) (ty:=ty) ht hi hg (a:=⟨b,k,none⟩) (c:=c) hflat (fun j u hj=>by rw[DB];exact hc j u hj) (Al.one hn) hroom hfit
 ·intro h0 b sLen sCap olds ho hol hg h63 hfit
  obtain⟨b',k,c,rfl,hc⟩:=hn0 h0
  exact run_append_grow (P:=P) w t ty e i z ht hi hz b sLen sCap olds ho hol ⟨b',k,none⟩ new.length c ussN.flatten hflat (fun j u hj=>by rw[DB];exact hc j u hj) hg h63 hfit
theorem WX {t ty e:TypeId} {i:TypeInfo} {z:Value} (ht:P.underlying t=some (.slice e)) (hi:P.info? e=some i) (hz:i.zero=some z) (hzs:z.cells.size=i.size) (h0:0<i.size)
  {q:Option Addr} {cap:Nat} {rows new:Rows} {S Sn:Nat→Prop} {ussN:List (List Value)} {ux:Value} (ho:H1 w B q cap rows S) (hrows:∀t∈rows,t.length=i.size) (hn:Al w B i.size new ussN Sn) (hsrc:Src w ux ussN)
  (hdis:∀b,S b→¬Sn b) (hSB:∀b,S b→¬B b) (hBh:∀b,B b→b<w.heap.size) (hSh:∀b,Sn b→b<w.heap.size) (hfit:(rows.length+new.length)*i.bytes≤LIM) (hmax:rows.length+new.length≤maxLen):
  ∃q' cap' w',(Builtin.append_ #[t,t] ty #[.slice q rows.length cap,ux]).run P w= .ok (.slice q' (rows.length+new.length) cap') w'∧bQ w w' B q cap rows new i.size S Sn q' cap':=
 gR ht hi hz hzs h0 ho hrows hn (A2P ht hi hz hn hsrc) hdis hSB hBh hSh hfit hmax
end
end TT
namespace TT
open Go
section
variable {P:Program} {c:Ctx} {w w':World} {B:Nat→Prop} {ρ:Id→HG} {Sf:Id→Nat→Prop} {X:Nat→Prop} {r:R} {a:Act} {o:Oper} {id0:Id}
theorem xF {α:Type} {call:Ai} {d:Nat} {v:V} {u:Value} {k:Rows→M α} {x:α×R} (hrun:(IT v k).run call d r=some x) (hI:E5 c w B ρ Sf X r) (hv:A6 w B ρ r v u):
  ∃(rows:Rows) (S S0:Nat→Prop) (Sf':Id→Nat→Prop) (r':R) (uss:List (List Value)) (sz:Nat),(k rows).run call d r'=some x∧Al w B sz rows uss S∧Src w u uss∧(∀b,S b→S0 b)∧E5 c w B ρ Sf' (fun b=>X b∨S0 b) r'∧(∀b,S0 b→¬X b)∧PW w B ρ r r':=by
 have own:∀{v:V} {F:T→M α},A6 w B ρ r v u→(take v F).run call d r=some x→(∀rows,F (.sl true rows)=k rows)→(∀t:T,t.isOwn=false→F t= .fail)→
   ∃(rows:Rows) (S S0:Nat→Prop) (Sf':Id→Nat→Prop) (r':R) (uss:List (List Value)) (sz:Nat),(k rows).run call d r'=some x∧Al w B sz rows uss S∧Src w u uss∧(∀b,S b→S0 b)∧E5 c w B ρ Sf' (fun b=>X b∨S0 b) r'∧(∀b,S0 b→¬X b)∧PW w B ρ r r':=by
  intro v F hv hrun hF1 hF2
  obtain⟨t,S,Sf1,r1,g1,g2,g3,g4,g5,g6,g7⟩:=cU hrun hI hv
  cases t with
  |v x=>rw[hF2 _ rfl]at g1;simp[M.run]at g1
  |hole=>rw[hF2 _ rfl]at g1;simp[M.run]at g1
  |pp _=>rw[hF2 _ rfl]at g1;simp[M.run]at g1
  |fn _ _=>rw[hF2 _ rfl]at g1;simp[M.run]at g1
  |sl ow rows=>cases ow with
   |false=>rw[hF2 _ rfl]at g1;simp[M.run]at g1
   |true=>
    rw[hF1]at g1
    obtain⟨q,cap,rfl,ho⟩:=FM.1 g2
    rcases ho with ⟨rfl,rfl,rfl,he⟩|⟨b,sz,e,cur,S',rfl,h4,h5,h6,h7,h8,h9,h10⟩
    ·exact⟨[],fun _=>False,S,Sf1,r1,[],0,g1,by simp only[Al];exact⟨trivial,fun _ h=>h⟩, .inl ⟨rfl,_,_,rfl⟩,fun _ h=>h.elim,g4,g5,g6⟩
    ·obtain⟨uss,m1,m2⟩:=h10.values
     exact⟨rows,S',S,Sf1,r1,uss,sz,g1,m1, .inr ⟨b,0,cap,by rw[(Al.sizes m1).1],m2⟩,fun b hb=>h9.right hb,g4,g5,g6⟩
 cases v with
 |t t=>
  cases t with
  |v y=>
   by_cases hy:∃q c,y= .slice q 0 c
   ·obtain⟨q,c,rfl⟩:=hy
    simp only[IT]at hrun
    simp only[A6,EV]at hv
    exact⟨[],fun _=>False,fun _=>False,Sf,r,[],0,hrun,by simp only[Al];exact⟨trivial,fun _ h=>h⟩, .inl ⟨rfl,q,c,hv.1⟩,fun _ h=>h,hI.congrX (fun b=>by simp),fun _ h=>h.elim,PW.refl ..⟩
   ·have e:IT (.t (.v y)) k=take (.t (.v y)) fun| .sl true rows=>k rows|_=> .fail:=by
     cases y<;>try rfl
     rename_i q n c
     cases n with
     |zero=>exact absurd ⟨q,c,rfl⟩ hy
     |succ n=>rfl
    rw[e]at hrun
    exact own hv hrun (fun _=>rfl) (fun t ht=>by cases t with|v x=>rfl|hole=>rfl|pp _=>rfl|fn _ _=>rfl|sl ow rows=>cases ow with|false=>rfl|true=>cases ht)
  |hole=>simp only[IT]at hrun;exact own hv hrun (fun _=>rfl) (fun t ht=>by cases t with|v x=>rfl|hole=>rfl|pp _=>rfl|fn _ _=>rfl|sl ow rows=>cases ow with|false=>rfl|true=>cases ht)
  |pp _=>simp only[IT]at hrun;exact own hv hrun (fun _=>rfl) (fun t ht=>by cases t with|v x=>rfl|hole=>rfl|pp _=>rfl|fn _ _=>rfl|sl ow rows=>cases ow with|false=>rfl|true=>cases ht)
  |fn _ _=>simp only[IT]at hrun;exact own hv hrun (fun _=>rfl) (fun t ht=>by cases t with|v x=>rfl|hole=>rfl|pp _=>rfl|fn _ _=>rfl|sl ow rows=>cases ow with|false=>rfl|true=>cases ht)
  |sl ow rows=>
   simp only[IT]at hrun
   simp only[A6]at hv
   cases ow with
   |true=>have:=hv.1;simp only[EV]at this
   |false=>
    have h1:=hv.1
    simp only[EV]at h1
    obtain⟨q,cap,rfl,h2,h3,h4⟩:=h1
    rcases h4 with rfl|⟨b,k',sz,rfl,h5,h6,h7⟩
    ·exact⟨[],fun _=>False,fun _=>False,Sf,r,[],0,hrun,by simp only[Al];exact⟨trivial,fun _ h=>h⟩, .inl ⟨rfl,_,_,rfl⟩,fun _ h=>h,hI.congrX (fun b=>by simp),fun _ h=>h.elim,PW.refl ..⟩
    ·obtain⟨uss,m1,m2⟩:=h7.values
     exact⟨rows,fun _=>False,fun _=>False,Sf,r,uss,sz,hrun,m1, .inr ⟨b,k',cap,by rw[(Al.sizes m1).1],m2⟩,fun _ h=>h,hI.congrX (fun b=>by simp),fun _ h=>h.elim,PW.refl ..⟩
 |_=>simp only[IT]at hrun;exact own hv hrun (fun _=>rfl) (fun t ht=>by cases t with|v x=>rfl|hole=>rfl|pp _=>rfl|fn _ _=>rfl|sl ow rows=>cases ow with|false=>rfl|true=>cases ht)
def uI (P:Program) (t:TypeId) (sz byt:Nat):Bool:=match P.underlying t with
 |some (.slice e)=>(match P.info? e with|some i=>i.size==sz&&i.bytes==byt&&decide (0<sz)&&(match i.zero with|some z=>z.cells.size==sz|none=>false)|none=>false)
 |_=>false
theorem Vq {t:TypeId} {sz byt:Nat} (h:uI P t sz byt=true):∃e i z,P.underlying t=some (.slice e)∧P.info? e=some i∧i.zero=some z∧z.cells.size=i.size∧i.size=sz∧i.bytes=byt∧0<sz:=by
 unfold uI at h
 cases hd:P.underlying t with
 |none=>rw[hd]at h;cases h
 |some d=>
  rw[hd]at h
  cases d<;>simp only[]at h<;>try (cases h;done)
  rename_i e
  cases hi:P.info? e with
  |none=>rw[hi]at h;cases h
  |some i=>
   rw[hi]at h
   cases hz:i.zero with
   |none=>simp[hz]at h
   |some z=>
    simp only[hz,bz,beq_iff_eq,decide_eq_true_eq]at h
    obtain⟨⟨⟨h1,h2⟩,h3⟩,h4⟩:=h
    exact⟨e,i,z,rfl,hi,hz,by rw[h4,h1],h1,h2,h3⟩
theorem jc {t:TypeId} {s x:Operand} {u:Value} (h:o.op= .call { callee:= .builtin .append,args:= #[s,x],argTypes:= #[t,t] }) (hr:(Builtin.append_ #[t,t] o.type #[a.eval s,a.eval x]).run P w= .ok u w'):PY P o a w u w':=by
 unfold PY execOp
 rw[h]
 simp[resolve,invoke,builtin,hr]
def uJ (ρ:Id→HG) (id:Id) (l:HG):Id→HG:=fun j=>if j=id then l else ρ j
theorem pk (id:Id) (l:HG):uJ ρ id l id=l:=if_pos rfl
theorem kC {id j:Id} (l:HG) (h:j≠id):uJ ρ id l j=ρ j:=if_neg h
theorem A9L (hI:E5 c w B ρ Sf (fun _=>False) r) {t:TypeId} {s y:Operand} {sz byt:Nat} (h:o.op= .call { callee:= .builtin .append,args:= #[s,y],argTypes:= #[t,t] }) (hb:uI P t sz byt=true)
  {va vx:V} (hva:A6 w B ρ r va (a.eval s)) (hvx:A6 w B ρ r vx (a.eval y)) {call:Ai} {d:Nat} {x:V×R}
  (hrun:(IT vx fun new=>if new.all fun r=>r.length==sz then(match va with
     | .nil=>if new.length*byt≤LIM∧0<byt then .new [.mem new 0 false] (.ret (.ref (d,0) new.length))else .fail
     | .ref id n=> .get id fun
       | .mem rows st _=>if rows.length=n∧(n+new.length)*byt≤LIM∧0<byt∧(rows.all fun r=>r.length==sz)then .set id (.mem (rows++new) st false) (.ret (.ref id (n+new.length)))else .fail
       |_=> .fail
     | .sub id p i c n st=>take (.sub id p i c n st) fun
       | .sl true rows=>if(rows.length+new.length)*byt≤LIM∧0<byt∧(rows.all fun r=>r.length==sz)then .new [.mem (rows++new) 0 false] (.ret (.ref (d,0) (rows.length+new.length)))else .fail
       |_=> .fail
     |_=> .fail)else .fail).run call d r=some x):
  ∃w' u ρ' Sf',PY P o a w u w'∧E5 c w' B ρ' Sf' (fun _=>False) x.2∧x.2.length=r.length∧(∀v u,A6 w B ρ r v u→A6 w' B ρ' x.2 v u)∧A6 w' B ρ' x.2 x.1 u:=by
 obtain⟨e,i,z,ht,hi,hz,hzs,hsz,hbyt,h0⟩:=Vq hb
 have hM:maxLen=9223372036854775807:=rfl
 have hLIM:LIM=140737488351232:=rfl
 have hmax:∀n,n*byt≤LIM→0<byt→n≤maxLen:=fun n h h'=>by
  have:=Nat.le_mul_of_pos_right n h'
  omega
 obtain⟨new,S,S0,Sf1,r1,ussN,sz0,g1,g2,g3,g4,g5,g6,g7⟩:=xF hrun hI hvx
 have hva1:=g7.claims _ _ hva
 split at g1
 ·rename_i hall
  have hn:Al w B i.size new ussN S:=g2.resz (by rw[hsz];simpa using hall)
  have hSh:∀b,S b→b<w.heap.size:=fun b hb=>g5.inX b (.inr (g4 b hb))
  cases va with
  |nil=>
   simp only at g1
   split at g1
   ·rename_i hc
    obtain⟨hd,hr,g1⟩:=QJ g1
    simp only[M.run,oi]at g1
    subst g1
    simp only[A6]at hva1
    obtain⟨q',cap',w2,m1,m2⟩:=WX (P:=P) (ty:=o.type) (q:=none) (cap:=0) (rows:=[]) (S:=fun _=>False) ht hi hz hzs (by omega) (.inl ⟨rfl,rfl,rfl,fun _ h=>h⟩) (by simp) hn g3 (fun _ h=>h.elim) (fun _ h=>h.elim) hI.inB hSh (by rw[hbyt];simpa using hc.1) (by simpa using hmax _ hc.1 hc.2)
    obtain⟨S',n1,n2⟩:=m2.own
    obtain⟨ρ',Sf',k1,k2,k3⟩:=g5.root (w':=w2) (fun b hb _=>m2.heap b hb (by simp)) m2.size m2.os m2.tape m2.output hd hr n1 (fun b hb=>by
     rcases n2 b hb with h|h|h
     ·exact h.elim
     ·exact .inr (.inr (g4 b h))
     ·exact .inl h)
    refine⟨w2,_,ρ',Sf',jc h (by rw[hva1];simpa using m1),k1,by rw[List.length_set,g7.size],fun v u hh=>k2 v u (g7.claims v u hh), ?_⟩
    have:=ZN (w':=w2) (B':=B) (rows:=[]++new) hd hr k3 (by simpa using m2.le) n1.capLe
    simpa using this
   ·simp[M.run]at g1
  |ref id n=>
   simp only[M.run]at g1
   cases he:Ac r1 id with
   |dead=>rw[he]at g1;simp[M.run]at g1
   |mem rows st fx=>
    rw[he]at g1
    simp only at g1
    split at g1
    ·rename_i hc
     obtain⟨hl,hfit,hb0,hra⟩:=hc
     simp only[M.run,oi]at g1
     subst g1
     have hra':∀t∈rows,t.length=i.size:=by rw[hsz];simpa using hra
     simp only[A6]at hva1
     obtain⟨hth,_,href⟩:=hva1
     have hu:=(href rows st fx he).2 hl
     obtain⟨hm,_⟩:=g5.mem he
     obtain⟨q',cap',w2,m1,m2⟩:=WX (P:=P) (ty:=o.type) ht hi hz hzs (by omega) hm hra' hn g3 (fun b hb hb'=>g5.xd id b (.inr (g4 b hb')) hb) (fun b hb=>g5.nb id b hb) hI.inB hSh (by rw[hbyt,hl];exact hfit) (by rw[hl];exact hmax _ hfit hb0)
     obtain⟨S',n1,n2⟩:=m2.own
     have hq':∀id',id'≠id→uJ ρ id (q',cap') id'=ρ id':=fun id' h=>kC _ h
     have hqq:uJ ρ id (q',cap') id=(q',cap'):=pk _ _
     have hout:∀b,(ρ id).1=some ⟨b,0,none⟩→Sf1 id b:=by
      intro b hb
      rcases hm with ⟨e1,_⟩|⟨b',_,_,_,_,e1,_,_,_,_,_,e2,_⟩
      ·rw[e1]at hb;cases hb
      ·rw[e1]at hb
       simp only[oi,Addr.mk.injEq,and_true]at hb
       subst hb
       exact e2.left rfl
     obtain⟨Sf2,k1,k2⟩:=g5.turn (w':=w2) (ρ':=uJ ρ id (q',cap')) (rows':=rows++new) (stt':=st) (fx':=false) he (fun b hb hX hS=>m2.heap b hb (fun e=>hS (hout b e))) m2.size m2.os m2.tape m2.output hq' (by rw[hqq];exact n1) (fun b hb=>by
       rcases n2 b hb with h|h|h
       ·exact .inr (.inr h)
       ·exact .inr (.inl (.inr (g4 b h)))
       ·exact .inl h) (fun h=>by cases h)
      (fun hk hB v u hh=>gO (q':=q') (cap':=cap') he hq' (fun hnil=>by rw[hqq];obtain⟨e1,e2⟩:=m2.nil hnil;rw[e1,e2])
        (fun i' row' c' hrow hlt b hb=>by
          obtain⟨b',e1,e2⟩:=m2.cells b hb
          refine⟨b',by rw[hqq];exact e1,e2 _ ?_⟩
          have hrl:=hra' row' (List.mem_of_getElem? hrow)
          rw[hrl]at hlt ⊢
          have hil:=(List.getElem?_eq_some_iff.1 hrow).1
          calc i'*i.size+c'<i'*i.size+i.size:=by omega
           _=(i'+1)*i.size:=by rw[Nat.succ_mul]
           _≤rows.length*i.size:=Nat.mul_le_mul_right _ hil)
        (fun _ h=>h) hB hk
        (fun i' c' rows1 hg=>by
          obtain⟨b',k',cur,e',u',S1,S2,l1,l2,l3,l4,l5,l6,l7,_⟩:=H1.lens [] hm hg
          obtain⟨q1,cap1,hu1,hs1⟩:=FM.1 l5
          refine⟨q1,cap1,S1,b',k',l1,by rw[l2.cell _,l3,hu1],hs1,fun b hb=>m2.heap b (H1.inHeap hs1 b hb) (fun e=> ?_)⟩
          rw[l1.1]at e
          simp only[oi,Addr.mk.injEq,and_true]at e
          subst e
          exact l6.2 b' hb l7) hh)
     refine⟨w2,_,_,Sf2,jc h (by rw[hu];rw[←hl];exact m1),k1,by rw[Bu,g7.size],fun v u hh=>k2 v u (g7.claims v u hh), ?_⟩
     simp only[A6]
     refine⟨(Hw _).2 hth,⟨q',cap',by rw[hl],by have:=m2.le;omega,n1.capLe⟩, ?_⟩
     intro rows' stt' fx' hg
     rw[AR hth]at hg
     simp only[FA.mem.injEq]at hg
     obtain⟨rfl,rfl,rfl⟩:=hg
     exact⟨by simp;omega,fun _=>by rw[hqq,hl]⟩
    ·simp[M.run]at g1
  |sub id p j k n st=>
   simp only at g1
   obtain⟨t2,S2,Sf2,r2,f1,f2,f3,f4,f5,f6,f7⟩:=cU g1 g5 hva1
   cases t2 with
   |v x=>simp[M.run]at f1
   |hole=>simp[M.run]at f1
   |pp _=>simp[M.run]at f1
   |fn _ _=>simp[M.run]at f1
   |sl ow rows=>cases ow with
    |false=>simp[M.run]at f1
    |true=>
     simp only at f1
     split at f1
     ·rename_i hc
      obtain⟨hfit,hb0,hra⟩:=hc
      obtain⟨hd,hr,f1⟩:=QJ f1
      simp only[M.run,oi]at f1
      subst f1
      have hra':∀t∈rows,t.length=i.size:=by rw[hsz];simpa using hra
      obtain⟨q,cap,hu,ho⟩:=FM.1 f2
      obtain⟨q',cap',w2,m1,m2⟩:=WX (P:=P) (ty:=o.type) ht hi hz hzs (by omega) ho hra' hn g3 (fun b hb hb'=>f5 b hb (.inr (g4 b hb'))) (fun b hb=>f4.xb b (.inr hb)) hI.inB hSh (by rw[hbyt];exact hfit) (hmax _ hfit hb0)
      obtain⟨S',n1,n2⟩:=m2.own
      have hout:∀b,q=some ⟨b,0,none⟩→S2 b:=by
       intro b hb
       rcases ho with ⟨e1,_⟩|⟨b',_,_,_,_,e1,_,_,_,_,_,e2,_⟩
       ·rw[e1]at hb;cases hb
       ·rw[e1]at hb
        simp only[oi,Addr.mk.injEq,and_true]at hb
        subst hb
        exact e2.left rfl
      obtain⟨ρ',Sf',k1,k2,k3⟩:=f4.root (w':=w2) (fun b hb hX=>m2.heap b hb (fun e=>hX (.inr (hout b e)))) m2.size m2.os m2.tape m2.output hd hr n1 (fun b hb=>by
       rcases n2 b hb with h|h|h
       ·exact .inr (.inr h)
       ·exact .inr (.inl (.inr (g4 b h)))
       ·exact .inl h)
      refine⟨w2,_,ρ',Sf',jc h (by rw[hu];exact m1),k1,by rw[List.length_set,f6.size,g7.size],fun v u hh=>k2 v u (f6.claims v u (g7.claims v u hh)), ?_⟩
      have:=ZN (w':=w2) (B':=B) (rows:=rows++new) hd hr k3 (by simpa using m2.le) n1.capLe
      simpa using this
     ·simp[M.run]at f1
  |_=>simp[M.run]at g1
 ·simp[M.run]at g1
end
end TT
namespace TT
open Go
abbrev Hy := HG×Rows
mutual
def Bo (w:World) (B:Nat→Prop):NH→Value→(Nat→Prop)→List Hy→Prop
 | .t c,u,S,ls=>EV w B c u∧u.oneCell'=true∧Emp S∧ls=[]
 | .agg as,u,S,ls=>∃us,u= .agg us∧BC w B as us.toList S ls
 | .ln rows,u,S,ls=>∃q cap,u= .slice q rows.length cap∧H1 w B q cap rows S∧ls=[((q,cap),rows)]
 | .lp cells off,u,S,ls=>∃b cap,u= .pointer (some ⟨b,off,none⟩)∧off<cells.length∧H1 w B (some ⟨b,0,none⟩) cap [cells] S∧ls=[((some ⟨b,0,none⟩,cap),[cells])]
 | .pp cells,u,S,ls=>(∃b o,u= .pointer (some ⟨b,o,none⟩)∧B b∧Ml w B b o cells)∧Emp S∧ls=[]
 | .fn f caps,u,S,ls=>∃us,u= .func (.func f) #[] us∧BC w B caps us.toList S ls
def BC (w:World) (B:Nat→Prop):List NH→List Value→(Nat→Prop)→List Hy→Prop
 | [],us,S,ls=>us=[]∧Emp S∧ls=[]
 |a::as,us,S,ls=>∃u us' S1 S2 l1 l2,us=u::us'∧Bo w B a u S1 l1∧BC w B as us' S2 l2∧BK S S1 S2∧ls=l1++l2
end
def Vr (w:World) (B:Nat→Prop):RV→Value→(Nat→Prop)→Prop
 | .t c,u,S=>Fb w B c u S∧u.oneCell'=true
 | .agg cs,u,S=>∃us,u= .agg us∧CS w B cs us.toList S
 | .box cells,u,S=>∃b cap,u= .pointer (some ⟨b,0,none⟩)∧H1 w B (some ⟨b,0,none⟩) cap [cells] S
def Eu (w:World) (B:Nat→Prop):List RV→List Value→(Nat→Prop)→Prop
 | [],us,S=>us=[]∧Emp S
 |a::as,us,S=>∃u us' S1 S2,us=u::us'∧Vr w B a u S1∧Eu w B as us' S2∧BK S S1 S2
def A9M (w:World) (B:Nat→Prop) (l:Hy) (S:Nat→Prop):Option Rows→Prop
 |some rows=>H1 w B l.1.1 l.1.2 rows S∧rows.length=l.2.length
 |none=>Emp S
def BT (w:World) (B:Nat→Prop):List Hy→List (Option Rows)→(Nat→Prop)→Prop
 | [],os,S=>os=[]∧Emp S
 |l::ls,os,S=>∃o os' S1 S2,os=o::os'∧A9M w B l S1 o∧BT w B ls os' S2∧BK S S1 S2
def kD : List Value→Value
 | [u]=>u
 |us=> .tuple us.toArray
structure ACQ (w:World) (B L:Nat→Prop) (ls:List Hy) (res:BD) (v:Value) (w':World) (B' Sr Sa:Nat→Prop) (us:List Value):Prop where
 val:v=kD us
 vals:Eu w' B' res.vals us Sr
 after:BT w' B' ls res.after Sa
 dis:∀b,Sr b→¬Sa b
 nr:∀b,Sr b→¬B' b
 na:∀b,Sa b→¬B' b
 old:∀b,B b→B' b
 sh:∀b,B' b→B b∨L b∨w.heap.size≤b
 ownr:∀b,Sr b→L b∨w.heap.size≤b
 owna:∀b,Sa b→L b∨w.heap.size≤b
 inB:∀b,B' b→b<w'.heap.size
 frame:∀b,b<w.heap.size→¬L b→w'.heap[b]? =w.heap[b]?
 size:w.heap.size≤w'.heap.size
 os:w'.os=w.os
 tape:w'.tape=w.tape
 output:w'.output=w.output
def xG (w:World) (B L:Nat→Prop) (ls:List Hy) (res:BD):Ending→World→Prop
 | .returned v,w'=>∃B' Sr Sa us,ACQ w B L ls res v w' B' Sr Sa us
 |_,_=>False
def NN (P:Program) (f:FuncId):Bool:=match P.funcs[f]? with|some fn=>fn.name != "runtime.NumGoroutine" &&fn.body.isSome|none=>false
def EY (G:Gt) (P:Program) (call:Ai):Prop:=∀f args res,call f args=some res→NN P f=true∧∀w B L us ls,BC w B args us L ls→(∀b,L b→¬B b)→(∀b,B b→b<w.heap.size)→G.ok B w→Calls P f us.toArray w (xG w B L ls res)
def Chg (ids:List Id) (r r':R):Prop:=∀id rows stt fx,Ac r' id= .mem rows stt fx→Au r id→∃rows0 stt0 fx0,Ac r id= .mem rows0 stt0 fx0∧rows.map (·.length)=rows0.map (·.length)∧((stt0<stt)∨(id∉ids∧rows=rows0∧stt=stt0))
theorem Chg.refl (r:R):Chg [] r r:=fun id rows stt fx h _=>⟨rows,stt,fx,h,rfl, .inr ⟨by simp,rfl,rfl⟩⟩
theorem cZ {rows rows0:Rows} (h:rows.map (·.length)=rows0.map (·.length)):rows.length=rows0.length:=by
 have:=congrArg List.length h
 simpa using this
theorem A2Q {rows rows0:Rows} (h:rows.map (·.length)=rows0.map (·.length)) {i:Nat} {row:List T} (hr:rows[i]? =some row):∃row0:List T,rows0[i]? =some row0∧row0.length=row.length:=by
 have h1:(rows.map (·.length))[i]? =some row.length:=by simp[hr]
 rw[h,List.getElem?_map]at h1
 obtain⟨row0,e1,e2⟩:=Option.map_eq_some_iff.1 h1
 exact⟨row0,e1,e2⟩
section
variable {P:Program} {c:Ctx} {w w':World} {B B':Nat→Prop} {ρ ρ':Id→HG} {Sf:Id→Nat→Prop} {X:Nat→Prop} {r r':R} {a:Act} {o:Oper} {id0:Id}
theorem xH {ids:List Id} (hc:Chg ids r r') (hT:∀id,Au r id→Au r' id) (hρ:∀id,Au r id→ρ' id=ρ id) (hB:∀b,B b→B' b) (hs:Fx B w w')
  (hk:∀id rows stt fx fx',id∉ids→Ac r id= .mem rows stt fx→Ac r' id= .mem rows stt fx'→jx w w' B ρ r id) {v:V} {u:Value} (h:A6 w B ρ r v u):A6 w' B' ρ' r' v u:=by
 refine A6.turn hB hs hT ?_ ?_ ?_ ?_ h
 ·intro id n u ht hh rows stt fx hg
  obtain⟨rows0,stt0,fx0,e1,e2,e3⟩:=hc id rows stt fx hg ht
  have:=hh rows0 stt0 fx0 e1
  rw[←cZ e2]at this
  rw[hρ id ht]
  exact this
 ·intro id p i k n st u ht hh rows stt fx hg
  obtain⟨rows0,stt0,fx0,e1,e2,e3⟩:=hc id rows stt fx hg ht
  rw[hρ id ht]
  rcases e3 with e3|⟨e5,e3,e4⟩
  ·obtain⟨g1,_⟩:=hh rows0 stt0 fx0 e1
   exact⟨by omega,fun e=>by omega⟩
  ·subst e3;subst e4
   exact X8.kept (hk id _ _ _ _ e5 e1 hg) hh _ _ _ e1
 ·intro id p i off n st a ht hh rows stt fx hg
  obtain⟨rows0,stt0,fx0,e1,e2,e3⟩:=hc id rows stt fx hg ht
  rw[hρ id ht]
  rcases e3 with e3|⟨e5,e3,e4⟩
  ·obtain⟨g1,g2,g3⟩:=hh rows0 stt0 fx0 e1
   have hl:=cZ e2
   refine⟨fun e=>by have:=g1 e;omega,fun e=>by have:=g2 e;omega,fun e e'=> ?_⟩
   cases p with
   |cons x p=>have:=g2 (by simp);have:=e' (by simp);omega
   |nil=>
    refine⟨fun q=>absurd rfl q,fun row' hrow hlt=> ?_⟩
    simp only[D5,Option.bind_some]at hrow
    obtain⟨row,r1,r2⟩:=A2Q e2 hrow
    obtain⟨_,g5⟩:=g3 (fun _=>by have:=e rfl;omega) (fun q=>absurd rfl q)
    obtain⟨b,k,l1,l2⟩:=g5 row (by simp only[D5,Option.bind_some];exact r1) (by omega)
    obtain⟨x1,row1,x2,x3,x4⟩:=l1
    rw[r1]at x2;cases x2
    exact⟨b,k,⟨x1,row',hrow,hlt,by rw[←r2];exact x4⟩,l2⟩
  ·subst e3;subst e4
   exact Vj.kept (hk id _ _ _ _ e5 e1 hg) hh _ _ _ e1
 ·intro id st us ht hh rows stt fx hg
  obtain⟨rows0,stt0,fx0,e1,e2,e3⟩:=hc id rows stt fx hg ht
  rw[hρ id ht]
  rcases e3 with e3|⟨e5,e3,e4⟩
  ·obtain⟨g1,g2,_⟩:=hh rows0 stt0 fx0 e1
   have hl:=cZ e2
   exact⟨by omega,by omega,fun e _=>by omega⟩
  ·subst e3;subst e4
   exact Rk.kept (hk id _ _ _ _ e5 e1 hg) hh _ _ _ e1
theorem E5.world (hI:E5 c w B ρ Sf X r) {X':Nat→Prop} (hheap:∀b,b<w.heap.size→¬X b→w'.heap[b]? =w.heap[b]?) (hsize:w.heap.size≤w'.heap.size) (hos:w'.os=w.os) (htp:w'.tape=w.tape) (hout:w'.output=w.output)
  (hB:∀b,B b→B' b) (hB':∀b,B' b→B b∨X b∨w.heap.size≤b) (hBi:∀b,B' b→b<w'.heap.size) (hX:∀b,X' b→X b∨w.heap.size≤b) (hXi:∀b,X' b→b<w'.heap.size) (hXB:∀b,X' b→¬B' b):E5 c w' B' ρ Sf X' r:=by
 have hlt:∀id b,Sf id b→b<w.heap.size:=fun id b h=>(hI.ents id).inHeap b h
 have hSS:∀id,Fx (Sf id) w w':=fun id b hb=>hheap b (hlt id b hb) (fun hx=>hI.xd id b hx hb)
 have hBB:Fx B w w':=fun b hb=>hheap b (hI.inB b hb) (fun hx=>hI.xb b hx hb)
 constructor
 ·intro id
  have h1:=hI.ents id
  cases hh:Ac r id with
  |dead=>rw[hh]at h1;exact h1
  |mem rows stt fx=>rw[hh]at h1;exact⟨H1.same hB hBB (hSS id) h1.1,h1.2⟩
 ·exact hI.disj
 ·intro id b hb hb'
  rcases hB' b hb' with h|h|h
  ·exact hI.nb id b hb h
  ·exact hI.xd id b h hb
  ·exact absurd (hlt id b hb) (by omega)
 ·exact hXB
 ·intro id b hb hb'
  rcases hX b hb with h|h
  ·exact hI.xd id b h hb'
  ·exact absurd (hlt id b hb') (by omega)
 ·exact hBi
 ·exact hXi
 ·exact hI.own
 ·intro b hb
  rcases hX b hb with h|h
  ·exact hI.ownX b h
  ·exact .inr (Nat.le_trans hI.size h)
 ·exact fun b hb=>hB b (hI.old b hb)
 ·intro b hb
  rcases hB' b hb with h|h|h
  ·exact hI.sh b h
  ·exact .inr (hI.ownX b h)
  ·exact .inr (.inr (Nat.le_trans hI.size h))
 ·exact Nat.le_trans hI.size hsize
 ·intro b hb hn
  have hx:¬X b:=fun hx=>by
   rcases hI.ownX b hx with h|h
   ·exact hn h
   ·omega
  rw[hheap b (Nat.lt_of_lt_of_le hb hI.size) hx]
  exact hI.frame b hb hn
 ·rw[hos];exact hI.os
 ·rw[htp];exact hI.tape
 ·rw[hout];exact hI.output
theorem E5.put (hI:E5 c w B ρ Sf X r) (ht:Au r id0) {rows':Rows} {stt':Nat} {fx':Bool} {S' X':Nat→Prop} (ho:H1 w B (ρ id0).1 (ρ id0).2 rows' S') (hS:∀b,S' b→X b∨Sf id0 b) (hX:∀b,X' b→X b) (hXS:∀b,X' b→¬S' b)
  (hfx:fx'=true→ρ id0=c.q0 id0∧rows'.length=c.n0 id0):
  E5 c w B ρ (fun id b=>(id≠id0∧Sf id b)∨(id=id0∧S' b)) X' (C3 r id0 (.mem rows' stt' fx')):=by
 have hno:∀b,S' b→∀id,id≠id0→¬Sf id b:=by
  intro b hb id hne h
  rcases hS b hb with h'|h'
  ·exact hI.xd id b h' h
  ·exact hne (hI.disj id id0 b h h')
 constructor
 ·intro id
  by_cases e1:id0=id
  ·subst e1
   rw[AR ht]
   have he:(fun b=>(id0≠id0∧Sf id0 b)∨(id0=id0∧S' b))=S':=funext fun b=>propext ⟨fun h=>h.elim (fun h=>absurd rfl h.1) (fun h=>h.2),fun h=> .inr ⟨rfl,h⟩⟩
   rw[he]
   exact⟨ho,hfx⟩
  ·rw[AX e1]
   have he:(fun b=>(id≠id0∧Sf id b)∨(id=id0∧S' b))=Sf id:=funext fun b=>propext ⟨fun h=>h.elim (fun h=>h.2) (fun h=>absurd h.1.symm e1),fun h=> .inl ⟨Ne.symm e1,h⟩⟩
   rw[he]
   exact hI.ents id
 ·intro id id' b h h'
  rcases h with ⟨a1,a2⟩|⟨a1,a2⟩<;>rcases h' with ⟨b1,b2⟩|⟨b1,b2⟩
  ·exact hI.disj id id' b a2 b2
  ·exact absurd a2 (hno b b2 id a1)
  ·exact absurd b2 (hno b a2 id' b1)
  ·exact a1.trans b1.symm
 ·intro id b h
  rcases h with ⟨a1,a2⟩|⟨a1,a2⟩
  ·exact hI.nb id b a2
  ·rcases hS b a2 with h'|h'
   ·exact hI.xb b h'
   ·exact hI.nb id0 b h'
 ·exact fun b h=>hI.xb b (hX b h)
 ·intro id b h h'
  rcases h' with ⟨a1,a2⟩|⟨a1,a2⟩
  ·exact hI.xd id b (hX b h) a2
  ·exact hXS b h a2
 ·exact hI.inB
 ·exact fun b h=>hI.inX b (hX b h)
 ·intro id b h
  rcases h with ⟨a1,a2⟩|⟨a1,a2⟩
  ·exact hI.own id b a2
  ·rcases hS b a2 with h'|h'
   ·exact hI.ownX b h'
   ·exact hI.own id0 b h'
 ·exact fun b h=>hI.ownX b (hX b h)
 ·exact hI.old
 ·exact hI.sh
 ·exact hI.size
 ·exact hI.frame
 ·exact hI.os
 ·exact hI.tape
 ·exact hI.output
theorem E5.share (hI:E5 c w B ρ Sf X r) {X' Y:Nat→Prop} (hY:∀b,Y b→X b) (hX:∀b,X' b→X b) (hd:∀b,X' b→¬Y b):E5 c w (fun b=>B b∨Y b) ρ Sf X' r:=
 hI.world (fun _ _ _=>rfl) (Nat.le_refl _) rfl rfl rfl (fun _ h=> .inl h) (fun b h=>h.imp (fun h=>h) (fun h=> .inl (hY b h))) (fun b h=>h.elim (hI.inB b) (fun h=>hI.inX b (hY b h))) (fun b h=> .inl (hX b h)) (fun b h=>hI.inX b (hX b h))
  (fun b h h'=>h'.elim (hI.xb b (hX b h)) (hd b h))
end
end TT
namespace TT
open Go
theorem EV.mono {w:World} {B B':Nat→Prop} (hB:∀b,B b→B' b) {t:T} {u:Value} (h:EV w B t u):EV w B' t u:=EV.same hB (fun _ _=>rfl) h
theorem H1.mono {w:World} {B B':Nat→Prop} (hB:∀b,B b→B' b) {q:Option Addr} {cap:Nat} {rows:Rows} {S:Nat→Prop} (h:H1 w B q cap rows S):H1 w B' q cap rows S:=H1.same hB (fun _ _=>rfl) (fun _ _=>rfl) h
mutual
theorem Bo.mono {w:World} {B B':Nat→Prop} (hB:∀b,B b→B' b):∀{a:NH} {u:Value} {S:Nat→Prop} {ls:List Hy},Bo w B a u S ls→Bo w B' a u S ls
 | .t c,u,S,ls,h=>by simp only[Bo]at h ⊢;exact⟨EV.mono hB h.1,h.2⟩
 | .agg as,u,S,ls,h=>by simp only[Bo]at h ⊢;obtain⟨us,h1,h2⟩:=h;exact⟨us,h1,BC.mono hB h2⟩
 | .ln rows,u,S,ls,h=>by simp only[Bo]at h ⊢;obtain⟨q,cap,h1,h2,h3⟩:=h;exact⟨q,cap,h1,H1.mono hB h2,h3⟩
 | .lp cells off,u,S,ls,h=>by simp only[Bo]at h ⊢;obtain⟨b,cap,h1,h2,h3,h4⟩:=h;exact⟨b,cap,h1,h2,H1.mono hB h3,h4⟩
 | .pp cells,u,S,ls,h=>by simp only[Bo]at h ⊢;obtain⟨⟨b,o,h1,h2,h3⟩,h4⟩:=h;exact⟨⟨b,o,h1,hB b h2,Ml.same hB (fun _ _=>rfl) h2 h3⟩,h4⟩
 | .fn f caps,u,S,ls,h=>by simp only[Bo]at h ⊢;obtain⟨us,h1,h2⟩:=h;exact⟨us,h1,BC.mono hB h2⟩
theorem BC.mono {w:World} {B B':Nat→Prop} (hB:∀b,B b→B' b):∀{as:List NH} {us:List Value} {S:Nat→Prop} {ls:List Hy},BC w B as us S ls→BC w B' as us S ls
 | [],us,S,ls,h=>by simpa only[BC] using h
 |a::as,us,S,ls,h=>by
  simp only[BC]at h ⊢
  obtain⟨u,us',S1,S2,l1,l2,h1,h2,h3,h4,h5⟩:=h
  exact⟨u,us',S1,S2,l1,l2,h1,Bo.mono hB h2,BC.mono hB h3,h4,h5⟩
end
def RJ (w:World) (B:Nat→Prop) (ρ:Id→HG) (r:R):PA→Value→(Nat→Prop)→List Hy→Prop
 | .a a,u,S,ls=>Bo w B a u S ls
 | .v v,u,S,ls=>A6 w B ρ r v u∧Emp S∧ls=[]
def GP (w:World) (B:Nat→Prop) (ρ:Id→HG) (r:R):List PA→List Value→(Nat→Prop)→List Hy→Prop
 | [],us,S,ls=>us=[]∧Emp S∧ls=[]
 |a::as,us,S,ls=>∃u us' S1 S2 l1 l2,us=u::us'∧RJ w B ρ r a u S1 l1∧GP w B ρ r as us' S2 l2∧BK S S1 S2∧ls=l1++l2
def Xw (c:Ctx) (w:World) (ρ:Id→HG) (r0 r:R):Ep→Hy→Prop
 | .root id st fx rows0,l=>l=(ρ id,rows0)∧Au r0 id∧(∃rows1 stt1 fx1,Ac r0 id= .mem rows1 stt1 fx1∧rows0.map (·.length)=rows1.map (·.length)∧stt1≤st)∧(fx=true→ρ id=c.q0 id∧rows0.length=c.n0 id)
 | .cell id p i k,l=>Au r0 id∧∀rows stt fx,Ac r id= .mem rows stt fx→CR rows p i k=some .hole∧∃b o,Bb w (ρ id).1 rows p i k b o∧w.cell? ⟨b,o,none⟩=some (.slice l.1.1 l.2.length l.1.2)
 | .none,_=>True
def En (c:Ctx) (w:World) (ρ:Id→HG) (r0 r:R):List Ep→List Hy→Prop
 | [],ls=>ls=[]
 |b::bs,ls=>∃l ls',ls=l::ls'∧Xw c w ρ r0 r b l∧En c w ρ r0 r bs ls'
theorem IU : ∀ (a b:List Ep),Bf (a++b)=Bf a++Bf b
 | [],b=>rfl
 | .root .. ::a,b=>by simp only[List.cons_append,Bf,IU a b]
 | .cell .. ::a,b=>by simp only[List.cons_append,Bf,IU a b]
 | .none::a,b=>by simp only[List.cons_append,Bf,IU a b]
theorem ca : ∀ {a b:List Id},Da (a++b)=true→Da a=true∧Da b=true∧∀x∈a,x∉b
 | [],b,h=>⟨rfl,h,by simp⟩
 |x::a,b,h=>by
  simp only[List.cons_append,Da,bz,Bool.not_eq_true']at h
  obtain⟨h1,h2⟩:=h
  obtain⟨g1,g2,g3⟩:=ca h2
  simp at h1
  refine⟨?_,g2, ?_⟩
  ·simp only[Da,bz,Bool.not_eq_true']
   exact⟨by simpa using h1.1,g1⟩
  ·intro y hy
   rcases List.mem_cons.1 hy with rfl|hy
   ·exact h1.2
   ·exact g3 y hy
section
variable {P:Program} {c:Ctx} {w w':World} {B B':Nat→Prop} {ρ ρ':Id→HG} {Sf:Id→Nat→Prop} {X:Nat→Prop} {r r' r0:R} {a:Act} {o:Oper} {id0:Id}
theorem Xw.keep {b:Ep} {l:Hy} (h:Xw c w ρ r0 r b l) (hk:∀id∈Bf [b],Ac r' id=Ac r id∨Ac r' id= .dead):Xw c w ρ r0 r' b l:=by
 cases b with
 |root id st fx rows0=>exact h
 |none=>trivial
 |cell id p i k=>
  refine⟨h.1,fun rows stt fx hg=> ?_⟩
  rcases hk id (by simp[Bf])with e|e
  ·rw[e]at hg;exact h.2 rows stt fx hg
  ·rw[e]at hg;cases hg
theorem En.keep : ∀ {bs:List Ep} {ls:List Hy},En c w ρ r0 r bs ls→(∀id∈Bf bs,Ac r' id=Ac r id∨Ac r' id= .dead)→En c w ρ r0 r' bs ls
 | [],ls,h,_=>h
 |b::bs,ls,h,hk=>by
  simp only[En]at h ⊢
  obtain⟨l,ls',h1,h2,h3⟩:=h
  have e:Bf (b::bs)=Bf [b]++Bf bs:=IU [b] bs
  rw[e]at hk
  exact⟨l,ls',h1,h2.keep fun id hi=>hk id (List.mem_append_left _ hi),h3.keep fun id hi=>hk id (List.mem_append_right _ hi)⟩
theorem En.append : ∀ {bs bs':List Ep} {ls ls':List Hy},En c w ρ r0 r bs ls→En c w ρ r0 r bs' ls'→En c w ρ r0 r (bs++bs') (ls++ls')
 | [],bs',ls,ls',h,h'=>by simp only[En]at h;subst h;simpa using h'
 |b::bs,bs',ls,ls',h,h'=>by
  simp only[En]at h
  obtain⟨l,ls1,rfl,h2,h3⟩:=h
  simp only[List.cons_append,En]
  exact⟨l,ls1++ls',rfl,h2,h3.append h'⟩
theorem RJ.next (hB:∀b,B b→B' b) (hc:∀v u,A6 w B ρ r v u→A6 w B' ρ r' v u) {pa:PA} {u:Value} {S:Nat→Prop} {ls:List Hy} (h:RJ w B ρ r pa u S ls):RJ w B' ρ r' pa u S ls:=by
 cases pa with
 |a a=>exact Bo.mono hB h
 |v v=>exact⟨hc _ _ h.1,h.2⟩
structure Fc (c:Ctx) (w:World) (ρ:Id→HG) (r0:R) (B:Nat→Prop) (Sf:Id→Nat→Prop) (X:Nat→Prop) (r:R) (B1:Nat→Prop) (Sf1:Id→Nat→Prop) (S:Nat→Prop) (r1:R) (ids:List Id):Prop where
 inv:E5 c w B1 ρ Sf1 (fun b=>X b∨S b) r1
 claims:∀v u,A6 w B ρ r v u→A6 w B1 ρ r1 v u
 chg:∀i0,Chg i0 r0 r→Chg (i0++ids) r0 r1
 len:∀t,(r1.getD t []).length=(r.getD t []).length
 size:r1.length=r.length
 sub:∀id b,Sf1 id b→Sf id b
 Bl:∀b,B b→B1 b
 Br:∀b,B1 b→B b∨∃id,Sf id b
 dis:∀b,S b→¬X b
 src:∀b,S b→∃id,id∈ids∧Sf id b
 keep:∀id,id∉ids→Ac r1 id=Ac r id∨Ac r1 id= .dead
theorem Fc.refl (hI:E5 c w B ρ Sf X r) {S:Nat→Prop} (hS:Emp S) {ids:List Id} (hi:ids=[]):Fc c w ρ r0 B Sf X r B Sf S r ids:=
 ⟨hI.congrX (fun b=>⟨.inl,fun h=>h.resolve_right (hS b)⟩),fun _ _ h=>h,fun i0 h=>by rw[hi,List.append_nil];exact h,fun _=>rfl,rfl,fun _ _ h=>h,fun _ h=>h,fun _ h=> .inl h,fun b h=>absurd h (hS b),fun b h=>absurd h (hS b),fun _ _=> .inl rfl⟩
theorem Fc.trans {B1 B2:Nat→Prop} {Sf1 Sf2:Id→Nat→Prop} {S1 S2:Nat→Prop} {r1 r2:R} {i1 i2:List Id} (h:Fc c w ρ r0 B Sf X r B1 Sf1 S1 r1 i1) (h':Fc c w ρ r0 B1 Sf1 (fun b=>X b∨S1 b) r1 B2 Sf2 S2 r2 i2):
  Fc c w ρ r0 B Sf X r B2 Sf2 (fun b=>S1 b∨S2 b) r2 (i1++i2):=by
 refine⟨h'.inv.congrX (fun b=>by simp[or_assoc]),fun v u hh=>h'.claims v u (h.claims v u hh),fun i0 hh=>by rw[←List.append_assoc];exact h'.chg _ (h.chg _ hh),fun t=>(h'.len t).trans (h.len t),h'.size.trans h.size,fun id b hb=>h.sub id b (h'.sub id b hb),fun b hb=>h'.Bl b (h.Bl b hb), ?_, ?_, ?_, ?_⟩
 ·intro b hb
  rcases h'.Br b hb with hb|⟨id,hb⟩
  ·exact h.Br b hb
  ·exact .inr ⟨id,h.sub id b hb⟩
 ·intro b hb
  rcases hb with hb|hb
  ·exact h.dis b hb
  ·exact fun hx=>h'.dis b hb (.inl hx)
 ·intro b hb
  rcases hb with hb|hb
  ·obtain⟨id,hi,hb⟩:=h.src b hb;exact⟨id,List.mem_append_left _ hi,hb⟩
  ·obtain⟨id,hi,hb⟩:=h'.src b hb;exact⟨id,List.mem_append_right _ hi,h.sub id b hb⟩
 ·intro id hid
  rw[List.mem_append,not_or]at hid
  rcases h'.keep id hid.2 with e|e
  ·rcases h.keep id hid.1 with e'|e'
   ·exact .inl (e.trans e')
   ·exact .inr (e.trans e')
  ·exact .inr e
theorem uK {rows rows0:Rows} {stt stt0:Nat} {i0 extra:List Id} {id id':Id} {A:Prop} (he:∀j∈extra,j=id) (hne:id≠id') (h:A∨(id'∉i0∧rows=rows0∧stt=stt0)):A∨(id'∉i0++extra∧rows=rows0∧stt=stt0):=
 h.imp (fun h=>h) fun h=>⟨fun hm=>(List.mem_append.1 hm).elim h.1 fun hm=>hne (he id' hm).symm,h.2⟩
theorem uL {id:Id} {i0 extra:List Id} (he:∀j∈extra,j=id) (h:Chg i0 r0 r):Chg (i0++extra) r0 (C3 r id .dead):=by
 intro id' rows stt fx hg ht
 by_cases e:id=id'
 ·subst e
  by_cases ht':Au r id
  ·rw[AR ht']at hg;cases hg
  ·have:Ac (C3 r id .dead) id= .dead:=by
    by_cases hd:Ac (C3 r id .dead) id= .dead
    ·exact hd
    ·exact absurd ((Hw _).1 (DA hd)) ht'
   rw[this]at hg;cases hg
 ·rw[AX e]at hg
  obtain⟨rows0,stt0,fx0,e1,e2,e3⟩:=h id' rows stt fx hg ht
  exact⟨rows0,stt0,fx0,e1,e2,uK he e e3⟩
theorem pl (rows:Rows) (p:Path) (i k:Nat) (t:T):(Bn rows p i k t).map (·.length)=rows.map (·.length):=by
 have hrc:∀(rows:Rows) (i k:Nat) (t:T),(ID rows i k t).map (·.length)=rows.map (·.length):=by
  intro rows i k t
  unfold ID
  cases h:rows[i]? with
  |none=>rfl
  |some row=>
   simp only[]
   have:=(List.getElem?_eq_some_iff.1 h)
   obtain⟨h1,h2⟩:=this
   apply List.ext_getElem?
   intro j
   simp only[List.getElem?_map,List.getElem?_set]
   by_cases e:i=j
   ·subst e;simp[h1,h2]
   ·simp[e]
 cases p with
 |nil=>exact hrc ..
 |cons x p=>
  obtain⟨i0,c0⟩:=x
  simp only[Bn]
  split
  ·exact hrc ..
  ·rfl
theorem zf {id:Id} {i0 extra:List Id} (he:∀j∈extra,j=id) {rows rows':Rows} {stt stt':Nat} {fx fx':Bool} (h:Chg i0 r0 r) (h0:Ac r id= .mem rows stt fx) (hl:rows'.map (·.length)=rows.map (·.length)) (hs:stt<stt'):Chg (i0++extra) r0 (C3 r id (.mem rows' stt' fx')):=by
 intro id' rows1 stt1 fx1 hg ht
 have hth:Au r id:=DA (by rw[h0];simp)
 by_cases e:id=id'
 ·subst e
  rw[AR hth]at hg
  cases hg
  obtain⟨rows0,stt0,fx0,e1,e2,e3⟩:=h id rows stt fx h0 ht
  refine⟨rows0,stt0,fx0,e1,by rw[hl,e2], .inl ?_⟩
  rcases e3 with e3|⟨_,_,e3⟩<;>omega
 ·rw[AX e]at hg
  obtain⟨rows0,stt0,fx0,e1,e2,e3⟩:=h id' rows1 stt1 fx1 hg ht
  exact⟨rows0,stt0,fx0,e1,e2,uK he e e3⟩
theorem A2R {id:Id} {i0:List Id} {rows:Rows} {stt:Nat} {fx:Bool} (h:Chg i0 r0 r) (h0:Ac r id= .mem rows stt fx) (ht:Au r0 id):∃rows1 stt1 fx1,Ac r0 id= .mem rows1 stt1 fx1∧rows.map (·.length)=rows1.map (·.length)∧stt1≤stt:=by
 obtain⟨rows0,stt0,fx0,e1,e2,e3⟩:=h id rows stt fx h0 ht
 exact⟨rows0,stt0,fx0,e1,e2,by rcases e3 with e3|⟨_,_,e3⟩<;>omega⟩
theorem Td (hI:E5 c w B ρ Sf X r) {id:Id} {rows:Rows} {stt:Nat} {fx:Bool} (h0:Ac r id= .mem rows stt fx):Fc c w ρ r0 B Sf X r B (fun j b=>j≠id∧Sf j b) (Sf id) (C3 r id .dead) [id]:=by
 obtain⟨h1,h2⟩:=hI.gone h0 (e:= .dead) rfl
 exact⟨h1,h2.claims,fun i0=>uL (by simp),h2.len,h2.size,fun _ _ h=>h.2,fun _ h=>h,fun _ h=> .inl h,fun b hb hx=>hI.xd id b hx hb,fun b hb=>⟨id,by simp,hb⟩,fun j hj=> .inl (AX (by simpa [eq_comm] using hj) _)⟩
end
end TT
namespace TT
open Go
theorem ZO {r:R} {id:Id} (e e':FA):C3 (C3 r id e) id e'=C3 r id e':=by
 unfold C3
 by_cases h:id.1<r.length
 ·simp[List.getD,h]
 ·rw[List.set_eq_of_length_le (by simp;omega),List.set_eq_of_length_le (by omega),List.set_eq_of_length_le (by omega)]
theorem Nj {rows:Rows} {p:Path} {i k:Nat} {t t':T} (h:CR rows p i k=some t):CR (Bn rows p i k t') p i k=some t':=by
 simp only[CR]at h
 obtain⟨rs,h1,h2⟩:=Option.bind_eq_some_iff.1 h
 obtain⟨row,h3,h4⟩:=Option.bind_eq_some_iff.1 h2
 have hr:(D5 rows p).bind (·[i]?)=some row:=by rw[h1];exact h3
 rw[KI (cY p hr)]
 have:=(List.getElem?_eq_some_iff.1 h4).1
 simp[this]
section
variable {P:Program} {c:Ctx} {w w':World} {B B':Nat→Prop} {ρ ρ':Id→HG} {Sf:Id→Nat→Prop} {X:Nat→Prop} {r r' r0:R} {a:Act} {o:Oper} {id0:Id}
theorem E5.stamp (hI:E5 c w B ρ Sf X r) {id:Id} {rows:Rows} {stt:Nat} {fx:Bool} (h0:Ac r id= .mem rows stt fx) (stt':Nat):E5 c w B ρ Sf X (C3 r id (.mem rows stt' fx)):=by
 have hth:Au r id:=DA (by rw[h0];simp)
 refine{ hI with ents:=fun j=> ?_ }
 by_cases e:id=j
 ·subst e
  rw[AR hth]
  have:=hI.ents id
  rw[h0]at this
  exact this
 ·rw[AX e];exact hI.ents j
theorem Ky (hI:E5 c w B ρ Sf X r) (id:Id):jx w w B ρ r id:=fun rows stt fx hg=>⟨Sf id,(hI.mem hg).1,fun _ _=>rfl⟩
theorem A0O (hI:E5 c w B ρ Sf X r) {id:Id} {rows rs:Rows} {stt:Nat} {fx:Bool} (h0:Ac r id= .mem rows stt fx) {p:Path} {i k:Nat} (hg:CR rows p i k=some (.sl true rs)):
  ∃Sf1 S b o q cap,Fc c w ρ r0 B Sf X r B Sf1 S (C3 r id (.mem (Bn rows p i k .hole) (stt+1) fx)) [id]∧Bb w (ρ id).1 rows p i k b o∧w.cell? ⟨b,o,none⟩=some (.slice q rs.length cap)∧H1 w B q cap rs S∧
   (Au r0 id→Xw c w ρ r0 (C3 r id (.mem (Bn rows p i k .hole) (stt+1) fx)) (.cell id p i k) ((q,cap),rs)):=by
 have hth:Au r id:=DA (by rw[h0];simp)
 obtain⟨b,o,u,S1,S2,l1,l2,l3,l4,l5,l6,l7⟩:=hI.hole h0 hg
 obtain⟨q,cap,rfl,hs⟩:=FM.1 l4
 have h1:Ac (C3 r id (.mem (Bn rows p i k .hole) stt fx)) id= .mem (Bn rows p i k .hole) stt fx:=AR hth _
 have h2:=l6.stamp h1 (stt+1)
 rw[ZO]at h2
 refine⟨_,S1,b,o,q,cap,⟨h2,fun v u hh=>NJ h0 (BZ ..) (fun i row' hr=>eh i row' hr) (Nat.lt_succ_self _) (fun _ h=>h) (fun _ _=>rfl) (fun j _=>Ky hI j) hh,
  fun i0 hc=>zf (by simp) hc h0 (pl ..) (Nat.lt_succ_self _),Xu _,Bu _, ?_,fun _ h=>h,fun _ h=> .inl h,fun b hb hx=>hI.xd id b hx (l5.left hb),fun b hb=>⟨id,by simp,l5.left hb⟩,fun j hj=> .inl (AX (by simpa [eq_comm] using hj) _)⟩,l1,l2,hs, ?_⟩
 ·rintro j b (⟨_,h⟩|⟨h,h'⟩)
  ·exact h
  ·subst h;exact l5.right h'
 ·intro ht
  refine⟨ht,fun rows' stt' fx' hg'=> ?_⟩
  rw[AR hth]at hg'
  cases hg'
  exact⟨Nj hg,b,o,(Bb.put p (hI.mem h0).1 hg l1 (fun _ _ _=>rfl)).1,l2⟩
theorem GP.args : ∀ {as:List PA} {us:List Value} {S:Nat→Prop} {ls:List Hy},GP w B ρ r as us S ls→(∀a∈as,∃x,a=PA.a x)→BC w B (as.map PA.arg) us S ls
 | [],us,S,ls,h,_=>by simpa only[List.map_nil,BC,GP] using h
 |a::as,us,S,ls,h,ha=>by
  simp only[GP]at h
  obtain⟨u,us',S1,S2,l1,l2,h1,h2,h3,h4,h5⟩:=h
  obtain⟨x,rfl⟩:=ha a (List.mem_cons_self ..)
  simp only[List.map_cons,BC,PA.arg]
  exact⟨u,us',S1,S2,l1,l2,h1,h2,GP.args h3 (fun b hb=>ha b (List.mem_cons_of_mem _ hb)),h4,h5⟩
def rE {α:Type} (c:Ctx) (w:World) (ρ:Id→HG) (r0:R) (B:Nat→Prop) (Sf:Id→Nat→Prop) (X:Nat→Prop) (r:R) (call:Ai) (d:Nat) (k:PA→List Ep→M α) (x:α×R) (u:Value) (md:Md):Prop:=
 ∃pa bs ls S B1 Sf1 r1,(k pa bs).run call d r1=some x∧Fc c w ρ r0 B Sf X r B1 Sf1 S r1 (Bf bs)∧RJ w B1 ρ r1 pa u S ls∧(Da (Bf bs)=true→En c w ρ r0 r1 bs ls)∧(md≠ .val→∃a,pa= .a a)
def cd {α:Type} (c:Ctx) (w:World) (ρ:Id→HG) (r0:R) (B:Nat→Prop) (Sf:Id→Nat→Prop) (X:Nat→Prop) (r:R) (call:Ai) (d:Nat) (k:List PA→List Ep→M α) (x:α×R) (us:List Value) (md:Md):Prop:=
 ∃pa bs ls S B1 Sf1 r1,(k pa bs).run call d r1=some x∧Fc c w ρ r0 B Sf X r B1 Sf1 S r1 (Bf bs)∧GP w B1 ρ r1 pa us S ls∧(Da (Bf bs)=true→En c w ρ r0 r1 bs ls)∧(md≠ .val→∀a∈pa,∃y,a=PA.a y)
theorem GP.next (hB:∀b,B b→B' b) (hc:∀v u,A6 w B ρ r v u→A6 w B' ρ r' v u):∀{pa:List PA} {u:List Value} {S:Nat→Prop} {ls:List Hy},GP w B ρ r pa u S ls→GP w B' ρ r' pa u S ls
 | [],u,S,ls,h=>h
 |a::as,u,S,ls,h=>by
  simp only[GP]at h ⊢
  obtain⟨u,us',S1,S2,l1,l2,h1,h2,h3,h4,h5⟩:=h
  exact⟨u,us',S1,S2,l1,l2,h1,h2.next hB hc,GP.next hB hc h3,h4,h5⟩
theorem AJ.next (hc:∀v u,A6 w B ρ r v u→A6 w B' ρ r' v u):∀{vs:List V} {us:List Value},AJ w B ρ r vs us→AJ w B' ρ r' vs us
 | [],us,hh=>by simpa only[AJ] using hh
 |v::vs,us,hh=>by
  simp only[AJ]at hh ⊢
  obtain⟨u,us',rfl,h1,h2⟩:=hh
  exact⟨u,us',rfl,hc _ _ h1,AJ.next hc h2⟩
theorem pm {α:Type} {call:Ai} {d:Nat} {x:α×R} {k:List PA→List Ep→M α} {pa:PA} {bs:List Ep} {ls:List Hy} {S B1:Nat→Prop} {Sf1:Id→Nat→Prop} {r1:R} {u:Value} {us:List Value} {md:Md}
  (h:Fc c w ρ r0 B Sf X r B1 Sf1 S r1 (Bf bs)) (hp:RJ w B1 ρ r1 pa u S ls) (hb:Da (Bf bs)=true→En c w ρ r0 r1 bs ls) (hm:md≠ .val→∃a,pa= .a a)
  (h':cd c w ρ r0 B1 Sf1 (fun b=>X b∨S b) r1 call d (fun as bs'=>k (pa::as) (bs++bs')) x us md):cd c w ρ r0 B Sf X r call d k x (u::us) md:=by
 obtain⟨pas,bs2,ls2,S2,B2,Sf2,r2,g1,g2,g3,g4,g5⟩:=h'
 refine⟨pa::pas,bs++bs2,ls++ls2,(fun b=>S b∨S2 b),B2,Sf2,r2,g1, ?_, ?_, ?_, ?_⟩
 ·rw[IU];exact h.trans g2
 ·simp only[GP]
  exact⟨u,us,S,S2,ls,ls2,rfl,hp.next g2.Bl g2.claims,g3,BK.mk' fun b hb hb'=>g2.dis b hb' (.inr hb),rfl⟩
 ·intro hn
  rw[IU]at hn
  obtain⟨n1,n2,n3⟩:=ca hn
  exact((hb n1).keep fun id hid=>g2.keep id (n3 id hid)).append (g4 n2)
 ·intro hmd a ha
  rcases List.mem_cons.1 ha with rfl|ha
  ·exact hm hmd
  ·exact g5 hmd a ha
mutual
theorem uM {α:Type} {call:Ai} {d:Nat} {x:α×R}:∀(v:V) {md:Md} {u:Value} {k:PA→List Ep→M α} {B:Nat→Prop} {Sf:Id→Nat→Prop} {X:Nat→Prop} {r:R} {i0:List Id},(FB md v k).run call d r=some x→E5 c w B ρ Sf X r→A6 w B ρ r v u→
  Chg i0 r0 r→(∀t,(r.getD t []).length=(r0.getD t []).length)→rE c w ρ r0 B Sf X r call d k x u md
 | .t t,md,u,k,B,Sf,X,r,i0,hrun,hI,hv,hc,hl=>by
  simp only[FB]at hrun
  simp only[A6]at hv
  exact⟨_,_,[],fun _=>False,B,Sf,r,hrun,Fc.refl hI (fun _ h=>h) rfl,by simp only[RJ,Bo];exact⟨hv.1,hv.2,fun _ h=>h,trivial⟩,fun _=>rfl,fun _=>⟨_,rfl⟩⟩
 | .nil,md,u,k,B,Sf,X,r,i0,hrun,hI,hv,hc,hl=>by
  simp only[A6]at hv
  subst hv
  have sh:(k (.a (.t (.sl false []))) []).run call d r=some x→rE c w ρ r0 B Sf X r call d k x (.slice none 0 0) md:=fun hrun=>
   ⟨_,_,[],fun _=>False,B,Sf,r,hrun,Fc.refl hI (fun _ h=>h) rfl,by
    simp only[RJ,Bo,EV]
    exact⟨⟨none,0,rfl,Nat.le_refl _,by simp, .inl trivial⟩,rfl,fun _ h=>h,trivial⟩,fun _=>rfl,fun _=>⟨_,rfl⟩⟩
  cases md with
  |val=>simp only[FB]at hrun;exact sh hrun
  |give=>simp only[FB]at hrun;exact sh hrun
  |ref=>
   simp only[FB]at hrun
   exact⟨_,_,[((none,0),[])],fun _=>False,B,Sf,r,hrun,Fc.refl hI (fun _ h=>h) rfl,by
    simp only[RJ,Bo]
    exact⟨none,0,rfl, .inl ⟨rfl,rfl,rfl,fun _ h=>h⟩,rfl⟩,fun _=>⟨_,_,rfl,trivial,rfl⟩,fun _=>⟨_,rfl⟩⟩
 | .agg cs,md,u,k,B,Sf,X,r,i0,hrun,hI,hv,hc,hl=>by
  have go:md≠ .val→(Th md cs fun as bs=>k (.a (.agg (as.map PA.arg))) bs).run call d r=some x→rE c w ρ r0 B Sf X r call d k x u md:=by
   intro hmd hrun
   simp only[A6]at hv
   obtain⟨us,rfl,hv⟩:=hv
   obtain⟨pas,bs,ls,S,B1,Sf1,r1,g1,g2,g3,g4,g5⟩:=eo cs hrun hI hv hc hl
   exact⟨_,bs,ls,S,B1,Sf1,r1,g1,g2,by simp only[RJ,Bo];exact⟨us,rfl,g3.args (g5 hmd)⟩,g4,fun _=>⟨_,rfl⟩⟩
  cases md with
  |val=>
   simp only[FB]at hrun
   exact⟨_,_,[],fun _=>False,B,Sf,r,hrun,Fc.refl hI (fun _ h=>h) rfl,⟨hv,fun _ h=>h,rfl⟩,fun _=>rfl,fun h=>absurd rfl h⟩
  |ref=>simp only[FB]at hrun;exact go (by simp) hrun
  |give=>simp only[FB]at hrun;exact go (by simp) hrun
 | .ref id n,md,u,k,B,Sf,X,r,i0,hrun,hI,hv,hc,hl=>by
  have hv0:=hv
  simp only[A6]at hv
  have hth0:Au r0 id:=by unfold Au;rw[←hl];exact hv.1
  cases md with
  |val=>
   simp only[FB]at hrun
   exact⟨_,_,[],fun _=>False,B,Sf,r,hrun,Fc.refl hI (fun _ h=>h) rfl,⟨hv0,fun _ h=>h,rfl⟩,fun _=>rfl,fun h=>absurd rfl h⟩
  |ref=>
   simp only[FB,M.run]at hrun
   cases he:Ac r id with
   |dead=>rw[he]at hrun;simp[M.run]at hrun
   |mem rows stt fx=>
    rw[he]at hrun
    simp only at hrun
    split at hrun
    ·rename_i hlen
     simp only[M.run]at hrun
     obtain⟨hm,hfx⟩:=hI.mem he
     have hu:=(hv.2.2 rows stt fx he).2 hlen
     refine⟨_,_,[(ρ id,rows)],Sf id,B,_,_,hrun,Td hI he, ?_, ?_,fun _=>⟨_,rfl⟩⟩
     ·simp only[RJ,Bo]
      exact⟨_,_,by rw[hlen];exact hu,hm,rfl⟩
     ·intro _
      exact⟨_,_,rfl,⟨rfl,hth0,A2R hc he hth0,hfx⟩,rfl⟩
    ·simp[M.run]at hrun
  |give=>
   simp only[FB,M.run]at hrun
   cases he:Ac r id with
   |dead=>rw[he]at hrun;simp[M.run]at hrun
   |mem rows stt fx=>
    rw[he]at hrun
    simp only at hrun
    split at hrun
    ·rename_i hlen
     simp only[M.run]at hrun
     obtain⟨hm,hfx⟩:=hI.mem he
     have hu:=(hv.2.2 rows stt fx he).2 hlen
     have hL:=Td (r0:=r0) hI he
     have hsh:=hL.inv.share (Y:=Sf id) (X':=X) (fun b hb=> .inr hb) (fun b hb=> .inl hb) (fun b hb hb'=>hI.xd id b hb hb')
     refine⟨_,_,[],fun _=>False,fun b=>B b∨Sf id b,_,_,hrun,⟨hsh.congrX (fun b=>by simp),fun v u hh=>EI (fun _ h=> .inl h) (fun _ _=>rfl) (fun j=>Ky hL.inv j) (hL.claims v u hh),fun i0 hh=>by rw[show Bf []=[]from rfl,List.append_nil];have:=uL (id:=id) (extra:=[]) (by simp) hh;rwa [List.append_nil]at this,hL.len,hL.size,hL.sub,fun b hb=> .inl hb,fun b hb=>hb.imp (fun h=>h) (fun h=>⟨id,h⟩),fun _ h=>h.elim,fun _ h=>h.elim,fun j _=> ?_⟩, ?_,fun _=>rfl,fun _=>⟨_,rfl⟩⟩
     ·by_cases e:id=j
      ·subst e;exact .inr (AR hv.1 _)
      ·exact .inl (AX e _)
     ·simp only[RJ,Bo]
      have hf:=Fb.frz (B:=B) (B':=fun b=>B b∨Sf id b) (fun _ h=> .inl h) (t:= .sl true rows) (u:=u) (S:=Sf id) (fun _ h=> .inr h) (FM.2 ⟨_,_,by rw[hlen];exact hu,hm⟩)
      simp only[TT.frz]at hf
      exact⟨hf,by rw[hu];rfl,fun _ h=>h,trivial⟩
    ·simp[M.run]at hrun
 | .sub id p i k' n st,md,u,k,B,Sf,X,r,i0,hrun,hI,hv,hc,hl=>by
  have hv0:=hv
  simp only[A6]at hv
  have hth0:Au r0 id:=by unfold Au;rw[←hl];exact hv.1
  cases md with
  |val=>
   simp only[FB]at hrun
   exact⟨_,_,[],fun _=>False,B,Sf,r,hrun,Fc.refl hI (fun _ h=>h) rfl,⟨hv0,fun _ h=>h,rfl⟩,fun _=>rfl,fun h=>absurd rfl h⟩
  |give=>simp[FB,M.run]at hrun
  |ref=>
   simp only[FB,M.run]at hrun
   cases he:Ac r id with
   |dead=>rw[he]at hrun;simp[M.run]at hrun
   |mem rows stt fx=>
    rw[he]at hrun
    simp only at hrun
    split at hrun
    ·rename_i hs
     cases hg:CR rows p i k' with
     |none=>rw[hg]at hrun;simp[M.run]at hrun
     |some t=>
      rw[hg]at hrun
      cases t with
      |v y=>simp[M.run]at hrun
      |hole=>simp[M.run]at hrun
      |pp _=>simp[M.run]at hrun
      |fn _ _=>simp[M.run]at hrun
      |sl ow rs=>cases ow with
       |false=>simp[M.run]at hrun
       |true=>
        simp only at hrun
        split at hrun
        ·rename_i hlen
         simp only[M.run]at hrun
         obtain⟨Sf1,S,b,o,q,cap,h1,h2,h3,h4,h5⟩:=A0O (r0:=r0) hI he hg
         obtain⟨b',o',m1,m2⟩:=((hv.2.2 rows stt fx he).2 hs).2 rs hg hlen
         obtain⟨rfl,rfl⟩:=Bb.unique p h2 m1
         rw[h3]at m2
         simp only[oi]at m2
         refine⟨_,_,[((q,cap),rs)],S,B,Sf1,_,hrun,h1, ?_,fun _=>⟨_,_,rfl,h5 hth0,rfl⟩,fun _=>⟨_,rfl⟩⟩
         simp only[RJ,Bo]
         exact⟨q,cap,m2.symm,h4,rfl⟩
        ·simp[M.run]at hrun
    ·simp[M.run]at hrun
 | .ptr id p i off n st,md,u,k,B,Sf,X,r,i0,hrun,hI,hv,hc,hl=>by
  simp only[A6]at hv
  have hth0:Au r0 id:=by unfold Au;rw[←hl];exact hv.1
  simp only[FB]at hrun
  split at hrun
  ·rename_i hcond
   simp only[bz,List.isEmpty_iff,decide_eq_true_eq,beq_iff_eq]at hcond
   obtain⟨⟨rfl,rfl⟩,rfl⟩:=hcond
   simp only[M.run]at hrun
   split at hrun
   ·rename_i cells stt fx he
    split at hrun
    ·rename_i hoff
     simp only[M.run]at hrun
     obtain⟨hm,hfx⟩:=hI.mem he
     obtain⟨_,ad,rfl,hp⟩:=hv
     obtain⟨_,g2⟩:=(hp _ _ _ he).2.2 (fun _=>rfl) (fun h=>absurd rfl h)
     obtain⟨b,o,⟨l1,row,l2,l3,l4⟩,rfl⟩:=g2 cells (by simp[D5]) hoff
     refine⟨_,_,[(ρ id,[cells])],Sf id,B,_,_,hrun,Td hI he, ?_,fun _=>⟨_,_,rfl,⟨rfl,hth0,A2R hc he hth0,hfx⟩,rfl⟩,fun _=>⟨_,rfl⟩⟩
     simp only[RJ,Bo]
     refine⟨b,(ρ id).2,by rw[l4];simp,hoff,by rw[←l1];exact hm, ?_⟩
     rw[←l1]
    ·simp[M.run]at hrun
   ·simp[M.run]at hrun
  ·simp[M.run]at hrun
 | .pp cs,md,u,k,B,Sf,X,r,i0,hrun,hI,hv,hc,hl=>by
  simp only[FB]at hrun
  simp only[A6]at hv
  exact⟨_,_,[],fun _=>False,B,Sf,r,hrun,Fc.refl hI (fun _ h=>h) rfl,by simp only[RJ,Bo];exact⟨hv,fun _ h=>h,trivial⟩,fun _=>rfl,fun _=>⟨_,rfl⟩⟩
 | .fn f caps,md,u,k,B,Sf,X,r,i0,hrun,hI,hv,hc,hl=>by
  simp only[FB]at hrun
  simp only[A6]at hv
  obtain⟨us,rfl,hv⟩:=hv
  obtain⟨pas,bs,ls,S,B1,Sf1,r1,g1,g2,g3,g4,g5⟩:=eo caps hrun hI hv hc hl
  exact⟨_,bs,ls,S,B1,Sf1,r1,g1,g2,by simp only[RJ,Bo];exact⟨us,rfl,g3.args (g5 (by simp))⟩,g4,fun _=>⟨_,rfl⟩⟩
 | .tup vs,md,u,k,B,Sf,X,r,i0,hrun,hI,hv,hc,hl=>by simp[FB,M.run]at hrun
 | .dead,md,u,k,B,Sf,X,r,i0,hrun,hI,hv,hc,hl=>by simp[FB,M.run]at hrun
theorem eo {α:Type} {call:Ai} {d:Nat} {x:α×R}:∀(vs:List V) {md:Md} {us:List Value} {k:List PA→List Ep→M α} {B:Nat→Prop} {Sf:Id→Nat→Prop} {X:Nat→Prop} {r:R} {i0:List Id},(Th md vs k).run call d r=some x→E5 c w B ρ Sf X r→AJ w B ρ r vs us→
  Chg i0 r0 r→(∀t,(r.getD t []).length=(r0.getD t []).length)→cd c w ρ r0 B Sf X r call d k x us md
 | [],md,us,k,B,Sf,X,r,i0,hrun,hI,hv,hc,hl=>by
  simp only[Th]at hrun
  simp only[AJ]at hv
  exact⟨[],[],[],fun _=>False,B,Sf,r,hrun,Fc.refl hI (fun _ h=>h) rfl,by simp only[GP];exact⟨hv,fun _ h=>h,trivial⟩,fun _=>rfl,fun _=>by simp⟩
 |v::vs,md,us,k,B,Sf,X,r,i0,hrun,hI,hv,hc,hl=>by
  simp only[Th]at hrun
  simp only[AJ]at hv
  obtain⟨u,us',rfl,h1,h2⟩:=hv
  obtain⟨pa,bs,ls,S,B1,Sf1,r1,g1,g2,g3,g4,g5⟩:=uM v hrun hI h1 hc hl
  exact pm g2 g3 g4 g5 (eo vs g1 g2.inv (AJ.next g2.claims h2) (g2.chg _ hc) (fun t=>(g2.len t).trans (hl t)))
end
theorem cf {α:Type} {call:Ai} {d:Nat} {x:α×R}:∀(vs:List V) {mds:List Md} {us:List Value} {k:List PA→List Ep→M α} {B:Nat→Prop} {Sf:Id→Nat→Prop} {X:Nat→Prop} {r:R} {i0:List Id},(Ja mds vs k).run call d r=some x→E5 c w B ρ Sf X r→AJ w B ρ r vs us→
  Chg i0 r0 r→(∀t,(r.getD t []).length=(r0.getD t []).length)→cd c w ρ r0 B Sf X r call d k x us .val
 | [],mds,us,k,B,Sf,X,r,i0,hrun,hI,hv,hc,hl=>by
  simp only[AJ]at hv
  have hrun':(k [] []).run call d r=some x:=by cases mds<;>simpa only[Ja] using hrun
  exact⟨[],[],[],fun _=>False,B,Sf,r,hrun',Fc.refl hI (fun _ h=>h) rfl,by simp only[GP];exact⟨hv,fun _ h=>h,trivial⟩,fun _=>rfl,fun h=>absurd rfl h⟩
 |v::vs,mds,us,k,B,Sf,X,r,i0,hrun,hI,hv,hc,hl=>by
  simp only[Ja]at hrun
  simp only[AJ]at hv
  obtain⟨u,us',rfl,h1,h2⟩:=hv
  obtain⟨pa,bs,ls,S,B1,Sf1,r1,g1,g2,g3,g4,g5⟩:=uM v hrun hI h1 hc hl
  exact pm g2 g3 g4 (fun h=>absurd rfl h) (cf vs g1 g2.inv (AJ.next g2.claims h2) (g2.chg _ hc) (fun t=>(g2.len t).trans (hl t)))
end
end TT
