import Derived.Test.YtpmnlfgdicmiiaaGreatDoorTDX
import Derived.Orders
import Derived.Test.YtpmnlfgdicmiiaaGreatDoorTD13
import Derived.LoopN
set_option linter.unusedVariables false
set_option linter.unusedSimpArgs false
namespace TT
open Go
section
variable {P:Program} {c:Ctx} {w w':World} {B:Nat→Prop} {ρ:Id→HG} {Sf:Id→Nat→Prop} {X:Nat→Prop} {r:R} {a:Act} {o:Oper} {id0:Id}
theorem A9T (hI:E5 c w B ρ Sf (fun _=>False) r) {t:TypeId} {y z:Operand} (h:o.op= .store t y z) (hb:stB P t 1=true) {id2:Id} {n2:Nat} (hv:A6 w B ρ r (.ref id2 n2) (a.eval z)) {id:Id} {p:Path} {i off m st:Nat}
  (hp:A6 w B ρ r (.ptr id p i off m st) (a.eval y)) {call:Ai} {d:Nat} {x:V×R}
  (hrun:(FN [.ref id2 n2] fun ts=> .get id fun
     | .mem rows stt fx=>(match Dw rows stt p i m st with
      |some row=>if ts.length=1∧off+1≤row.length then
        .set id (.mem (K0 rows p i off ts) (stt+1) fx) (.ret (jp id p i off (stt+1) ts))else .fail
      |none=> .fail)
     |_=> .fail).run call d r=some x):
  ∃w' Sf',PZ P o a w w'∧E5 c w' B ρ Sf' (fun _=>False) x.2∧x.2.length=r.length∧(∀v u,A6 w B ρ r v u→A6 w' B ρ x.2 v u)∧A6 w' B ρ x.2 x.1 (a.eval z):=by
 obtain⟨ts,S,Sf1,r1,g1,g2,g3,g4,g5,g6,g7⟩:=Pf (us:=(a.eval z).cells.toList) hrun hI (NL hv (by intro e;cases e))
 simp only[M.run]at g1
 cases h0:Ac r1 id with
 |dead=>rw[h0]at g1;simp[M.run]at g1
 |mem rows stt fx=>
  rw[h0]at g1
  simp only at g1
  cases hpr:Dw rows stt p i m st with
  |none=>rw[hpr]at g1;simp[M.run]at g1
  |some row=>
   rw[hpr]at g1
   simp only at g1
   split at g1
   ·rename_i hc
    simp only[M.run,oi]at g1
    subst g1
    obtain⟨b,k,us,e1,_,_,_,hloc⟩:=Vm g3 h0 (g5.claims _ _ hp) hpr (Nat.lt_succ_self 0) hc.2
    obtain⟨r1',r2',r3'⟩:=WW hpr
    obtain⟨ho,hfx⟩:=g3.mem h0
    have hlt:off<row.length:=by omega
    have hgc:CR rows p i off=some row[off]:=by rw[KI r1'];simp[hlt]
    obtain⟨b',k',cur,e,u0,S1,S2,l1,l2,l3,l4,l5,l6,l7,l8⟩:=H1.lens p ho hgc
    obtain⟨rfl,rfl⟩:=Bb.unique p l1 hloc
    have hSb:Sf1 id b':=l6.right l7
    obtain⟨w2,m1,m2,m3,m4,m5,m6,S',m7,m8⟩:=Tj (P:=P) ts (k:=k') (j:=0) ho r1' (by omega) (fun _=>hloc) g2 (fun x hx hx'=>g3.xd id x (.inr hx) hx') (fun x hx=>g3.nb id x hx) (fun x hx=>g3.xb x (.inr hx))
    obtain⟨Sf2,n1,n2⟩:=g3.turn (w':=w2) (ρ':=ρ) (rows':=K0 rows p i off ts) (stt':=stt+1) (fx':=fx) h0 (fun x hx hX hS=>m3 x (fun e=>hS (e▸hSb))) (by omega) m4 m5 m6 (fun _ _=>rfl) m7 (fun x hx=>by
      rcases m8 x hx with h|h
      ·exact .inr (.inr h)
      ·exact .inr (.inl (.inr h))) (fun hf=>⟨(hfx hf).1,by rw[Ni];exact(hfx hf).2⟩)
     (fun hk hB v u hh=>NJ h0 (Ni ..) (fun i row' hr=>bP ts i row' hr) (Nat.lt_succ_self _) (fun _ h=>h) hB hk hh)
    have hsz:(a.eval z).cells.size=1:=by
     have:=CS.length g2
     rw[←hc.1,←this];simp
    refine⟨w2,Sf2,NM h hb e1 hsz m1,n1,by rw[Bu,g5.size],fun v u hh=>n2 v u (g5.claims v u hh), ?_⟩
    have hp2:=n2 _ _ (g5.claims _ _ hp)
    match ts,hc with
    | [t1],hc=>
     simp only[CS]at g2
     obtain⟨u,us',T1,T2,hus,hu1,hu2,hu3,hsp⟩:=g2
     rw[hu3.1]at hus
     match t1,hu2 with
     | .v _,_=>simp only[jp,A6]
     | .hole,_=>simp only[jp,A6]
     | .pp _,_=>simp only[jp,A6]
     | .fn _ _,_=>simp only[jp,A6]
     | .sl false _,_=>simp only[jp,A6]
     | .sl true rs,hu2=>
      obtain⟨q1,cap1,hq1,hos⟩:=FM.1 hu2
      have hz:a.eval z=u:=by
       have hv':=hv
       simp only[A6]at hv'
       obtain⟨_,⟨q0,c0,e0,_⟩,_⟩:=hv'
       rw[e0]at hus ⊢
       simpa [Value.cells] using hus
      have hcap:rs.length≤cap1:=by
       rcases hos with ⟨_,_,hh,_⟩|⟨_,_,_,_,_,_,_,hh,_⟩
       ·rw[hh];exact Nat.zero_le _
       ·exact hh.1
      rw[hus]at m1
      simp only[storeCells,DB,Nat.add_zero]at m1
      rw[Sem.run_bind,Vp (P:=P) l2 l3 hu1]at m1
      simp only[Result.andThen_ok]at m1
      have hw2:w2=w.setCell ⟨b',k',none⟩ u:=by
       have:(pure ():Sem Unit).run P (w.setCell ⟨b',k',none⟩ u)= .ok () w2:=m1
       simp at this
       exact this.symm
      have hcell:w2.cell? ⟨b',k',none⟩=some u:=by
       rw[hw2,(SW.set l2).cell _]
       simp[(Array.getElem?_eq_some_iff.1 l3).1]
      have hput:=(Bb.put p (t':= .sl true rs) (w':=w2) ho hgc hloc (fun x o' hne=>by
       rw[hw2]
       by_cases e:x=b'
       ·subst e
        rw[(SW.set l2).cell _,l2.cell _,Array.getElem?_setIfInBounds_ne (fun e=>hne ⟨rfl,e.symm⟩)]
       ·exact Et (X9 e) o')).1
      simp only[A6]at hp2
      rw[hz]
      simp only[jp,A6]
      refine⟨hp2.1,⟨q1,cap1,hq1,hcap⟩,fun rows' stt' fx' hg=> ?_⟩
      rw[AR (g5.claims _ _ hp |> fun hh=>by simp only[A6]at hh;exact hh.1)]at hg
      simp only[FA.mem.injEq]at hg
      obtain⟨rfl,rfl,rfl⟩:=hg
      exact⟨Nat.le_refl _,fun _=>⟨uD (show CR (Bn rows p i off (.sl true rs)) p i off=some (.sl true rs)from Nj hgc),fun rs' _ _=>⟨b',k',hput,hcell⟩⟩⟩
    | [],hc=>simp at hc
    |_::_::_,hc=>simp at hc
   ·simp[M.run]at g1
end
end TT
namespace TT
open Go
section
variable {P:Program} {c:Ctx} {w w':World} {B B' B2:Nat→Prop} {ρ ρ':Id→HG} {Sf:Id→Nat→Prop} {X:Nat→Prop} {r r' r0:R} {a:Act} {o:Oper} {ops:Array Oper} {Q:Exit→Act→World→Prop}
theorem A2b {s:List V} (hs:FO w B ρ r s a) {g:Option (Nat×Bool)} (hg:agG ops g o.guard=true) {b:Bool} (h:Hv s g=some b):Region.wanted o (yielded ops a.tmps)=b:=by
 unfold Region.wanted
 cases g with
 |none=>
  cases ho:o.guard with
  |none=>simp only[Hv,oi]at h;exact h
  |some q=>rw[ho]at hg;simp[agG]at hg
 |some q=>
  obtain⟨t,want⟩:=q
  cases ho:o.guard with
  |none=>rw[ho]at hg;simp[agG]at hg
  |some q'=>
   obtain⟨j,want'⟩:=q'
   rw[ho]at hg
   simp only[agG,bz,beq_iff_eq]at hg
   obtain⟨rfl,hg⟩:=hg
   cases hd:(ops[j]?).bind (·.dst)with
   |none=>rw[hd]at hg;cases hg
   |some t'=>
    rw[hd]at hg
    have:t=t':=by simpa using hg
    subst this
    have hy:yielded ops a.tmps j=(match a.tmps.getD t undef with| .bool b=>some b|_=>none):=by
     unfold yielded
     rw[hd,Option.bind_some]
     cases hh:a.tmps[t]? with
     |none=>simp[Array.getD,Array.getElem?_eq_none_iff.1 hh,undef];have:=Array.getElem?_eq_none_iff.1 hh;simp[Nat.not_lt.2 this]
     |some u=>simp[Array.getD_eq_getD_getElem?,hh];cases u<;>rfl
    have hv:=hs t
    simp only[Hv]at h
    simp only[hy]
    split at h
    ·rename_i b' he
     rw[he]at hv
     rw[(Df hv).1]
     simp only[oi]at h
     rw[←h]
     cases b'<;>cases want<;>rfl
    ·rename_i he
     rw[he]at hv
     simp only[A6]at hv
     obtain⟨us,e1,e2⟩:=hv
     rw[e1]
     simp only[oi]at h
     rw[←h]
     rfl
    ·cases h
theorem GQ {call:Ai} (hS:EY c.G P call) {i:Nat} {e:FD} (ho:ops[i]? =some o) (hag:agE P ops e o=true) {draw:Bool} {st st':St} (h:Dl call draw e st=some st') (hsim:HH c st a w) {K:Act→World→Prop} (hK:∀a' w',HH c st' a' w'→K a' w'):
  wpOp P ops Q i K a w:=by
 obtain⟨B,ρ,Sf,hI,hs,hz,hl,hd⟩:=hsim
 simp only[agE,bz,beq_iff_eq]at hag
 obtain⟨⟨h1,h2⟩,h3⟩:=hag
 unfold Dl at h
 obtain⟨b,hb,h⟩:=Option.bind_eq_some_iff.1 h
 have hw:=A2b (o:=o) hs h2 hb
 unfold wpOp
 rw[ho]
 simp only[hw]
 cases b with
 |false=>
  simp only[bf,if_false,oi]at h ⊢
  subst h
  refine hK _ _ ?_
  rw[←h1]
  have:=HH.fin (d:=e.d) (v:= .tup []) (u:=undef) hs hz hl hd hI rfl (fun _ _ h=>h) (by simp only[A6];exact⟨#[],rfl,by simp[AJ]⟩)
  exact this
 |true=>
  simp only[if_true]at h ⊢
  obtain⟨out,h4,h5⟩:=Option.map_eq_some_iff.1 h
  subst h5
  have hrun:(BL st.s (e.d.getD 0) e.o).run call (e.d.getD 0) st.r=some out:=by
   cases draw with
   |true=>exact RM (by simpa using h4)
   |false=>simpa using h4
  refine .inl ?_
  have hdo:=A2a hS h3 hrun hI hs
  unfold Oper.wp
  rw[h1]at hK
  rcases hdo with ⟨u,w',hy,B',ρ',Sf',g1,g2,g3,g4⟩|⟨w',hy,B',ρ',Sf',g1,g2,g3,g4⟩|⟨f,us,hy,hc⟩
  ·unfold PY at hy
   rw[hy,Oper.upon_value]
   exact hK _ _ (HH.fin hs hz hl hd g1 g2 g3 g4)
  ·unfold PZ at hy
   rw[hy,Oper.upon_skip]
   exact hK _ _ (HH.fin hs hz hl hd g1 g2 g3 g4)
  ·rw[hy,Oper.upon_enter]
   refine Calls.mono hc fun ee w' hp=> ?_
   cases ee with
   |returned v=>
    obtain⟨B',ρ',Sf',g1,g2,g3,g4⟩:=hp
    exact hK _ _ (HH.fin hs hz hl hd g1 g2 g3 g4)
   |panicked ch=>exact hp.elim
   |outgrown=>exact hp.elim
def agV (P:Program) (e:FD) (o:Oper):Bool:=match e.o,e.d,e.g,o.dst,o.guard,o.op with
 | .vst n (.s k) y,some k',none,none,none, .store t x' y'=>k==k'&&stB P t n&&Hu (.s k) x'&&Hu y y'
 | .stk x (.s k),some k',none,none,none, .store t x' y'=>k==k'&&stB P t 1&&Hu x x'&&Hu (.s k) y'
 |_,_,_,_,_,_=>false
theorem A2c {l:Array Value} {k:Nat}:l.setIfInBounds k (l.getD k undef)=l:=by
 apply Array.ext_getElem?
 intro i
 rw[Array.getElem?_setIfInBounds]
 split
 ·rename_i e
  subst e
  split
  ·rename_i h;simp[Array.getD,h]
  ·rename_i h;exact(Array.getElem?_eq_none_iff.2 (Nat.le_of_not_lt h)).symm
 ·rfl
theorem uY {a:Act} {k:Nat}:a.put (some k) (a.tmps.getD k undef)=a:=by
 show({ a with tmps:=a.tmps.setIfInBounds k (a.tmps.getD k undef) }:Act)=a
 rw[A2c]
theorem gY {call:Ai} {i:Nat} {e:FD} (ho:ops[i]? =some o) (hag:agV P e o=true) {draw:Bool} {st st':St} (h:Dl call draw e st=some st') (hsim:HH c st a w) {K:Act→World→Prop} (hK:∀a' w',HH c st' a' w'→K a' w'):
  wpOp P ops Q i K a w:=by
 obtain⟨B,ρ,Sf,hI,hs,hz,hl,hd⟩:=hsim
 unfold agV at hag
 split at hag
 ·rename_i n k y k' t x' y' e1 e2 e3 e4 e5 e6
  simp only[bz,beq_iff_eq]at hag
  obtain⟨⟨⟨rfl,h1⟩,h2⟩,h3⟩:=hag
  have hx:=hs.eval h2
  have hy:=hs.eval h3
  unfold Dl at h
  rw[e1,e2,e3]at h
  simp only[Hv,Option.bind_some,if_true]at h
  obtain⟨out,h4',h5⟩:=Option.map_eq_some_iff.1 h
  subst h5
  have h4:(BL st.s ((some k).getD 0) (.vst n (.s k) y)).run call ((some k).getD 0) st.r=some out:=by
   cases draw with
   |true=>exact RM (by simpa using h4')
   |false=>simpa using h4'
  have hw:Region.wanted o (yielded ops a.tmps)=true:=by unfold Region.wanted;rw[e5]
  unfold wpOp
  rw[ho]
  simp only[hw]
  simp only[BL]at h4
  split at h4
  ·rename_i id cs g1 g2
   rw[g2]at hy
   split at h4
   ·rename_i hc
    simp only[M.run]at h4
    split at h4
    ·rename_i row stt fx hg
     split at h4
     ·rename_i hrow
      simp only[M.run,oi]at h4
      subst h4
      obtain⟨w',Sf',k1,k2,k3,k4⟩:=A9K hI e6 h1 hy g1 hx hc.1 hc.2 hg hrow
      refine .inl ?_
      unfold Oper.wp
      unfold PZ at k1
      rw[k1,Oper.upon_skip,e4]
      have:=HH.fin (d:=some k) (v:= .vb id 0 (stt+1) cs) (u:=a.tmps.getD k undef) hs hz hl hd k2 (by rw[Bu]) k3 (by
       have hev:a.eval x'=a.tmps.getD k undef:=by
        cases x'<;>simp only[Hu,beq_iff_eq]at h2<;>first|(subst h2;rfl)|cases h2
       rw[←hev]
       exact k4)
      rw[uY]at this
      exact hK _ _ this
     ·simp[M.run]at h4
    ·simp[M.run]at h4
   ·simp[M.run]at h4
  ·simp[M.run]at h4
 ·rename_i x k k' t x' y' e1 e2 e3 e4 e5 e6
  simp only[bz,beq_iff_eq]at hag
  obtain⟨⟨⟨rfl,h1⟩,h2⟩,h3⟩:=hag
  have hx:=hs.eval h2
  have hy:=hs.eval h3
  unfold Dl at h
  rw[e1,e2,e3]at h
  simp only[Hv,Option.bind_some,if_true]at h
  obtain⟨out,h4',h5⟩:=Option.map_eq_some_iff.1 h
  subst h5
  have h4:(BL st.s ((some k).getD 0) (.stk x (.s k))).run call ((some k).getD 0) st.r=some out:=by
   cases draw with
   |true=>exact RM (by simpa using h4')
   |false=>simpa using h4'
  have hw:Region.wanted o (yielded ops a.tmps)=true:=by unfold Region.wanted;rw[e5]
  unfold wpOp
  rw[ho]
  simp only[hw]
  simp only[BL]at h4
  split at h4
  ·rename_i id p i off m st0 id2 n2 g1 g2
   rw[g1]at hx
   rw[g2]at hy
   obtain⟨w',Sf',k1,k2,k3,k4,k5⟩:=A9T hI e6 h1 hy hx h4
   refine .inl ?_
   unfold Oper.wp
   unfold PZ at k1
   rw[k1,Oper.upon_skip,e4]
   have:=HH.fin (d:=some k) (v:=out.1) (u:=a.tmps.getD k undef) hs hz hl hd k2 k3 k4 (by
    have hev:a.eval y'=a.tmps.getD k undef:=by
     cases y'<;>simp only[Hu,beq_iff_eq]at h3<;>first|(subst h3;rfl)|cases h3
    rw[←hev]
    exact k5)
   rw[uY]at this
   exact hK _ _ this
  ·simp[M.run]at h4
 ·cases hag
theorem cm {call:Ai} (hS:EY c.G P call):∀(es:List FD) (k:Nat) {st st':St} {a:Act} {w:World},(∀(j:Nat) e,es[j]? =some e→∃o,ops[k+j]? =some o∧(agE P ops e o||agV P e o)=true)→
  Cp call false es st=some st'→HH c st a w→(∀a' w',HH c st' a' w'→Q .normal a' w')→wpOps P ops Q (List.range' k es.length) a w
 | [],k,st,st',a,w,_,h,hsim,hK=>by
  simp only[Cp,oi]at h
  subst h
  exact hK _ _ hsim
 |e::es,k,st,st',a,w,hag,h,hsim,hK=>by
  simp only[Cp]at h
  obtain⟨st1,h1,h2⟩:=Option.bind_eq_some_iff.1 h
  obtain⟨o,ho,hago⟩:=hag 0 e rfl
  rw[List.length_cons,List.range'_succ,wpOps_cons]
  have rest:∀a' w',HH c st1 a' w'→wpOps P ops Q (List.range' (k+1) es.length) a' w':=fun a' w' hs'=>cm hS es (k+1) (fun j e' hj=>by
   obtain⟨o',e1,e2⟩:=hag (j+1) e' (by simpa using hj)
   exact⟨o',by rw[show k+1+j=k+(j+1) by omega];exact e1,e2⟩) h2 hs' hK
  rw[Bool.or_eq_true]at hago
  rcases hago with hago|hago
  ·exact GQ hS (by simpa using ho) hago h1 hsim rest
  ·exact gY (by simpa using ho) hago h1 hsim rest
end
def Ev : D2→List Nat
 | .s t=>[t]
 |_=>[]
def gZ : List D2→List Nat
 | []=>[]
 |x::xs=>Ev x++gZ xs
def A6C : Option D2→List Nat
 |none=>[]
 |some x=>Ev x
def rN : List (Nat×Nat×D2)→List Nat
 | []=>[]
 |x::xs=>Ev x.2.2++rN xs
def looks : O→List Nat
 | .mv x=>Ev x
 | .pick c a b=>Ev c++Ev a++Ev b
 | .alloc _=>[]
 | .box x=>Ev x
 | .vbox x=>Ev x
 | .vst _ x y=>Ev x++Ev y
 | .build _ ps=>rN ps
 | .bsl _ ps=>gZ ps
 | .bslz _ ps=>gZ ps
 | .ld _ _ x=>Ev x
 | .st _ x y=>Ev x++Ev y
 | .stk x y=>Ev x++Ev y
 | .ldr x=>Ev x
 | .appn _ _ _ s x=>Ev s++Ev x
 | .nilc x=>Ev x
 | .bin _ x y=>Ev x++Ev y
 | .eqs _ _ x y=>Ev x++Ev y
 | .beq _ x y=>Ev x++Ev y
 | .eqn _ x=>Ev x
 | .eqi _ x=>Ev x
 | .un _ x=>Ev x
 | .conv _ x=>Ev x
 | .mks _ _ x=>Ev x
 | .slc _ x lo hi=>Ev x++A6C lo++A6C hi
 | .vws x lo hi=>Ev x++A6C lo++A6C hi
 | .cut x y=>Ev x++Ev y
 | .cvo x=>Ev x
 | .aps _ s x=>Ev s++Ev x
 | .fa _ x=>Ev x
 | .fld _ _ _ x=>Ev x
 | .ia _ x i=>Ev x++Ev i
 | .ix x i=>Ev x++Ev i
 | .ixa _ _ _ x i=>Ev x++Ev i
 | .call _ _ _ as=>gZ as
 | .callv x _ _ as=>Ev x++gZ as
 | .app _ _ s x=>Ev s++Ev x
 | .len _ x=>Ev x
 | .mm _ x y=>Ev x++Ev y
 | .ext x _=>Ev x
 | .mkf _ caps=>gZ caps
def Nk (e:FD):List Nat:=looks e.o++(match e.g with|some (t,_)=>[t]|none=>[])
theorem AI {s s':List V} {x:D2} (h:∀t∈Ev x,s'.getD t .dead=s.getD t .dead):A9 s' x=A9 s x:=by
 cases x with
 |s t=>exact h t (by simp[Ev])
 |_=>rfl
theorem Kz {s s':List V}:∀{xs:List D2},(∀t∈gZ xs,s'.getD t .dead=s.getD t .dead)→xs.map (A9 s')=xs.map (A9 s)
 | [],h=>rfl
 |x::xs,h=>by
  simp only[gZ,List.mem_append]at h
  simp only[List.map_cons]
  rw[AI fun t ht=>h t (.inl ht),Kz fun t ht=>h t (.inr ht)]
theorem pw {s s':List V}:∀{xs:List (Nat×Nat×D2)} {z:List V},(∀t∈rN xs,s'.getD t .dead=s.getD t .dead)→bld s' z xs=bld s z xs
 | [],z,h=>rfl
 |x::xs,z,h=>by
  simp only[rN,List.mem_append]at h
  simp only[bld]
  rw[AI fun t ht=>h t (.inl ht)]
  split
  ·exact pw fun t ht=>h t (.inr ht)
  ·rfl
theorem ZQ {s s':List V} {d:Nat} {x:O} (h:∀t∈looks x,s'.getD t .dead=s.getD t .dead):BL s' d x=BL s d x:=by
 cases x<;>simp only[looks,List.mem_append]at h
 case mv x=>simp only[BL];rw[AI h]
 case pick p q t=>simp only[BL];rw[AI fun t ht=>h t (.inl (.inl ht)),AI fun t ht=>h t (.inl (.inr ht)),AI fun t ht=>h t (.inr ht)]
 case alloc=>simp only[BL]
 case box x=>simp only[BL];rw[AI h]
 case vbox x=>simp only[BL];rw[AI h]
 case vst n x y=>simp only[BL];rw[AI fun t ht=>h t (.inl ht),AI fun t ht=>h t (.inr ht)]
 case build z ps=>simp only[BL];rw[pw h]
 case bsl sz ps=>
  simp only[BL]
  have:=Kz h
  have h2:ps.map (fun q=>cellsOf (A9 s' q))=ps.map (fun q=>cellsOf (A9 s q)):=by
   have:=congrArg (List.map cellsOf) this
   simpa using this
  rw[h2]
 case bslz sz ps=>
  simp only[BL]
  have:=Kz h
  have h2:ps.map (fun q=>cellsOf (A9 s' q))=ps.map (fun q=>cellsOf (A9 s q)):=by
   have:=congrArg (List.map cellsOf) this
   simpa using this
  rw[h2]
 case ld n ag x=>simp only[BL];rw[AI h]
 case st n x y=>simp only[BL];rw[AI fun t ht=>h t (.inl ht),AI fun t ht=>h t (.inr ht)]
 case stk x y=>simp only[BL];rw[AI fun t ht=>h t (.inl ht),AI fun t ht=>h t (.inr ht)]
 case ldr x=>simp only[BL];rw[AI h]
 case appn q sz b x y=>simp only[BL];rw[AI fun t ht=>h t (.inl ht),AI fun t ht=>h t (.inr ht)]
 case nilc x=>simp only[BL];rw[AI h]
 case bin op x y=>simp only[BL];rw[AI fun t ht=>h t (.inl ht),AI fun t ht=>h t (.inr ht)]
 case eqs op ks x y=>simp only[BL];rw[AI fun t ht=>h t (.inl ht),AI fun t ht=>h t (.inr ht)]
 case beq op x y=>simp only[BL];rw[AI fun t ht=>h t (.inl ht),AI fun t ht=>h t (.inr ht)]
 case eqn ne x=>simp only[BL];rw[AI h]
 case eqi ne x=>simp only[BL];rw[AI h]
 case un op x=>simp only[BL];rw[AI h]
 case conv cv x=>simp only[BL];rw[AI h]
 case mks z b x=>simp only[BL];rw[AI h]
 case slc sz x lo hi=>
  have e1:=AI (x:=x) fun t ht=>h t (.inl (.inl ht))
  have e2:∀y,lo=some y→A9 s' y=A9 s y:=fun y hy=>AI fun t ht=>h t (.inl (.inr (by rw[hy];exact ht)))
  have e3:∀y,hi=some y→A9 s' y=A9 s y:=fun y hy=>AI fun t ht=>h t (.inr (by rw[hy];exact ht))
  cases lo<;>cases hi<;>simp only[BL,e1]<;>first|rfl|(simp only[e2 _ rfl,e3 _ rfl])|(simp only[e2 _ rfl])|(simp only[e3 _ rfl])
 case vws x lo hi=>
  have e1:=AI (x:=x) fun t ht=>h t (.inl (.inl ht))
  have e2:∀y,lo=some y→A9 s' y=A9 s y:=fun y hy=>AI fun t ht=>h t (.inl (.inr (by rw[hy];exact ht)))
  have e3:∀y,hi=some y→A9 s' y=A9 s y:=fun y hy=>AI fun t ht=>h t (.inr (by rw[hy];exact ht))
  cases lo<;>cases hi<;>simp only[BL,e1]<;>first|rfl|(simp only[e2 _ rfl,e3 _ rfl])|(simp only[e2 _ rfl])|(simp only[e3 _ rfl])
 case cut x y=>simp only[BL];rw[AI fun t ht=>h t (.inl ht),AI fun t ht=>h t (.inr ht)]
 case cvo x=>simp only[BL];rw[AI h]
 case aps b x y=>simp only[BL];rw[AI fun t ht=>h t (.inl ht),AI fun t ht=>h t (.inr ht)]
 case fa off x=>simp only[BL];rw[AI h]
 case fld off n ag x=>simp only[BL];rw[AI h]
 case ia sz x i=>simp only[BL];rw[AI fun t ht=>h t (.inl ht),AI fun t ht=>h t (.inr ht)]
 case ix x i=>simp only[BL];rw[AI fun t ht=>h t (.inl ht),AI fun t ht=>h t (.inr ht)]
 case ixa sz len ag x i=>simp only[BL];rw[AI fun t ht=>h t (.inl ht),AI fun t ht=>h t (.inr ht)]
 case call f md own as=>simp only[BL];rw[Kz h]
 case callv x md own as=>simp only[BL];rw[AI fun t ht=>h t (.inl ht),Kz fun t ht=>h t (.inr ht)]
 case app sz b x y=>simp only[BL];rw[AI fun t ht=>h t (.inl ht),AI fun t ht=>h t (.inr ht)]
 case len str x=>simp only[BL];rw[AI h]
 case mm mx x y=>simp only[BL];rw[AI fun t ht=>h t (.inl ht),AI fun t ht=>h t (.inr ht)]
 case ext x i=>simp only[BL];rw[AI h]
 case mkf f caps=>simp only[BL];rw[Kz h]
theorem WY {r:R} {id:Id} {e:FA} {t:Nat} (h:t≠id.1):(C3 r id e).getD t []=r.getD t []:=by rw[Pe,if_neg h]
theorem cn {r:R} {d t:Nat} {es:List FA} (hd:d<r.length):(r.set d es).getD t []=if t=d then es else r.getD t []:=by
 simp only[List.getD,List.getElem?_set]
 by_cases h:d=t
 ·subst h;simp[hd]
 ·rw[if_neg h,if_neg (fun e=>h e.symm)]
theorem KL {α:Type} {call:Ai} {d:Nat} {rd wr:List Nat}:∀{m:M α} {r r2:R} {v:α} {r':R},m.runA call d rd wr r=some (v,r')→r2.length=r.length→(∀t,t∈rd∨t∈wr→r2.getD t []=r.getD t [])→
  ∃r2',m.runA call d rd wr r2=some (v,r2')∧r2'.length=r2.length∧r'.length=r.length∧(∀t,t∈rd∨t∈wr→r2'.getD t []=r'.getD t [])∧(∀t,t∉wr→r2'.getD t []=r2.getD t [])∧(∀t,t∉wr→r'.getD t []=r.getD t [])
 | .ret x,r,r2,v,r',h,hl,ha=>by
  simp only[M.runA,oi,Prod.mk.injEq]at h ⊢
  obtain⟨rfl,rfl⟩:=h
  exact⟨r2,⟨rfl,rfl⟩,rfl,rfl,ha,fun _ _=>rfl,fun _ _=>rfl⟩
 | .fail,r,r2,v,r',h,hl,ha=>by simp[M.runA]at h
 | .get id k,r,r2,v,r',h,hl,ha=>by
  simp only[M.runA]at h ⊢
  split at h
  ·rename_i hc
   have hm:id.1∈rd∨id.1∈wr:=by simpa using hc
   have he:Ac r2 id=Ac r id:=by simp only[Ac,ha _ hm]
   rw[if_pos hc,he]
   exact KL h hl ha
  ·cases h
 | .set id e m,r,r2,v,r',h,hl,ha=>by
  simp only[M.runA]at h ⊢
  split at h
  ·rename_i hc
   rw[if_pos hc]
   have hm:id.1∈wr:=by simpa using hc
   obtain⟨r2',g1,g2,g3,g4,g5,g6⟩:=KL (r2:=C3 r2 id e) h (by simp only[Bu,hl]) (fun t ht=>by
    rw[Pe,Pe]
    split
    ·rename_i e1;rw[ha t ht]
    ·exact ha t ht)
   refine⟨r2',g1,by rw[g2,Bu],by rw[g3,Bu],g4,fun t ht=> ?_,fun t ht=> ?_⟩
   ·rw[g5 t ht,WY (fun e1:t=id.1=>ht (e1▸hm))]
   ·rw[g6 t ht,WY (fun e1:t=id.1=>ht (e1▸hm))]
  ·cases h
 | .new es m,r,r2,v,r',h,hl,ha=>by
  simp only[M.runA]at h ⊢
  split at h
  ·rename_i hc
   have hc':=hc
   simp only[bz,decide_eq_true_eq]at hc
   obtain⟨h1,h2,h3⟩:=hc
   have hm:d∈wr:=by simpa using h1
   have h2':d<r2.length:=by omega
   rw[if_pos (by
    simp only[bz,decide_eq_true_eq]
    exact⟨h1,h2',by rw[ha d (.inr hm)];exact h3⟩)]
   obtain⟨r2',g1,g2,g3,g4,g5,g6⟩:=KL (r2:=r2.set d es) h (by simp only[List.length_set,hl]) (fun t ht=>by
    rw[cn h2',cn h2]
    split
    ·rfl
    ·exact ha t ht)
   refine⟨r2',g1,by rw[g2,List.length_set],by rw[g3,List.length_set],g4,fun t ht=> ?_,fun t ht=> ?_⟩
   ·rw[g5 t ht,cn h2',if_neg (fun e1:t=d=>ht (e1▸hm))]
   ·rw[g6 t ht,cn h2,if_neg (fun e1:t=d=>ht (e1▸hm))]
  ·cases h
 | .call f args k,r,r2,v,r',h,hl,ha=>by
  simp only[M.runA]at h ⊢
  obtain⟨res,h1,h2⟩:=Option.bind_eq_some_iff.1 h
  rw[h1,Option.bind_some]
  exact KL h2 hl ha
def rO (a b:List Nat):Bool:=a.all fun x=> !b.contains x
theorem ga {a b:List Nat} (h:rO a b=true):∀x∈a,x∉b:=by
 intro x hx
 simp only[rO,List.all_eq_true,Bool.not_eq_true']at h
 have:=h x hx
 simpa using this
def A2d (x y:FD):Bool:=match x.o,y.o,x.d,y.d with
 | .ldr _, .appn q _ _ _ _,some dx,some dy=>x.rd==[q]&&x.wr.isEmpty&&x.g.isNone&&y.g.isNone&&dx != dy&&dy != q&& !(Nk y).contains dx&& !(Nk x).contains dy
 |_,_,_,_=>false
def rP (x y:FD):Bool:=
 (match x.d with|some d=> !(Nk y).contains d&&y.d != some d|none=>true)&&(match y.d with|some d=> !(Nk x).contains d|none=>true)&&rO x.wr (y.rd++y.wr)&&rO y.wr x.rd
def Xy (x y:FD):Bool:=rP x y||A2d x y
theorem xU {x y:FD} (h:rP x y=true):(∀d,x.d=some d→d∉Nk y)∧(∀d,x.d=some d→y.d≠some d)∧(∀d,y.d=some d→d∉Nk x)∧(∀t∈x.wr,t∉y.rd∧t∉y.wr)∧(∀t∈y.wr,t∉x.rd):=by
 simp only[rP,bz]at h
 obtain⟨⟨⟨h1,h2⟩,h3⟩,h4⟩:=h
 refine⟨fun d hd=> ?_,fun d hd=> ?_,fun d hd=> ?_,fun t ht=> ?_,ga h4⟩
 ·rw[hd]at h1;simp only[bz,Bool.not_eq_true']at h1;simpa using h1.1
 ·rw[hd]at h1;simp only[bz,bne_iff_ne]at h1;exact h1.2
 ·rw[hd]at h2;simpa using h2
 ·have:=ga h3 t ht;rw[List.mem_append,not_or]at this;exact this
theorem Tl {st:St} {d:Option Nat} {v:V} {t:Nat} (h:d≠some t):((st.put d v).s).getD t .dead=st.s.getD t .dead:=by
 cases d with
 |none=>rfl
 |some d=>
  have:d≠t:=fun e=>h (by rw[e])
  simp only[St.put,List.getD,List.getElem?_set]
  rw[if_neg this]
theorem pz {st:St} {d:Option Nat} {v:V}:(st.put d v).r=st.r:=by cases d<;>rfl
theorem zm {st:St} {d:Option Nat} {v:V} {r:R}:(({ st with r:=r }:St).put d v)={ (st.put d v)with r:=r }:=by cases d<;>rfl
theorem gb {s s':List V} {g:Option (Nat×Bool)} (h:∀t w,g=some (t,w)→s'.getD t .dead=s.getD t .dead):Hv s' g=Hv s g:=by
 cases g with
 |none=>rfl
 |some q=>obtain⟨t,w⟩:=q;simp only[Hv];rw[h t w rfl]
theorem H9 {call:Ai} {e:FD} {st st':St}:Dl call true e st=some st'↔(∃v r',Hv st.s e.g=some true∧(BL st.s (e.d.getD 0) e.o).runA call (e.d.getD 0) e.rd e.wr st.r=some (v,r')∧st'=({ st with r:=r' }:St).put e.d v)∨
  (Hv st.s e.g=some false∧st'=st.put e.d (.tup [])):=by
 unfold Dl
 constructor
 ·intro h
  obtain⟨b,hb,h⟩:=Option.bind_eq_some_iff.1 h
  cases b with
  |true=>
   simp only[if_true]at h
   obtain⟨q,h1,h2⟩:=Option.map_eq_some_iff.1 h
   exact .inl ⟨q.1,q.2,hb,h1,h2.symm⟩
  |false=>
   simp only[bf,if_false,oi]at h
   exact .inr ⟨hb,h.symm⟩
 ·rintro (⟨v,r',hb,h1,h2⟩|⟨hb,h2⟩)
  ·rw[hb,Option.bind_some]
   simp only[if_true,h1,Option.map_some,h2]
  ·rw[hb,Option.bind_some]
   simp[h2]
theorem ABL {r r':R} (hl:r.length=r'.length) (h:∀t,r.getD t []=r'.getD t []):r=r':=by
 apply List.ext_getElem hl
 intro i h1 h2
 have:=h i
 simpa [List.getD,h1,h2] using this
theorem Xz {s:List V} {d1 d2:Option Nat} {v1 v2:V} {r:R} (h:∀d,d1=some d→d2≠some d):((⟨s,r⟩:St).put d1 v1).put d2 v2=((⟨s,r⟩:St).put d2 v2).put d1 v1:=by
 cases d1 with
 |none=>rfl
 |some d=>cases d2 with
  |none=>rfl
  |some d'=>
   have:d≠d':=fun e=>h d rfl (by rw[e])
   simp only[St.put,St.mk.injEq,and_true]
   exact List.set_comm _ _ this
theorem xV {call:Ai} {x y:FD} (hc:rP x y=true) {st s1 s2:St} (h1:Dl call true x st=some s1) (h2:Dl call true y s1=some s2):∃s1',Dl call true y st=some s1'∧Dl call true x s1'=some s2:=by
 obtain⟨c1,c2,c3,c4,c5⟩:=xU hc
 have hgx:∀{st:St} {v:V},Hv ((st.put y.d v).s) x.g=Hv st.s x.g:=fun{st v}=>gb fun t w e=>Tl (fun e'=>c3 t e' (by simp[Nk,e]))
 have hgy:∀{st:St} {v:V},Hv ((st.put x.d v).s) y.g=Hv st.s y.g:=fun{st v}=>gb fun t w e=>Tl (fun e'=>c1 t e' (by simp[Nk,e]))
 have hsx:∀{st:St} {v:V} {d:Nat},BL ((st.put y.d v).s) d x.o=BL st.s d x.o:=fun{st v d}=>ZQ fun t ht=>Tl (fun e'=>c3 t e' (by simp[Nk,ht]))
 have hsy:∀{st:St} {v:V} {d:Nat},BL ((st.put x.d v).s) d y.o=BL st.s d y.o:=fun{st v d}=>ZQ fun t ht=>Tl (fun e'=>c1 t e' (by simp[Nk,ht]))
 obtain⟨s,r⟩:=st
 rcases H9.1 h1 with ⟨v1,r1,g1,m1,e1⟩|⟨g1,e1⟩<;>rcases H9.1 h2 with ⟨v2,r2,g2,m2,e2⟩|⟨g2,e2⟩
 ·subst e1
  rw[hgy]at g2
  rw[hsy,pz]at m2
  obtain⟨ry,n1,n2,n3,n4,n5,n6⟩:=KL (r2:=r) m2 (by
   obtain⟨_,_,_,f3,_⟩:=KL (r2:=r) m1 rfl (fun _ _=>rfl)
   exact f3.symm) (fun t ht=>by
   obtain⟨_,_,_,_,_,_,f6⟩:=KL (r2:=r) m1 rfl (fun _ _=>rfl)
   refine(f6 t fun hx=> ?_).symm
   have:=c4 t hx
   rcases ht with ht|ht
   ·exact this.1 ht
   ·exact this.2 ht)
  obtain⟨rx,k1,k2,k3,k4,k5,k6⟩:=KL (r2:=ry) m1 n2 (fun t ht=>n5 t fun hy=>by
   rcases ht with ht|ht
   ·exact c5 t hy ht
   ·exact(c4 t ht).2 hy)
  have hr:rx=r2:=by
   refine ABL (by rw[k2,n2,n3,k3]) fun t=> ?_
   by_cases hx:t∈x.wr
   ·rw[k4 t (.inr hx),n6 t fun hy=>(c4 t hx).2 hy]
   ·rw[k5 t hx]
    by_cases hy:t∈y.wr
    ·exact n4 t (.inr hy)
    ·rw[n5 t hy,n6 t hy,k6 t hx]
  subst hr
  refine⟨({ s:=s,r:=ry }:St).put y.d v2,H9.2 (.inl ⟨v2,ry,g2,n1,rfl⟩),H9.2 (.inl ⟨v1,rx,by rw[hgx];exact g1,by rw[hsx,pz];exact k1, ?_⟩)⟩
  rw[e2,zm,zm,zm,zm]
  have:=Xz (s:=s) (v1:=v1) (v2:=v2) (r:=rx) c2
  cases hd1:x.d<;>cases hd2:y.d<;>simp only[hd1,hd2,St.put]at this ⊢ <;>exact this
 ·subst e1
  rw[hgy]at g2
  refine⟨({ s:=s,r:=r }:St).put y.d (.tup []),H9.2 (.inr ⟨g2,rfl⟩),H9.2 (.inl ⟨v1,r1,by rw[hgx];exact g1,by rw[hsx,pz];exact m1, ?_⟩)⟩
  rw[e2]
  have:=Xz (s:=s) (v1:=v1) (v2:= .tup []) (r:=r1) c2
  cases hd1:x.d<;>cases hd2:y.d<;>simp only[hd1,hd2,St.put]at this ⊢ <;>exact this
 ·subst e1
  rw[hgy]at g2
  rw[hsy,pz]at m2
  refine⟨({ s:=s,r:=r2 }:St).put y.d v2,H9.2 (.inl ⟨v2,r2,g2,m2,rfl⟩),H9.2 (.inr ⟨by rw[hgx];exact g1, ?_⟩)⟩
  rw[e2]
  have:=Xz (s:=s) (v1:= .tup []) (v2:=v2) (r:=r2) c2
  cases hd1:x.d<;>cases hd2:y.d<;>simp only[hd1,hd2,St.put]at this ⊢ <;>exact this
 ·subst e1
  rw[hgy]at g2
  refine⟨({ s:=s,r:=r }:St).put y.d (.tup []),H9.2 (.inr ⟨g2,rfl⟩),H9.2 (.inr ⟨by rw[hgx];exact g1, ?_⟩)⟩
  rw[e2]
  exact Xz c2
def gc (q:Nat) (r r2:R):Prop:=∀id:Id,id.1=q→∀rows stt fx,Ac r id= .mem rows stt fx→∃rows2,Ac r2 id= .mem rows2 stt fx∧rows2.length=rows.length∧
 ∀(i c:Nat) row t,rows[i]? =some row→row[c]? =some t→∃row2 t2,rows2[i]? =some row2∧row2[c]? =some t2∧(t2=t∨∃a b:Rows,t= .sl true a∧t2= .sl true b∧a.length=b.length)
theorem gc.refl (q:Nat) (r:R):gc q r r:=fun id _ rows stt fx h=>⟨rows,h,rfl,fun i c row t h1 h2=>⟨row,t,h1,h2, .inl rfl⟩⟩
theorem gc.other {q:Nat} {r r1 r2:R} (h:gc q r r1) (h2:∀id:Id,id.1=q→Ac r2 id=Ac r1 id):gc q r r2:=fun id hid rows stt fx hg=>by
 obtain⟨rows2,g1,g2⟩:=h id hid rows stt fx hg
 exact⟨rows2,by rw[h2 id hid];exact g1,g2⟩
theorem xW {r:R} {id id':Id} {e:FA} (h:id.1≠id'.1):Ac (C3 r id e) id'=Ac r id':=by
 simp only[Ac,WY (fun e1:id'.1=id.1=>h e1.symm)]
theorem xX {id:Id} {p:Path} {i c st:Nat} {t t2:T} (h:t2=t∨∃a b:Rows,t= .sl true a∧t2= .sl true b∧a.length=b.length):Lq id p i c st t2=Lq id p i c st t:=by
 rcases h with h|⟨a,b,rfl,rfl,h⟩
 ·rw[h]
 ·simp only[Lq,h]
theorem q7 {call:Ai} {s:List V} {d q:Nat} {x:D2} {r r2 r':R} {v:V} (h:(BL s d (.ldr x)).runA call d [q] [] r=some (v,r')) (hk:gc q r r2):r'=r∧(BL s d (.ldr x)).runA call d [q] [] r2=some (v,r2):=by
 simp only[BL]at h ⊢
 split at h
 case h_2=>simp[M.runA]at h
 rename_i id p i off m st he
 split at h
 case isFalse=>simp[M.runA]at h
 rename_i hp
 subst hp
 rw[if_pos rfl]
 simp only[M.runA]at h ⊢
 split at h
 case isFalse=>cases h
 rename_i hc
 rw[if_pos hc]
 have hid:id.1=q:=by simpa using hc
 cases hg:Ac r id with
 |dead=>rw[hg]at h;simp[M.runA]at h
 |mem rows stt fx=>
  obtain⟨rows2,g1,g2,g3⟩:=hk id hid rows stt fx hg
  rw[hg]at h
  rw[g1]
  simp only[Dw]at h ⊢
  rw[g2]
  by_cases hl:rows.length=m
  ·rw[if_pos hl]at h ⊢
   cases hr:rows[i]? with
   |none=>rw[hr]at h;simp[M.runA]at h
   |some row=>
    rw[hr]at h
    simp only at h
    cases ht:row[off]? with
    |none=>rw[ht]at h;simp[M.runA]at h
    |some t=>
     rw[ht]at h
     simp only[M.runA,oi,Prod.mk.injEq]at h
     obtain⟨row2,t2,k1,k2,k3⟩:=g3 i off row t hr ht
     refine⟨h.2.symm, ?_⟩
     rw[k1]
     simp only[k2,M.runA,xX k3,h.1]
  ·rw[if_neg hl]at h;simp[M.runA]at h
theorem A2e {rows:Rows} {i0 c0:Nat} {p:Path} {i c:Nat} {t:T}:(Bn rows ((i0,c0)::p) i c t).length=rows.length∧∀(j k:Nat) row u,rows[j]? =some row→row[k]? =some u→∃row2 u2,(Bn rows ((i0,c0)::p) i c t)[j]? =some row2∧row2[k]? =some u2∧(u2=u∨∃a b:Rows,u= .sl true a∧u2= .sl true b∧a.length=b.length):=by
 refine⟨BZ ..,fun j k row u hj hk=> ?_⟩
 simp only[Bn]
 cases hrc:rows[i0]?.bind (·[c0]?)with
 |none=>exact⟨row,u,hj,hk, .inl rfl⟩
 |some t0=>
  match t0,hrc with
  | .v _,_=>exact⟨row,u,hj,hk, .inl rfl⟩
  | .hole,_=>exact⟨row,u,hj,hk, .inl rfl⟩
  | .pp _,_=>exact⟨row,u,hj,hk, .inl rfl⟩
  | .fn _ _,_=>exact⟨row,u,hj,hk, .inl rfl⟩
  | .sl false _,_=>exact⟨row,u,hj,hk, .inl rfl⟩
  | .sl true rows1,hrc=>
   obtain⟨row0,h1,h2⟩:=Option.bind_eq_some_iff.1 hrc
   simp only[ID,h1]
   by_cases e:i0=j
   ·subst e
    rw[h1]at hj
    cases hj
    have hlt:=(List.getElem?_eq_some_iff.1 h1).1
    refine⟨row.set c0 (.sl true (Bn rows1 p i c t)), ?_⟩
    by_cases e2:c0=k
    ·subst e2
     rw[h2]at hk
     cases hk
     have hlt2:=(List.getElem?_eq_some_iff.1 h2).1
     exact⟨.sl true (Bn rows1 p i c t),by simp[hlt],by simp[hlt2], .inr ⟨_,_,rfl,rfl,(BZ ..).symm⟩⟩
    ·exact⟨u,by simp[hlt],by rw[List.getElem?_set_ne e2];exact hk, .inl rfl⟩
   ·exact⟨row,u,by rw[List.getElem?_set_ne e];exact hj,hk, .inl rfl⟩
theorem xY {call:Ai} {s:List V} {d q sz byt:Nat} {a x:D2} {rd wr:List Nat} {r r':R} {v:V} (hd:d≠q) (h:(BL s d (.appn q sz byt a x)).runA call d rd wr r=some (v,r')):gc q r r':=by
 simp only[BL]at h
 split at h
 case h_2=>simp[M.runA]at h
 rename_i id p i c n st id2 n2 h1 h2
 split at h
 case isFalse=>simp[M.runA]at h
 rename_i hc
 obtain⟨hp,hq,hq2⟩:=hc
 simp only[IT,take,M.runA]at h
 split at h
 case isFalse=>cases h
 cases hg2:Ac r id2 with
 |dead=>rw[hg2]at h;simp[M.runA]at h
 |mem rows2 stt2 fx2=>
  rw[hg2]at h
  simp only at h
  split at h
  case isFalse=>simp[M.runA]at h
  simp only[M.runA]at h
  split at h
  case isFalse=>cases h
  split at h
  case isFalse=>simp[M.runA]at h
  simp only[M.runA]at h
  split at h
  case isFalse=>cases h
  have e1:∀id':Id,id'.1=q→Ac (C3 r id2 .dead) id'=Ac r id':=fun id' hid'=>xW (by rw[hid'];exact hq2)
  rw[e1 id hq]at h
  cases hg:Ac r id with
  |dead=>rw[hg]at h;simp[M.runA]at h
  |mem rows stt fx=>
   rw[hg]at h
   simp only at h
   split at h
   case isFalse=>simp[M.runA]at h
   split at h
   case h_2=>simp[M.runA]at h
   split at h
   case isFalse=>simp[M.runA]at h
   simp only[M.runA]at h
   split at h
   case isFalse=>cases h
   split at h
   case isFalse=>simp[M.runA]at h
   simp only[M.runA]at h
   split at h
   case isFalse=>cases h
   simp only[oi,Prod.mk.injEq]at h
   obtain⟨_,rfl⟩:=h
   obtain⟨⟨i0,c0⟩,p',rfl⟩:∃x p',p=x::p':=by cases p with|nil=>exact absurd rfl hp|cons x p'=>exact⟨x,p',rfl⟩
   intro id' hid' rows' stt' fx' hg'
   have hd':∀R':R,∀es,Ac (R'.set d es) id'=Ac R' id':=fun R' es=>by
    have:id'.1≠d:=fun e=>hd (by rw[←e,hid'])
    simp only[Ac,List.getD,List.getElem?_set]
    rw[if_neg (fun e=>this e.symm)]
   rw[hd']
   by_cases e:id'=id
   ·subst e
    rw[hg]at hg'
    cases hg'
    have hth:Au (C3 r id2 .dead) id':=by
     have h3:=e1 id' hid'
     rw[hg]at h3
     unfold Au
     rcases Nat.lt_or_ge id'.2 ((C3 r id2 .dead).getD id'.1 []).length with h4|h4
     ·exact h4
     ·have h5:Ac (C3 r id2 .dead) id'= .dead:=by
       show((C3 r id2 .dead).getD id'.1 []).getD id'.2 .dead= .dead
       generalize (C3 r id2 .dead).getD id'.1 []=l at h4
       simp[List.getD,List.getElem?_eq_none h4]
      rw[h5]at h3
      cases h3
    rw[AR hth]
    obtain⟨k1,k2⟩:=A2e (rows:=rows) (i0:=i0) (c0:=c0) (p:=p') (i:=i) (c:=c) (t:= .hole)
    exact⟨_,rfl,k1,k2⟩
   ·rw[AX (fun e'=>e e'.symm)]
    rw[e1 id' hid',hg']
    exact⟨rows',rfl,rfl,fun i c row t a1 a2=>⟨row,t,a1,a2, .inl rfl⟩⟩
theorem xZ {call:Ai} {x y:FD} (hc:A2d x y=true) {st s1 s2:St} (h1:Dl call true x st=some s1) (h2:Dl call true y s1=some s2):∃s1',Dl call true y st=some s1'∧Dl call true x s1'=some s2:=by
 unfold A2d at hc
 split at hc
 case h_2=>cases hc
 rename_i ox q sz byt a b dx dy ex ey edx edy
 simp only[bz,beq_iff_eq,bne_iff_ne,Bool.not_eq_true',ne_eq]at hc
 obtain⟨⟨⟨⟨⟨⟨⟨c1,c2⟩,c3⟩,c4⟩,c5⟩,c6⟩,c7⟩,c8⟩:=hc
 have c2':x.wr=[]:=by simpa using c2
 have c3':x.g=none:=by simpa using c3
 have c4':y.g=none:=by simpa using c4
 have c7':dx∉Nk y:=by simpa using c7
 have c8':dy∉Nk x:=by simpa using c8
 obtain⟨s,r⟩:=st
 have gnone:∀{e:FD} {st st':St},e.g=none→(Dl call true e st=some st'↔∃v r',(BL st.s (e.d.getD 0) e.o).runA call (e.d.getD 0) e.rd e.wr st.r=some (v,r')∧st'=({ st with r:=r' }:St).put e.d v):=by
  intro e st st' hg
  rw[H9,hg]
  simp[Hv]
 obtain⟨v1,r1,m1,e1⟩:=(gnone c3').1 h1
 obtain⟨v2,r2,m2,e2⟩:=(gnone c4').1 h2
 rw[edx,ex,c1,c2']at m1
 subst e1
 rw[edx]at m2 e2
 have hsy:BL (({ s:=s,r:=r1 }:St).put (some dx) v1).s (y.d.getD 0) y.o=BL s (y.d.getD 0) y.o:=ZQ fun t ht=>Tl (st:={ s:=s,r:=r1 }) (fun e'=>c7' (by have:=Option.some.inj e';subst this;simp[Nk,ht]))
 rw[hsy,pz]at m2
 have hr1:r1=r:=(q7 m1 (gc.refl q r)).1
 subst hr1
 rw[edy,ey]at m2
 have hk:=xY (by simpa using c6) m2
 obtain⟨_,k2⟩:=q7 m1 hk
 refine⟨({ s:=s,r:=r2 }:St).put (some dy) v2,(gnone c4').2 ⟨v2,r2,by rw[edy,ey];exact m2,by rw[edy]⟩,(gnone c3').2 ⟨v1,r2, ?_, ?_⟩⟩
 ·have hsx:BL (({ s:=s,r:=r2 }:St).put (some dy) v2).s (x.d.getD 0) x.o=BL s (x.d.getD 0) x.o:=ZQ fun t ht=>Tl (st:={ s:=s,r:=r2 }) (fun e'=>c8' (by have:=Option.some.inj e';subst this;simp[Nk,ht]))
  rw[hsx,pz,edx,ex,c1,c2']
  exact k2
 ·rw[e2,edy,edx]
  have:=Xz (s:=s) (d1:=some dx) (d2:=some dy) (v1:=v1) (v2:=v2) (r:=r2) (fun d hd'=>by simp only[oi]at hd';subst hd';simp only[oi,ne_eq];exact fun e=>c5 e.symm)
  simpa [St.put] using this
theorem Vt {call:Ai} {x y:FD} (hc:Xy x y=true) {st s1 s2:St} (h1:Dl call true x st=some s1) (h2:Dl call true y s1=some s2):∃s1',Dl call true y st=some s1'∧Dl call true x s1'=some s2:=by
 rw[Xy,Bool.or_eq_true]at hc
 rcases hc with hc|hc
 ·exact xV hc h1 h2
 ·exact xZ hc h1 h2
end TT
namespace TT
open Go
theorem rQ (w:World) {a b:Addr} (h:a.block≠b.block) (u v:Value):(w.setCell a u).setCell b v=(w.setCell b v).setCell a u:=by
 unfold World.setCell
 simp only[World.mk.injEq,and_true]
 apply Array.ext_getElem?
 intro i
 simp only[Array.getElem?_modify]
 by_cases e1:a.block=i
 ·subst e1
  have e2:¬b.block=a.block:=fun e=>h e.symm
  simp[e2]
 ·by_cases e2:b.block=i
  ·subst e2;simp[e1]
  ·simp[e1,e2]
theorem Y0 {w:World} {a b:Addr} (h:a.block≠b.block) (u:Value):(w.setCell a u).heap[b.block]? =w.heap[b.block]? :=by
 simp[World.setCell,Array.getElem?_modify,h]
theorem cr {w:World} {a b:Addr} (h:a.block≠b.block) (u:Value):(w.setCell a u).cell? b=w.cell? b:=by
 unfold World.cell?;rw[Y0 h]
theorem kL {w:World} {a b:Addr} (h:a.block≠b.block) (u:Value):(w.setCell a u).frozen? b=w.frozen? b:=by
 unfold World.frozen?;rw[Y0 h]
section
variable {P:Program}
theorem uZ {a:Addr} {u u0:Value} (h1:u.oneCell'=true) {w w1:World} (hc:w.cell? a=some u0) (h:(store a u).run P w= .ok () w1):w1=w.setCell a u∧w.frozen? a=false:=by
 rw[run_store P w _ u .plain h1,hc]at h
 simp only at h
 split at h
 ·cases h
 ·rename_i hf
  injection h with _ h
  exact⟨h.symm,by simpa using hf⟩
theorem ua {a:Addr} {u u0:Value} (h1:u.oneCell'=true) {w:World} (hc:w.cell? a=some u0) (hf:w.frozen? a=false):(store a u).run P w= .ok () (w.setCell a u):=by
 rw[run_store P w _ u .plain h1,hc]
 simp[hf]
theorem gh {b k:Nat} {ad:Addr} (hne:ad.block≠b) {v v0:Value} (hv:v.oneCell'=true):∀(us:List Value) (j:Nat) {w w1 w2:World} {cur:Array Value} {e:TypeId},(∀u∈us,u.oneCell'=true)→
  SW w b cur e→k+j+us.length≤cur.size→(storeCells ⟨b,k,none⟩ us j).run P w= .ok () w1→w.cell? ad=some v0→(store ad v).run P w1= .ok () w2→
  (store ad v).run P w= .ok () (w.setCell ad v)∧(storeCells ⟨b,k,none⟩ us j).run P (w.setCell ad v)= .ok () w2
 | [],j,w,w1,w2,cur,e,hu,hb,hl,hr,hc,hs=>by
  have:w1=w:=by
   have hrun':(pure ():Sem Unit).run P w= .ok () w1:=hr
   simp at hrun'
   exact hrun'.symm
  subst this
  obtain⟨h1,h2⟩:=uZ hv hc hs
  subst h1
  refine⟨ua hv hc h2, ?_⟩
  show(pure ():Sem Unit).run P _=_
  simp
 |u::us,j,w,w1,w2,cur,e,hu,hb,hl,hr,hc,hs=>by
  have hj:k+j<cur.size:=by simp at hl;omega
  have h0:=Vp (P:=P) (k:=k+j) hb (show cur[k+j]? =some cur[k+j] by simp[hj]) (hu u (List.mem_cons_self ..))
  simp only[storeCells,DB]at hr
  rw[Sem.run_bind,h0]at hr
  have hne1:(⟨b,k+j,none⟩:Addr).block≠ad.block:=fun e=>hne e.symm
  obtain⟨g1,g2⟩:=gh (k:=k) hne hv us (j+1) (fun u hu'=>hu u (List.mem_cons_of_mem _ hu')) hb.set (by simp at hl ⊢;omega) hr (by rw[cr hne1];exact hc) hs
  have hf:w.frozen? ad=false:=by
   have:=(uZ hv (by rw[cr hne1];exact hc) g1).2
   rwa [kL hne1]at this
  refine⟨ua hv hc hf, ?_⟩
  have hb':SW (w.setCell ad v) b cur e:=hb.same (by rw[show b=(⟨b,k,none⟩:Addr).block from rfl,Y0 (b:=⟨b,k,none⟩) hne])
  have h0':=Vp (P:=P) (k:=k+j) hb' (show cur[k+j]? =some cur[k+j] by simp[hj]) (hu u (List.mem_cons_self ..))
  simp only[storeCells,DB]
  rw[Sem.run_bind,h0']
  show(storeCells ⟨b,k,none⟩ us (j+1)).run P _=_
  rw[rQ w (b:=⟨b,k+j,none⟩) hne v u]
  exact g2
end
end TT
namespace TT
open Go
section
variable {P:Program} {c:Ctx} {w w':World} {a:Act} {o:Oper} {ops:Array Oper} {Q:Exit→Act→World→Prop} {call:Ai} {es:List FD}
def xa (call:Ai) (es:List FD) (ops:Array Oper) (st':St):Nat→Array Bool→St→Prop
 |0,listed,st=>Region.ready .any ops listed=[]∧st=st'
 |n+1,listed,st=>(Region.ready .any ops listed=[]→st=st')∧∀i∈Region.ready .any ops listed,∃e st1,es[i]? =some e∧Dl call true e st=some st1∧xa call es ops st' n (listed.setIfInBounds i true) st1
theorem bR (hS:EY c.G P call) (hag:∀(j:Nat) e,es[j]? =some e→∃o,ops[j]? =some o∧(agE P ops e o||agV P e o)=true) {st':St} (hK:∀a' w',HH c st' a' w'→Q .normal a' w'):
  ∀(n:Nat) {listed:Array Bool} {st:St} {a:Act} {w:World},xa call es ops st' n listed st→HH c st a w→wpAny P .any ops Q n listed a w
 |0,listed,st,a,w,h,hs=>⟨h.1,hK _ _ (h.2▸hs)⟩
 |n+1,listed,st,a,w,h,hs=>by
  refine⟨fun h0=>hK _ _ (h.1 h0▸hs),fun i hi=> ?_⟩
  obtain⟨e,st1,h1,h2,h3⟩:=h.2 i hi
  obtain⟨o,g1,g2⟩:=hag i e h1
  rw[Bool.or_eq_true]at g2
  rcases g2 with g2|g2
  ·exact GQ hS g1 g2 h2 hs fun a' w' hs'=>bR hS hag hK n h3 hs'
  ·exact gY g1 g2 h2 hs fun a' w' hs'=>bR hS hag hK n h3 hs'
theorem xc {st':St} {i:Nat} {ei:FD} (hi:es[i]? =some ei):∀(n:Nat) {listed:Array Bool} {st s1:St},
  (∀j ej oj,es[j]? =some ej→ops[j]? =some oj→j≠i→listed.getD j true=false→(∀e∈oj.after,Region.binds .any e=true→e.on≠i)→Xy ei ej=true)→
  i∈Region.ready .any ops listed→Dl call true ei st=some s1→xa call es ops st' n (listed.setIfInBounds i true) s1→xa call es ops st' (n+1) listed st:=by
 intro n
 induction n with
 |zero=>
  intro listed st s1 _ hr h1 H
  refine⟨fun h=>(by rw[h]at hr;cases hr),fun j hj=> ?_⟩
  by_cases hji:j=i
  ·subst hji;exact⟨ei,s1,hi,h1,H⟩
  ·have:=ready_mono hj hji
   rw[H.1]at this
   cases this
 |succ n ih=>
  intro listed st s1 hfree hr h1 H
  refine⟨fun h=>(by rw[h]at hr;cases hr),fun j hj=> ?_⟩
  by_cases hji:j=i
  ·subst hji;exact⟨ei,s1,hi,h1,H⟩
  ·obtain⟨ej,s2,g1,g2,g3⟩:=H.2 j (ready_mono hj hji)
   obtain⟨hjun,oj,hoj,hall⟩:=mem_ready.1 hj
   have hnot:∀e∈oj.after,Region.binds .any e=true→e.on≠i:=fun e he hb heq=>by
    have h1:=hall e he hb
    have h0:=(mem_ready.1 hr).1
    rw[heq]at h1
    rcases Nat.lt_or_ge i listed.size with h'|h'
    ·simp[h']at h0 h1;rw[h0]at h1;cases h1
    ·simp[Array.getElem?_eq_none h']at h1
   obtain⟨s1',k1,k2⟩:=Vt (hfree j ej oj g1 hoj hji hjun hnot) h1 g2
   refine⟨ej,s1',g1,k1, ?_⟩
   refine ih (fun k ek ok hek hk hki hun hno=> ?_) (ready_mono hr (Ne.symm hji)) k2 (by rw[Array.setIfInBounds_comm _ _ hji];exact g3)
   refine hfree k ek ok hek hk hki ?_ hno
   by_cases hjk:j=k
   ·subst hjk;exact hjun
   ·rw[getD_set_ne true hjk]at hun;exact hun
theorem ub {st':St} {i:Nat} {ei:FD} {dep:Nat→Bool} (hi:es[i]? =some ei) (hd:∀j oj,ops[j]? =some oj→dep j=true→∃e∈oj.after,Region.binds .any e=true∧(e.on=i∨dep e.on=true)):∀(n:Nat) {listed:Array Bool} {st s1:St},
  (∀m,listed.getD m false=true→dep m=false)→(∀j ej oj,es[j]? =some ej→ops[j]? =some oj→j≠i→listed.getD j true=false→dep j=false→Xy ei ej=true)→
  i∈Region.ready .any ops listed→Dl call true ei st=some s1→xa call es ops st' n (listed.setIfInBounds i true) s1→xa call es ops st' (n+1) listed st:=by
 intro n
 induction n with
 |zero=>
  intro listed st s1 _ _ hr h1 H
  refine⟨fun h=>(by rw[h]at hr;cases hr),fun j hj=> ?_⟩
  by_cases hji:j=i
  ·subst hji;exact⟨ei,s1,hi,h1,H⟩
  ·have:=ready_mono hj hji
   rw[H.1]at this
   cases this
 |succ n ih=>
  intro listed st s1 hl hfree hr h1 H
  refine⟨fun h=>(by rw[h]at hr;cases hr),fun j hj=> ?_⟩
  by_cases hji:j=i
  ·subst hji;exact⟨ei,s1,hi,h1,H⟩
  ·obtain⟨ej,s2,g1,g2,g3⟩:=H.2 j (ready_mono hj hji)
   obtain⟨hjun,oj,hoj,hall⟩:=mem_ready.1 hj
   have hdj:dep j=false:=by
    cases hdj:dep j with
    |false=>rfl
    |true=>
     obtain⟨e,he,hb,hor⟩:=hd j oj hoj hdj
     have h1:=hall e he hb
     rcases hor with heq|hor
     ·have h0:=(mem_ready.1 hr).1
      rw[heq]at h1
      rcases Nat.lt_or_ge i listed.size with h'|h'
      ·simp[h']at h0 h1;rw[h0]at h1;cases h1
      ·simp[Array.getElem?_eq_none h']at h1
     ·have:=hl e.on (by
       rcases Nat.lt_or_ge e.on listed.size with h'|h'
       ·simpa [h'] using h1
       ·simp[Array.getElem?_eq_none h']at h1)
      rw[hor]at this
      cases this
   obtain⟨s1',k1,k2⟩:=Vt (hfree j ej oj g1 hoj hji hjun hdj) h1 g2
   refine⟨ej,s1',g1,k1, ?_⟩
   refine ih (fun m hm=> ?_) (fun k ek ok hek hk hki hun hno=> ?_) (ready_mono hr (Ne.symm hji)) k2 (by rw[Array.setIfInBounds_comm _ _ hji];exact g3)
   ·by_cases hjm:j=m
    ·subst hjm;exact hdj
    ·rw[getD_set_ne false hjm]at hm;exact hl m hm
   ·refine hfree k ek ok hek hk hki ?_ hno
    by_cases hjk:j=k
    ·subst hjk;exact hjun
    ·rw[getD_set_ne true hjk]at hun;exact hun
def A6D (ops:Array Oper) (i:Nat):Array Bool:=(List.range ops.size).foldl (fun dep j=>dep.push (match ops[j]? with|some oj=>oj.after.any (fun e=>Region.binds .any e&&(e.on==i||dep.getD e.on false))|none=>false)) #[]
def A8p (ops:Array Oper) (listed:Array Bool) (i:Nat) (dep:Array Bool):Bool:=(List.range ops.size).all fun j=> !dep.getD j false||(!listed.getD j false&&(match ops[j]? with|some oj=>oj.after.any (fun e=>Region.binds .any e&&(e.on==i||dep.getD e.on false))|none=>false))
def A2f (es:List FD) (ops:Array Oper) (listed:Array Bool) (i:Nat) (dep:Array Bool):Bool:=match es[i]? with
 |none=>false
 |some ei=>A8p ops listed i dep&&dep.size==ops.size&&(List.range ops.size).all fun j=>j==i||listed.getD j true||dep.getD j false||(match es[j]? with|some ej=>Xy ei ej|none=>true)
def A8q (es:List FD) (ops:Array Oper) (listed:Array Bool) (i:Nat):Bool:=A2f es ops listed i (A6D ops i)
theorem kM {i:Nat} {ei:FD} {listed dep:Array Bool} (hi:es[i]? =some ei) (h:A2f es ops listed i dep=true):
  (∀j oj,ops[j]? =some oj→dep.getD j false=true→∃e∈oj.after,Region.binds .any e=true∧(e.on=i∨dep.getD e.on false=true))∧(∀m,listed.getD m false=true→dep.getD m false=false)∧
  (∀j ej oj,es[j]? =some ej→ops[j]? =some oj→j≠i→listed.getD j true=false→dep.getD j false=false→Xy ei ej=true):=by
 simp only[A2f,hi,A8p,bz,List.all_eq_true,List.mem_range,beq_iff_eq]at h
 obtain⟨⟨h1,h2⟩,h3⟩:=h
 refine⟨fun j oj hoj hd=> ?_,fun m hm=> ?_,fun j ej oj hej hoj hne hun hd=> ?_⟩
 ·have:=h1 j (Array.getElem?_eq_some_iff.1 hoj).1
  rw[hd,hoj]at this
  simp only[Bool.not_true,Bool.false_or,bz]at this
  obtain⟨e,he,hb⟩:=Array.any_eq_true'.1 this.2
  simp only[bz,Bool.or_eq_true,beq_iff_eq]at hb
  exact⟨e,he,hb.1,hb.2⟩
 ·cases hd:dep.getD m false with
  |false=>rfl
  |true=>
   rcases Nat.lt_or_ge m ops.size with h'|h'
   ·have:=h1 m h'
    rw[hd,hm]at this
    simp at this
   ·rw[←h2]at h'
    simp[Array.getD,Nat.not_lt.2 h']at hd
 ·have:=h3 j (Array.getElem?_eq_some_iff.1 hoj).1
  simpa [hej,hne,hun,hd] using this
def A2g (es:List FD) (ops:Array Oper) (listed:Array Bool) (i:Nat):Bool:=
 match es[i]? with
 |none=>false
 |some ei=>(List.range ops.size).all fun j=>j==i||listed.getD j true||(match ops[j]? with|some oj=>oj.after.any (fun e=>Region.binds .any e&&e.on==i)|none=>true)||(match es[j]? with|some ej=>Xy ei ej|none=>true)
def A2h (es:List FD) (ops:Array Oper):Nat→Nat→Array Bool→Bool
 |0,_,listed=>(Region.ready .any ops listed).isEmpty
 |n+1,k,listed=>(Region.ready .any ops listed).contains k&&(A2g es ops listed k||A8q es ops listed k)&&A2h es ops n (k+1) (listed.setIfInBounds k true)
theorem xe {i:Nat} {ei:FD} {listed:Array Bool} (hi:es[i]? =some ei) (h:A2g es ops listed i=true) (j:Nat) (ej:FD) (oj:Oper) (hej:es[j]? =some ej) (hoj:ops[j]? =some oj) (hne:j≠i) (hun:listed.getD j true=false) (hno:∀e∈oj.after,Region.binds .any e=true→e.on≠i):Xy ei ej=true:=by
 simp only[A2g,hi,List.all_eq_true,List.mem_range]at h
 have h1:=h j (Array.getElem?_eq_some_iff.1 hoj).1
 simp only[hoj,hej,Bool.or_eq_true,beq_iff_eq,hne,false_or,hun,bf]at h1
 rcases h1 with h1|h1
 ·obtain⟨e,he,hb⟩:=Array.any_eq_true'.1 h1
  simp only[bz,beq_iff_eq]at hb
  exact absurd hb.2 (hno e he hb.1)
 ·exact h1
theorem uc {st':St}:∀(l:List FD) (k:Nat) {listed:Array Bool} {st:St},(∀j,l[j]? =es[k+j]?)→A2h es ops l.length k listed=true→Cp call true l st=some st'→xa call es ops st' l.length listed st
 | [],k,listed,st,hl,hB,h=>by
  simp only[Cp,oi]at h
  exact⟨by simpa [A2h] using hB,h⟩
 |e::l,k,listed,st,hl,hB,h=>by
  have h0:es[k]? =some e:=by simpa using (hl 0).symm
  simp only[List.length_cons,A2h,bz]at hB
  obtain⟨⟨hr,hf⟩,hB'⟩:=hB
  simp only[Cp]at h
  obtain⟨st1,h1,h2⟩:=Option.bind_eq_some_iff.1 h
  have hrest:=(uc l (k+1) (fun j=>by have:=hl (j+1);simpa [Nat.add_assoc,Nat.add_comm 1 j] using this) hB' h2)
  rw[Bool.or_eq_true]at hf
  rcases hf with hf|hf
  ·exact xc h0 l.length (xe h0 hf) (by simpa using hr) h1 hrest
  ·obtain⟨f1,f2,f3⟩:=kM h0 hf
   exact ub (dep:=fun j=>(A6D ops k).getD j false) h0 f1 l.length f2 f3 (by simpa using hr) h1 hrest
def A0X (P:Program) (ops:Array Oper):List FD→List Oper→Bool
 | [],[]=>true
 |e::es,o::os=>agE P ops e o&&A0X P ops es os
 |_,_=>false
theorem q8 : ∀ {es:List FD} {os:List Oper},A0X P ops es os=true→es.length=os.length∧∀(j:Nat) e,es[j]? =some e→∃o,os[j]? =some o∧agE P ops e o=true
 | [],[],h=>⟨rfl,fun j e h=>by simp at h⟩
 | [],o::os,h=>by simp[A0X]at h
 |e::es,[],h=>by simp[A0X]at h
 |e::es,o::os,h=>by
  simp only[A0X,bz]at h
  obtain⟨h1,h2⟩:=q8 h.2
  refine⟨by simp[h1],fun j e' hj=> ?_⟩
  cases j with
  |zero=>simp at hj;subst hj;exact⟨o,by simp,h.1⟩
  |succ j=>obtain⟨o',g1,g2⟩:=h2 j e' (by simpa using hj);exact⟨o',by simpa using g1,g2⟩
end
end TT
namespace TT
open Go
section
variable {P:Program} {c:Ctx} {w w':World} {a:Act} {o:Oper} {ops:Array Oper} {Q:Exit→Act→World→Prop} {call:Ai} {es:List FD}
def A0Y (call:Ai) (es:List FD) (ops:Array Oper) (Fin:Array Bool→St→Prop):Nat→Array Bool→St→Prop
 |0,listed,st=>Fin listed st
 |n+1,listed,st=>Region.ready .any ops listed≠[]∧∀i∈Region.ready .any ops listed,∃e st1,es[i]? =some e∧Dl call true e st=some st1∧A0Y call es ops Fin n (listed.setIfInBounds i true) st1
theorem kN (hS:EY c.G P call) (hag:∀(j:Nat) e,es[j]? =some e→∃o,ops[j]? =some o∧agE P ops e o=true) {Fin:Array Bool→St→Prop} {m:Nat} (hFin:∀listed st a w,Fin listed st→HH c st a w→wpAny P .any ops Q m listed a w):
  ∀(n:Nat) {listed:Array Bool} {st:St} {a:Act} {w:World},A0Y call es ops Fin n listed st→HH c st a w→wpAny P .any ops Q (n+m) listed a w
 |0,listed,st,a,w,h,hs=>by rw[Nat.zero_add];exact hFin _ _ _ _ h hs
 |n+1,listed,st,a,w,h,hs=>by
  rw[show n+1+m=(n+m)+1 by omega]
  refine⟨fun h0=>absurd h0 h.1,fun i hi=> ?_⟩
  obtain⟨e,st1,h1,h2,h3⟩:=h.2 i hi
  obtain⟨o,g1,g2⟩:=hag i e h1
  exact GQ hS g1 g2 h2 hs fun a' w' hs'=>kN hS hag hFin n h3 hs'
theorem xf {Fin:Array Bool→St→Prop} {i:Nat} {ei:FD} {dep:Nat→Bool} (hi:es[i]? =some ei) (hd:∀j oj,ops[j]? =some oj→dep j=true→∃e∈oj.after,Region.binds .any e=true∧(e.on=i∨dep e.on=true)):∀(n:Nat) {listed:Array Bool} {st s1:St},
  (∀m,listed.getD m false=true→dep m=false)→(∀j ej oj,es[j]? =some ej→ops[j]? =some oj→j≠i→listed.getD j true=false→dep j=false→Xy ei ej=true)→
  (∀l s,A0Y call es ops Fin 0 l s→Region.ready .any ops l≠[]→∀j∈Region.ready .any ops l,dep j=true)→
  i∈Region.ready .any ops listed→Dl call true ei st=some s1→A0Y call es ops Fin n (listed.setIfInBounds i true) s1→A0Y call es ops Fin (n+1) listed st:=by
 intro n
 induction n with
 |zero=>
  intro listed st s1 hl hfree hz hr h1 H
  refine⟨fun h=>(by rw[h]at hr;cases hr),fun j hj=> ?_⟩
  by_cases hji:j=i
  ·subst hji;exact⟨ei,s1,hi,h1,H⟩
  ·have hm:=ready_mono hj hji
   have hdj:=hz _ _ H (fun e=>by rw[e]at hm;cases hm) j hm
   obtain⟨hjun,oj,hoj,hall⟩:=mem_ready.1 hj
   obtain⟨e,he,hb,hor⟩:=hd j oj hoj hdj
   have h2:=hall e he hb
   rcases hor with heq|hor
   ·have h0:=(mem_ready.1 hr).1
    rw[heq]at h2
    rcases Nat.lt_or_ge i listed.size with h'|h'
    ·simp[h']at h0 h2;rw[h0]at h2;cases h2
    ·simp[Array.getElem?_eq_none h']at h2
   ·have:=hl e.on (by
     rcases Nat.lt_or_ge e.on listed.size with h'|h'
     ·simpa [h'] using h2
     ·simp[Array.getElem?_eq_none h']at h2)
    rw[hor]at this
    cases this
 |succ n ih=>
  intro listed st s1 hl hfree hz hr h1 H
  refine⟨fun h=>(by rw[h]at hr;cases hr),fun j hj=> ?_⟩
  by_cases hji:j=i
  ·subst hji;exact⟨ei,s1,hi,h1,H⟩
  ·obtain⟨ej,s2,g1,g2,g3⟩:=H.2 j (ready_mono hj hji)
   obtain⟨hjun,oj,hoj,hall⟩:=mem_ready.1 hj
   have hdj:dep j=false:=by
    cases hdj:dep j with
    |false=>rfl
    |true=>
     obtain⟨e,he,hb,hor⟩:=hd j oj hoj hdj
     have h1:=hall e he hb
     rcases hor with heq|hor
     ·have h0:=(mem_ready.1 hr).1
      rw[heq]at h1
      rcases Nat.lt_or_ge i listed.size with h'|h'
      ·simp[h']at h0 h1;rw[h0]at h1;cases h1
      ·simp[Array.getElem?_eq_none h']at h1
     ·have:=hl e.on (by
       rcases Nat.lt_or_ge e.on listed.size with h'|h'
       ·simpa [h'] using h1
       ·simp[Array.getElem?_eq_none h']at h1)
      rw[hor]at this
      cases this
   obtain⟨s1',k1,k2⟩:=Vt (hfree j ej oj g1 hoj hji hjun hdj) h1 g2
   refine⟨ej,s1',g1,k1, ?_⟩
   refine ih (fun m hm=> ?_) (fun k ek ok hek hk hki hun hno=> ?_) hz (ready_mono hr (Ne.symm hji)) k2 (by rw[Array.setIfInBounds_comm _ _ hji];exact g3)
   ·by_cases hjm:j=m
    ·subst hjm;exact hdj
    ·rw[getD_set_ne false hjm]at hm;exact hl m hm
   ·refine hfree k ek ok hek hk hki ?_ hno
    by_cases hjk:j=k
    ·subst hjk;exact hjun
    ·rw[getD_set_ne true hjk]at hun;exact hun
def A0Z : Nat→Nat→Array Bool→Array Bool
 |0,_,l=>l
 |n+1,k,l=>A0Z n (k+1) (l.setIfInBounds k true)
def A6E (es:List FD) (ops:Array Oper) (L:Array Bool):Nat→Nat→Array Bool→Bool
 |0,_,_=>true
 |n+1,k,listed=>(Region.ready .any ops listed).contains k&&A8q es ops listed k&&((Region.ready .any ops L).all fun j=>(A6D ops k).getD j false)&&A6E es ops L n (k+1) (listed.setIfInBounds k true)
theorem ud {Fin:Array Bool→St→Prop} {L:Array Bool} (hL:∀l s,Fin l s→l=L) {st':St}:∀(l:List FD) (k:Nat) {listed:Array Bool} {st:St},(∀j,j<l.length→l[j]? =es[k+j]?)→A6E es ops L l.length k listed=true→Cp call true l st=some st'→Fin (A0Z l.length k listed) st'→A0Y call es ops Fin l.length listed st
 | [],k,listed,st,hl,hB,h,hF=>by
  simp only[Cp,oi]at h
  subst h
  exact hF
 |e::l,k,listed,st,hl,hB,h,hF=>by
  have h0:es[k]? =some e:=by simpa using (hl 0 (by simp)).symm
  simp only[List.length_cons,A6E,bz]at hB
  obtain⟨⟨⟨hr,hf⟩,ht⟩,hB'⟩:=hB
  simp only[Cp]at h
  obtain⟨st1,h1,h2⟩:=Option.bind_eq_some_iff.1 h
  have hrest:=ud hL l (k+1) (fun j hj=>by have:=hl (j+1) (by simp;omega);simpa [Nat.add_assoc,Nat.add_comm 1 j] using this) hB' h2 hF
  obtain⟨f1,f2,f3⟩:=kM h0 hf
  refine xf (dep:=fun j=>(A6D ops k).getD j false) h0 f1 l.length f2 f3 (fun l' s hF' _ j hj=> ?_) (by simpa using hr) h1 hrest
  have e:=hL _ _ hF'
  subst e
  exact List.all_eq_true.1 ht j hj
end
end TT
