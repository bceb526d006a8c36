import Derived.Test.YtpmnlfgdicmiiaaGreatDoorTE
set_option linter.unusedVariables false
set_option linter.unusedSimpArgs false
namespace TT
open Go Go.RowKit
inductive Fr where
 |th (b:K)
 |lv (id:Nat)
 |hk (hs:List H)
structure Cx where
 na:Nat
 sh:List Nat
 res:List RK
def Rn (cl:List Nat):Ai:=fun f args=>if cl.contains f then(match args with
 | [.t (.sl false [])]=>some ⟨[.t (.sl true [])],[]⟩
 |_=>none)else none
abbrev Y3 := List NH→Option BD
def xq : List (Nat×Y3)→Ai
 | [],f,args=>none
 |p::l,f,args=>if p.1==f then p.2 args else xq l f args
structure Env where
 ft:nj
 cl:List Nat
 lb:List (Nat×Y3):=[]
def xOf (E:Env):Ai:=fun f args=>match Rn E.cl f args with
 |some r=>some r
 |none=>xq E.lb f args
noncomputable abbrev dn (E:Env):Ai:=den E.ft (xOf E)
theorem um {cl:List Nat} {f:FuncId} (h:cl.contains f=false) (args:List NH):Rn cl f args=none:=by simp only[Rn,h,bf,if_false]
theorem xr {cl:List Nat} {f:FuncId} (h:cl.contains f=true):Rn cl f [.t (.sl false [])]=some ⟨[.t (.sl true [])],[]⟩:=by simp only[Rn,h,if_true]
theorem uo {cl:List Nat} {f:FuncId} (r:List T) (rs:Rows):Rn cl f [.t (.sl false (r::rs))]=none:=by simp only[Rn];split<;>rfl
theorem rX {G:Gt} {P:Program} {call0:Ai} {cl:List Nat} (hS:EY G P call0) (h:∀f,cl.contains f=true→∀q cap,call0 f [.t (.v (.slice q 0 cap))]=some ⟨[.t (.sl true [])],[]⟩):EY G P (Rn cl):=by
 intro f args res hr
 unfold Rn at hr
 split at hr
 ·rename_i hc
  split at hr
  ·cases hr
   refine⟨(hS f _ _ (h f hc none 0)).1,fun w B L us ls hA hL hB hG=> ?_⟩
   simp only[BC]at hA
   obtain⟨u,us',L1,L2,ls1,ls2,rfl,h1,⟨rfl,h3,h4⟩,h5,h6⟩:=hA
   simp only[Bo]at h1
   obtain⟨g1,g2,g3,g4⟩:=h1
   simp only[EV]at g1
   obtain⟨q,cap,rfl,_⟩:=g1
   refine(hS f _ _ (h f hc q cap)).2 w B L _ ls ?_ hL hB hG
   simp only[BC]
   refine⟨_,[],L1,L2,ls1,ls2,rfl, ?_,⟨rfl,h3,h4⟩,h5,h6⟩
   simp only[Bo,EV]
   exact⟨rfl,g2,g3,g4⟩
  ·cases hr
 ·cases hr
theorem f8 : ∀ {l:List (Nat×Y3)} {f:FuncId},(l.all fun p=>p.1 != f)=true→∀args,xq l f args=none
 | [],f,_,args=>rfl
 |p::l,f,h,args=>by
  simp only[List.all_cons,bz,bne_iff_ne]at h
  have h1:(p.1==f)=false:=by simpa using h.1
  simp only[xq,h1,bf,if_false]
  exact f8 h.2 args
theorem A2t {E:Env} {f:FuncId} (h:E.cl.contains f=false) (h2:(E.lb.all fun p=>p.1 != f)=true) (args:List NH):xOf E f args=none:=by
 simp only[xOf,um h,f8 h2]
theorem rY {E:Env} {f:FuncId} (h:E.cl.contains f=true):xOf E f [.t (.sl false [])]=some ⟨[.t (.sl true [])],[]⟩:=by simp only[xOf,xr h]
theorem kW {E:Env} {f:FuncId} (h2:(E.lb.all fun p=>p.1 != f)=true) (r:List T) (rs:Rows):xOf E f [.t (.sl false (r::rs))]=none:=by
 simp only[xOf,uo,f8 h2]
def Mm (G:Gt) (P:Program) (f:FuncId) (g:Y3):Prop:=∀args res,g args=some res→NN P f=true∧∀w B L us ls,BC w B args us L ls→(∀b,L b→¬B b)→(∀b,B b→b<w.heap.size)→G.ok B w→Calls P f us.toArray w (xG w B L ls res)
theorem kX {G:Gt} {P:Program}:∀{l:List (Nat×Y3)},(∀p∈l,Mm G P p.1 p.2)→EY G P (xq l)
 | [],h=>fun f args res hr=>by simp[xq]at hr
 |p::l,h=>fun f args res hr=>by
  simp only[xq]at hr
  split at hr
  ·rename_i e
   have e:p.1=f:=by simpa using e
   subst e
   exact h p (List.mem_cons_self ..) args res hr
  ·exact kX (fun q hq=>h q (List.mem_cons_of_mem _ hq)) f args res hr
theorem qI {G:Gt} {P:Program} {E:Env} (h:EY G P (Rn E.cl)) (h2:∀p∈E.lb,Mm G P p.1 p.2):EY G P (xOf E):=fun f args res hr=>by
 unfold xOf at hr
 cases hc:Rn E.cl f args with
 |some r=>rw[hc]at hr;cases hr;exact h f args _ hc
 |none=>rw[hc]at hr;exact kX h2 f args res hr
theorem xu {G:Gt} {P:Program} {FT:nj}:EY G P (xOf ⟨FT,[],[]⟩):=qI (fun f args res h=>by simp[Rn]at h) (fun p hp=>by cases hp)
theorem bV {w w':World} {B:Nat→Prop} (hB:∀b,B b→b<w.heap.size) (hb:Below w.heap.size w w') {vs:List Value} (h1:∀v∈vs,v.oneCell'=true):xG w B (fun _=>False) [] ⟨vs.map fun v=> .t (.v v),[]⟩ (.returned (kD vs)) w':=by
 obtain⟨os,tp,ou,sz,fr⟩:=hb
 have hv:∀vs:List Value,(∀v∈vs,v.oneCell'=true)→Eu w' B (vs.map fun v=> .t (.v v)) vs (fun _=>False):=by
  intro vs
  induction vs with
  |nil=>intro _;simp only[List.map_nil,Eu];exact⟨trivial,fun _ h=>h⟩
  |cons v vs ih=>
   intro h1
   simp only[List.map_cons,Eu]
   exact⟨v,vs,fun _=>False,fun _=>False,rfl,⟨by simp only[Fb];exact⟨trivial,fun _ h=>h⟩,h1 v (List.mem_cons_self ..)⟩,ih fun u hu=>h1 u (List.mem_cons_of_mem _ hu),⟨fun b=>by simp,fun b h _=>h⟩⟩
 refine⟨B,fun _=>False,fun _=>False,vs, ?_⟩
 exact{ val:=rfl,vals:=hv vs h1,after:=by simp only[BT];exact⟨trivial,fun _ h=>h⟩,dis:=fun _ h=>h.elim,nr:=fun _ h=>h.elim,na:=fun _ h=>h.elim,old:=fun _ h=>h,sh:=fun _ h=> .inl h,ownr:=fun _ h=>h.elim,owna:=fun _ h=>h.elim,
        inB:=fun b hb=>Nat.lt_of_lt_of_le (hB b hb) sz,frame:=fun b hb _=>fr b hb,size:=sz,os:=os,tape:=tp,output:=ou }
theorem kY {w:World} {B:Nat→Prop}:∀{vs us:List Value} {L:Nat→Prop} {ls:List Hy},BC w B (vs.map fun v=> .t (.v v)) us L ls→us=vs∧(∀b,¬L b)∧ls=[]
 | [],us,L,ls,h=>by simp only[List.map_nil,BC]at h;exact⟨h.1,h.2.1,h.2.2⟩
 |v::vs,us,L,ls,h=>by
  simp only[List.map_cons,BC]at h
  obtain⟨u,us',S1,S2,l1,l2,rfl,h1,h2,h3,rfl⟩:=h
  simp only[Bo,EV]at h1
  obtain⟨rfl,_,e1,rfl⟩:=h1
  obtain⟨rfl,e2,rfl⟩:=kY h2
  exact⟨rfl,fun b hb=>((h3.1 b).1 hb).elim (e1 b) (e2 b),rfl⟩
theorem L6 {G:Gt} {P:Program} {f:FuncId} {g:Y3} (hc:NN P f=true) (h:∀args res,g args=some res→∃vs rs:List Value,args=vs.map (fun v=> .t (.v v))∧res=⟨rs.map fun v=> .t (.v v),[]⟩∧(∀v∈rs,v.oneCell'=true)∧
  ∀w B,G.ok B w→Calls P f vs.toArray w fun e w'=>e= .returned (kD rs)∧Below w.heap.size w w'):Mm G P f g:=fun args res hr=>by
 refine⟨hc,fun w B L us ls hA hL hB hG=> ?_⟩
 obtain⟨vs,rs,rfl,rfl,h1,h2⟩:=h args res hr
 obtain⟨rfl,hE,rfl⟩:=kY hA
 have hL0:L=fun _=>False:=funext fun b=>propext ⟨fun h=>hE b h,fun h=>h.elim⟩
 subst hL0
 refine Calls.mono (h2 w B hG) ?_
 rintro e w' ⟨rfl,hb⟩
 exact bV hB hb h1
noncomputable section
variable (FT:Env)
def fin (c:Cx) (s:List V) (r:R):Option BD:=
 ((ni s c.res M.ret).run (fun _ _=>none) 0 r).bind fun o=>if Xs o.2 c.na=c.sh then some { vals:=o.1,after:=jt o.2 c.na }else none
def un (c:Cx):List Fr→Ex×St→Option BD
 | [],q=>match q.1 with
  | .exit _=>none
  |_=>fin c q.2.s q.2.r
 | .th b::F,q=>(A2p FT.ft (xOf FT) b q).bind (un c F)
 | .lv id::F,q=>un c F (A2q id q)
 | .hk hs::F,q=>(A2r hs q).bind (un c F)
def gn (c:Cx) (F:List Fr) (s:List V) (r:R):Option BD:=un FT c F (.normal,⟨s,r⟩)
def gx (c:Cx) (F:List Fr) (id:Nat) (s:List V) (r:R):Option BD:=un FT c F (.exit id,⟨s,r⟩)
def gr (c:Cx) (F:List Fr) (s:List V) (r:R):Option BD:=un FT c F (.ret,⟨s,r⟩)
def ev (c:Cx) (k:K) (F:List Fr) (s:List V) (r:R):Option BD:=(rk FT.ft (xOf FT) k ⟨s,r⟩).bind (un FT c F)
theorem A9c (c:Cx) (s:List V) (r:R):gn FT c [] s r=fin c s r:=rfl
theorem ABR (c:Cx) (b:K) (F:List Fr) (s:List V) (r:R):gn FT c (.th b::F) s r=ev FT c b F s r:=rfl
theorem ABS (c:Cx) (id:Nat) (F:List Fr) (s:List V) (r:R):gn FT c (.lv id::F) s r=gn FT c F s r:=rfl
theorem ABT (c:Cx) (b:K) (F:List Fr) (id:Nat) (s:List V) (r:R):gx FT c (.th b::F) id s r=gx FT c F id s r:=rfl
theorem ABU (c:Cx) (hs:List H) (F:List Fr) (id:Nat) (s:List V) (r:R):gx FT c (.hk hs::F) id s r=gx FT c F id s r:=rfl
theorem ABV (c:Cx) (j:Nat) (F:List Fr) (id:Nat) (s:List V) (r:R):gx FT c (.lv j::F) id s r=if id=j then gn FT c F s r else gx FT c F id s r:=by
 simp only[gx,gn,un,A2q];split<;>rfl
theorem A9d (c:Cx) (id:Nat) (s:List V) (r:R):gx FT c [] id s r=none:=rfl
theorem ABW (c:Cx) (b:K) (F:List Fr) (s:List V) (r:R):gr FT c (.th b::F) s r=gr FT c F s r:=rfl
theorem ABX (c:Cx) (hs:List H) (F:List Fr) (s:List V) (r:R):gr FT c (.hk hs::F) s r=gr FT c F s r:=rfl
theorem ABY (c:Cx) (j:Nat) (F:List Fr) (s:List V) (r:R):gr FT c (.lv j::F) s r=gr FT c F s r:=rfl
theorem A9e (c:Cx) (s:List V) (r:R):gr FT c [] s r=fin c s r:=rfl
def hn (c:Cx) (hs:List H) (F:List Fr) (s:List V) (r:R):Option BD:=(Vi hs ⟨s,r⟩).bind fun st=>gn FT c F st.s st.r
theorem ABZ (c:Cx) (hs:List H) (F:List Fr) (s:List V) (r:R):gn FT c (.hk hs::F) s r=hn FT c hs F s r:=by
 simp only[gn,un,A2r,hn];cases Vi hs ⟨s,r⟩<;>rfl
theorem A9f (c:Cx) (F:List Fr) (s:List V) (r:R):hn FT c [] F s r=gn FT c F s r:=rfl
def uq : List Nat→List V→List V
 | [],s=>s
 |t::ts,s=>uq ts (s.set t .dead)
theorem A2u (ts:List Nat):∀s,ts.foldl (fun s t=>s.set t V.dead) s=uq ts s:=by
 induction ts with
 |nil=>intro s;rfl
 |cons t ts ih=>intro s;exact ih _
theorem A6O (c:Cx) (ts:List Nat) (hs:List H) (F:List Fr) (s:List V) (r:R):hn FT c (.kill ts::hs) F s r=hn FT c hs F (uq ts s) r:=by
 simp only[hn,Vi,doH,A2u,Option.bind_some]
def clS (ts:List Nat) (i:Nat):List V→List V
 | []=>[]
 |v::vs=>Pc ts i v::clS ts (i+1) vs
def clR (ts:List Nat) (i:Nat):R→R
 | []=>[]
 |v::vs=>Ti ts i v::clR ts (i+1) vs
theorem xv (ts:List Nat):∀(s:List V) (i:Nat),s.mapIdx (fun j=>Pc ts (i+j))=clS ts i s
 | [],i=>rfl
 |v::vs,i=>by
  rw[List.mapIdx_cons]
  simp only[clS,Nat.add_zero]
  congr 1
  rw[←xv ts vs (i+1)]
  congr 1;funext j;rw[show i+(j+1)=i+1+j by omega]
theorem A2v (ts:List Nat):∀(s:R) (i:Nat),s.mapIdx (fun j=>Ti ts (i+j))=clR ts i s
 | [],i=>rfl
 |v::vs,i=>by
  rw[List.mapIdx_cons]
  simp only[clR,Nat.add_zero]
  congr 1
  rw[←A2v ts vs (i+1)]
  congr 1;funext j;rw[show i+(j+1)=i+1+j by omega]
theorem A2w (c:Cx) (ts:List Nat) (hs:List H) (F:List Fr) (s:List V) (r:R):hn FT c (.clean ts::hs) F s r=hn FT c hs F (clS ts 0 s) (clR ts 0 r):=by
 have h1:=xv ts s 0
 have h2:=A2v ts r 0
 simp only[Nat.zero_add]at h1 h2
 simp only[hn,Vi,doH,Option.bind_some,←h1,←h2]
def xw (r:R):V→Option (V×R)
 | .ref id n=>match Ac r id with
  | .mem rows _ fx=>if rows.length=n∧fx=false then some (.t (.sl false (Az rows)),C3 r id .dead)else none
  | .dead=>if n=0 then some (.t (.sl false []),C3 r id .dead)else none
 | .nil=>some (.t (.sl false []),r)
 | .t (.sl o rows)=>some (.t (.sl o rows),r)
 | .ptr id p i off n _=>if p.isEmpty&&(i==0&&n==1)then(match Ac r id with
  | .mem [cells] _ fx=>if off<cells.length∧fx=false then some (.pp ((HF cells).drop off),C3 r id .dead)else none
  |_=>none)else none
 |_=>none
def ABa (r:R) (id:Id) (off:Nat):FA→Option (V×R)
 | .mem [cells] _ fx=>if off<cells.length∧fx=false then some (.pp ((HF cells).drop off),C3 r id .dead)else none
 |_=>none
theorem A2x (r:R) (id:Id) (off st:Nat):xw r (.ptr id [] 0 off 1 st)=ABa r id off (Ac r id):=rfl
theorem A2y (r:R) (id:Id) (off:Nat) (cells:List T) (st:Nat) (fx:Bool):ABa r id off (.mem [cells] st fx)=if off<cells.length∧fx=false then some (.pp ((HF cells).drop off),C3 r id .dead)else none:=rfl
def A2z (r:R) (id:Id) (n:Nat):FA→Option (V×R)
 | .mem rows _ fx=>if rows.length=n∧fx=false then some (.t (.sl false (Az rows)),C3 r id .dead)else none
 | .dead=>if n=0 then some (.t (.sl false []),C3 r id .dead)else none
theorem ur (r:R) (id:Id) (n:Nat):xw r (.ref id n)=A2z r id n (Ac r id):=by
 simp only[xw];cases Ac r id<;>rfl
theorem A30 (r:R) (id:Id) (n:Nat) (rows:Rows) (st:Nat) (fx:Bool):A2z r id n (.mem rows st fx)=if rows.length=n∧fx=false then some (.t (.sl false (Az rows)),C3 r id .dead)else none:=rfl
theorem A31 (r:R):xw r .nil=some (.t (.sl false []),r):=rfl
theorem A9g (r:R) (o:Bool) (rows:Rows):xw r (.t (.sl o rows))=some (.t (.sl o rows),r):=rfl
theorem A0e (c:Cx) (t:Nat) (hs:List H) (F:List Fr) (s:List V) (r:R):hn FT c (.freeze t::hs) F s r=(xw r (s.getD t .dead)).bind fun q=>hn FT c hs F (s.set t q.1) q.2:=by
 simp only[hn,Vi,doH]
 generalize s.getD t .dead=v
 cases v<;>try rfl
 ·rename_i q;cases q<;>rfl
 ·rename_i id n
  rw[ur]
  simp only[QI,M.run]
  cases Ac r id with
  |dead=>
   simp only[A2z]
   split<;>rfl
  |mem rows st fx=>
   simp only[A2z]
   split<;>rfl
 ·rename_i id p i off n st
  simp only[xw,QI]
  by_cases h:(p.isEmpty&&(i==0&&n==1))=true
  ·rw[if_pos h,if_pos h]
   simp only[M.run]
   generalize Ac r id=e
   cases e with
   |dead=>rfl
   |mem rows st fx=>
    cases rows with
    |nil=>rfl
    |cons cells rest=>
     cases rest with
     |cons _ _=>rfl
     |nil=>
      simp only
      by_cases h2:off<cells.length∧fx=false
      ·rw[if_pos h2,if_pos h2];rfl
      ·rw[if_neg h2,if_neg h2];rfl
  ·rw[if_neg h,if_neg h];rfl
def A6P (c:Cx) (t d:Nat) (hs:List H) (F:List Fr) (s:List V) (r:R):V→Option BD
 | .nil=>if d<r.length&&(r.getD d []).isEmpty then hn FT c hs F (s.set t (.ref (d,0) 0)) (r.set d [.mem [] 0 false])else none
 | .ref _ _=>hn FT c hs F s r
 |_=>none
theorem A32 (c:Cx) (t d:Nat) (hs:List H) (F:List Fr) (s:List V) (r:R):A6P FT c t d hs F s r .nil=if d<r.length&&(r.getD d []).isEmpty then hn FT c hs F (s.set t (.ref (d,0) 0)) (r.set d [.mem [] 0 false])else none:=rfl
theorem A33 (c:Cx) (t d:Nat) (hs:List H) (F:List Fr) (s:List V) (r:R) (id:Id) (n:Nat):A6P FT c t d hs F s r (.ref id n)=hn FT c hs F s r:=rfl
theorem A9h (c:Cx) (t d:Nat) (hs:List H) (F:List Fr) (s:List V) (r:R):hn FT c (.own t d::hs) F s r=A6P FT c t d hs F s r (s.getD t .dead):=by
 simp only[hn,Vi,doH]
 generalize s.getD t .dead=v
 cases v<;>try rfl
 simp only[A6P]
 split<;>rfl
def A34 (c:Cx) (t d:Nat) (id:Id) (n:Nat) (hs:List H) (F:List Fr) (s:List V) (r:R):FA→List FA→Option BD
 | .mem rows _ false,[.dead]=>if rows.length=n∧id.1≠d then hn FT c hs F ((clS [id.1,d] 0 s).set t (.ref (d,0) n)) ((r.set id.1 []).set d [.mem rows 0 false])else none
 |_,_=>none
def A8t (c:Cx) (t d:Nat) (hs:List H) (F:List Fr) (s:List V) (r:R):V→Option BD
 | .ref id n=>A34 FT c t d id n hs F s r (Ac r id) (r.getD d [])
 |_=>none
theorem qJ (c:Cx) (t d:Nat) (hs:List H) (F:List Fr) (s:List V) (r:R) (id:Id) (n:Nat):A8t FT c t d hs F s r (.ref id n)=A34 FT c t d id n hs F s r (Ac r id) (r.getD d []):=rfl
theorem qK (c:Cx) (t d:Nat) (id:Id) (n:Nat) (hs:List H) (F:List Fr) (s:List V) (r:R) (rows:Rows) (st:Nat):A34 FT c t d id n hs F s r (.mem rows st false) [.dead]=if rows.length=n∧id.1≠d then hn FT c hs F ((clS [id.1,d] 0 s).set t (.ref (d,0) n)) ((r.set id.1 []).set d [.mem rows 0 false])else none:=rfl
theorem A6Q (c:Cx) (t d:Nat) (hs:List H) (F:List Fr) (s:List V) (r:R):hn FT c (.home t d::hs) F s r=A8t FT c t d hs F s r (s.getD t .dead):=by
 simp only[hn,Vi,doH]
 generalize s.getD t .dead=v
 cases v<;>try rfl
 rename_i id n
 have h1:=xv [id.1,d] s 0
 simp only[Nat.zero_add]at h1
 rw[qJ]
 simp only
 generalize Ac r id=e
 generalize r.getD d []=l
 cases e with
 |dead=>rfl
 |mem rows st fx=>
  cases fx with
  |true=>rfl
  |false=>
   match l with
   | []=>rfl
   | [.dead]=>
    rw[qK]
    by_cases hc:rows.length=n∧id.1≠d
    ·simp only[if_pos hc,←h1];rfl
    ·simp only[if_neg hc];rfl
   | .mem .. ::_=>rfl
   | .dead::_::_=>rfl
def zq (c:Cx) (d k:Nat) (rows:Rows) (stt:Nat) (fx:Bool) (hs:List H) (F:List Fr) (s:List V) (r:R):Option T→Option BD
 |some (.sl true rs)=>hn FT c hs F s (C3 r (d,0) (.mem (Bn rows [] 0 k (.sl false (Az rs))) stt fx))
 |some (.sl false _)=>hn FT c hs F s r
 |_=>none
def A8u (c:Cx) (d k:Nat) (hs:List H) (F:List Fr) (s:List V) (r:R):FA→Option BD
 | .mem rows stt fx=>zq FT c d k rows stt fx hs F s r (CR rows [] 0 k)
 |_=>none
theorem qL (c:Cx) (d k:Nat) (hs:List H) (F:List Fr) (s:List V) (r:R) (rows:Rows) (stt:Nat) (fx:Bool):A8u FT c d k hs F s r (.mem rows stt fx)=zq FT c d k rows stt fx hs F s r (CR rows [] 0 k):=rfl
theorem A35 (c:Cx) (d k:Nat) (rows:Rows) (stt:Nat) (fx:Bool) (hs:List H) (F:List Fr) (s:List V) (r:R) (rs:Rows):zq FT c d k rows stt fx hs F s r (some (.sl true rs))=hn FT c hs F s (C3 r (d,0) (.mem (Bn rows [] 0 k (.sl false (Az rs))) stt fx)):=rfl
theorem A36 (c:Cx) (d k:Nat) (rows:Rows) (stt:Nat) (fx:Bool) (hs:List H) (F:List Fr) (s:List V) (r:R) (rs:Rows):zq FT c d k rows stt fx hs F s r (some (.sl false rs))=hn FT c hs F s r:=rfl
theorem A6R (c:Cx) (d k:Nat) (hs:List H) (F:List Fr) (s:List V) (r:R):hn FT c (.frzc d k::hs) F s r=A8u FT c d k hs F s r (Ac r (d,0)):=by
 simp only[hn,Vi,doH]
 generalize Ac r (d,0)=e
 cases e with
 |dead=>rfl
 |mem rows stt fx=>
  simp only[qL]
  generalize CR rows [] 0 k=o
  match o with
  |none=>rfl
  |some (.v x)=>rfl
  |some .hole=>rfl
  |some (.pp _)=>rfl
  |some (.fn _ _)=>rfl
  |some (.sl false rs)=>rfl
  |some (.sl true rs)=>rfl
def A6S (c:Cx) (d:Nat) (hs:List H) (F:List Fr) (s:List V) (r:R):FA→Option BD
 | .mem rows st fx=>hn FT c hs F s (C3 r (d,0) (.mem rows st fx))
 | .dead=>none
theorem A37 (c:Cx) (d:Nat) (hs:List H) (F:List Fr) (s:List V) (r:R) (rows:Rows) (st:Nat) (fx:Bool):A6S FT c d hs F s r (.mem rows st fx)=hn FT c hs F s (C3 r (d,0) (.mem rows st fx)):=rfl
theorem A9i (c:Cx) (d:Nat) (hs:List H) (F:List Fr) (s:List V) (r:R):hn FT c (.opn d::hs) F s r=A6S FT c d hs F s r (Ac r (d,0)):=by
 simp only[hn,Vi,doH]
 cases he:Ac r (d,0)with
 |dead=>rfl
 |mem rows st fx=>
  have hth:Au r (d,0):=DA (by rw[he];simp)
  have:=qB hth
  rw[he]at this
  simp only[A6S,this]
  rfl
def A38 (c:Cx) (d k:Nat) (rows:Rows) (stt:Nat) (fx:Bool) (hs:List H) (F:List Fr) (s:List V) (r:R):Option T→Option BD
 |some (.sl true rs)=>hn FT c hs F s (C3 r (d,0) (.mem (Bn rows [] 0 k (.sl true (Az rs))) (stt+1) fx))
 |_=>none
def A8v (c:Cx) (d k:Nat) (hs:List H) (F:List Fr) (s:List V) (r:R):FA→Option BD
 | .mem rows stt fx=>A38 FT c d k rows stt fx hs F s r (CR rows [] 0 k)
 |_=>none
theorem qM (c:Cx) (d k:Nat) (hs:List H) (F:List Fr) (s:List V) (r:R) (rows:Rows) (stt:Nat) (fx:Bool):A8v FT c d k hs F s r (.mem rows stt fx)=A38 FT c d k rows stt fx hs F s r (CR rows [] 0 k):=rfl
theorem A39 (c:Cx) (d k:Nat) (rows:Rows) (stt:Nat) (fx:Bool) (hs:List H) (F:List Fr) (s:List V) (r:R) (rs:Rows):A38 FT c d k rows stt fx hs F s r (some (.sl true rs))=hn FT c hs F s (C3 r (d,0) (.mem (Bn rows [] 0 k (.sl true (Az rs))) (stt+1) fx)):=rfl
theorem A6T (c:Cx) (d k:Nat) (hs:List H) (F:List Fr) (s:List V) (r:R):hn FT c (.frzb d k::hs) F s r=A8v FT c d k hs F s r (Ac r (d,0)):=by
 simp only[hn,Vi,doH]
 generalize Ac r (d,0)=e
 cases e with
 |dead=>rfl
 |mem rows stt fx=>
  simp only[qM]
  generalize CR rows [] 0 k=o
  match o with
  |none=>rfl
  |some (.v x)=>rfl
  |some .hole=>rfl
  |some (.pp _)=>rfl
  |some (.fn _ _)=>rfl
  |some (.sl false rs)=>rfl
  |some (.sl true rs)=>rfl
def A8w (c:Cx) (d k:Nat) (hs:List H) (F:List Fr) (s:List V) (r:R):FA→Option BD
 | .mem rows stt fx=>hn FT c hs F s (C3 r (d,k) (.mem (Az rows) (stt+1) fx))
 |_=>none
theorem A0f (c:Cx) (d k:Nat) (hs:List H) (F:List Fr) (s:List V) (r:R) (rows:Rows) (stt:Nat) (fx:Bool):A8w FT c d k hs F s r (.mem rows stt fx)=hn FT c hs F s (C3 r (d,k) (.mem (Az rows) (stt+1) fx)):=rfl
theorem A6U (c:Cx) (d k:Nat) (hs:List H) (F:List Fr) (s:List V) (r:R):hn FT c (.frzr d k::hs) F s r=A8w FT c d k hs F s r (Ac r (d,k)):=by
 simp only[hn,Vi,doH]
 generalize Ac r (d,k)=e
 cases e with
 |dead=>rfl
 |mem rows stt fx=>rfl
theorem ABb (c:Cx) (hs:List H) (k:K) (F:List Fr) (s:List V) (r:R):ev FT c (.hp hs k) F s r=hn FT c hs (.th k::F) s r:=by
 simp only[ev,ABQ,hn,Option.bind_assoc];rfl
theorem A6V (c:Cx) (F:List Fr) (s:List V) (r:R):ev FT c .skip F s r=gn FT c F s r:=by simp only[ev,A6L];rfl
theorem ABc (c:Cx) (id:Nat) (F:List Fr) (s:List V) (r:R):ev FT c (.ex id) F s r=gx FT c F id s r:=by simp only[ev,ABP];rfl
theorem A9j (c:Cx) (F:List Fr) (s:List V) (r:R):ev FT c .ret F s r=gr FT c F s r:=by simp only[ev,A9Y];rfl
theorem A9k (c:Cx) (a b:K) (F:List Fr) (s:List V) (r:R):ev FT c (.seq a b) F s r=ev FT c a (.th b::F) s r:=by simp only[ev,A9Z,Option.bind_assoc];rfl
theorem A9l (c:Cx) (id:Nat) (b:K) (F:List Fr) (s:List V) (r:R):ev FT c (.blk id b) F s r=ev FT c b (.lv id::F) s r:=by
 simp only[ev,A9a];cases rk FT.ft (xOf FT) b ⟨s,r⟩<;>rfl
theorem ACU (c:Cx) (hs:List H) (k:K) (F:List Fr) (s:List V) (r:R):ev FT c (.h hs k) F s r=ev FT c k (.hk hs::F) s r:=by simp only[ev,ACS,Option.bind_assoc];rfl
theorem AZ (c:Cx) (b:K) (F:List Fr) (s:List V) (r:R):ev FT c (.loop b) F s r=ev FT c b (.th (.loop b)::F) s r:=by
 simp only[ev];rw[A6N,Option.bind_assoc];rfl
def ck (c:Cx) (v:V) (a b:K) (F:List Fr) (s:List V) (r:R):Option BD:=match v with
 | .t (.v (.bool true))=>ev FT c a F s r
 | .t (.v (.bool false))=>ev FT c b F s r
 |_=>none
theorem A6W (c:Cx) (x:D2) (a b:K) (F:List Fr) (s:List V) (r:R):ev FT c (.cond x a b) F s r=ck FT c (A9 s x) a b F s r:=by
 simp only[ev,A6M,ck,ckV];split<;>simp_all
theorem A6X (c:Cx) (a b:K) (F:List Fr) (s:List V) (r:R):ck FT c (.t (.v (.bool true))) a b F s r=ev FT c a F s r:=rfl
theorem A3A (c:Cx) (a b:K) (F:List Fr) (s:List V) (r:R):ck FT c (.t (.v (.bool false))) a b F s r=ev FT c b F s r:=rfl
def an (c:Cx) (dr:Bool) (d:Option Nat) (es:List FD) (F:List Fr) (s:List V) (q:V×R):Option BD:=
 ev FT c (.reg dr es) F (match d with|some t=>s.set t q.1|none=>s) q.2
def opR (dr:Bool) (d:Nat) (o:O) (rd wr:List Nat) (s:List V) (r:R):Option (V×R):=
 if dr then(BL s d o).runA (dn FT) d rd wr r else(BL s d o).run (dn FT) d r
theorem A9m (c:Cx) (dr:Bool) (F:List Fr) (s:List V) (r:R):ev FT c (.reg dr []) F s r=gn FT c F s r:=by simp only[ev,bU];rfl
theorem A6Y (c:Cx) (dr:Bool) (t:Nat) (es:List FD) (F:List Fr) (s:List V) (v:V) (r:R):an FT c dr (some t) es F s (v,r)=ev FT c (.reg dr es) F (s.set t v) r:=rfl
theorem A6Z (c:Cx) (dr:Bool) (es:List FD) (F:List Fr) (s:List V) (v:V) (r:R):an FT c dr none es F s (v,r)=ev FT c (.reg dr es) F s r:=rfl
theorem A8x (c:Cx) (dr:Bool) (d:Option Nat) (o:O) (rd wr:List Nat) (es:List FD) (F:List Fr) (s:List V) (r:R):
  ev FT c (.reg dr (⟨d,none,o,rd,wr⟩::es)) F s r=(opR FT dr (d.getD 0) o rd wr s r).bind (an FT c dr d es F s):=by
 simp only[ev,bU,Cp,Dl,Hv,Option.bind_some,if_true,opR]
 cases dr<;>simp only[if_true,if_false,bf]
 ·cases M.run (dn FT) (d.getD 0) (BL s (d.getD 0) o) r with
  |none=>rfl
  |some q=>cases d<;>simp[an,ev,bU,St.put]
 ·cases M.runA (dn FT) (d.getD 0) rd wr (BL s (d.getD 0) o) r with
  |none=>rfl
  |some q=>cases d<;>simp[an,ev,bU,St.put]
def gd (c:Cx) (dr:Bool) (v:V) (w:Bool) (d:Option Nat) (o:O) (rd wr:List Nat) (es:List FD) (F:List Fr) (s:List V) (r:R):Option BD:=match v with
 | .t (.v (.bool b))=>if b==w then(opR FT dr (d.getD 0) o rd wr s r).bind (an FT c dr d es F s)else an FT c dr d es F s (.tup [],r)
 | .tup []=>an FT c dr d es F s (.tup [],r)
 |_=>none
theorem ABd (c:Cx) (dr:Bool) (d:Option Nat) (t:Nat) (w:Bool) (o:O) (rd wr:List Nat) (es:List FD) (F:List Fr) (s:List V) (r:R):
  ev FT c (.reg dr (⟨d,some (t,w),o,rd,wr⟩::es)) F s r=gd FT c dr (s.getD t .dead) w d o rd wr es F s r:=by
 have h0:=A8x FT c dr d o rd wr es F s r
 simp only[ev,bU,Cp,Dl,Hv,Option.bind_some,if_true]at h0
 simp only[ev,bU,Cp,Dl,Hv]
 generalize s.getD t .dead=v
 have hs:(Option.map (fun st'=>(Ex.normal,st')) ((some ((⟨s,r⟩:St).put d (V.tup []))).bind (Cp (dn FT) dr es))).bind (un FT c F)=an FT c dr d es F s (.tup [],r):=by
  cases d<;>simp[an,ev,bU,St.put]
 have e0:gd FT c dr v w d o rd wr es F s r=(match v with
  | .t (.v (.bool b))=>if b==w then(opR FT dr (d.getD 0) o rd wr s r).bind (an FT c dr d es F s)else an FT c dr d es F s (.tup [],r)
  | .tup []=>an FT c dr d es F s (.tup [],r)
  |_=>none):=rfl
 rw[e0]
 match v with
 | .t (.v (.bool b))=>
  simp only[Option.bind_some]
  split
  ·rw[←h0]
  ·exact hs
 | .tup []=>exact hs
 | .nil| .agg _| .ref _ _| .sub .. | .ptr .. | .pp _| .fn _ _| .vb .. | .vw .. | .dead| .tup (_::_)=>rfl
 | .t .hole| .t (.sl _ _)| .t (.pp _)| .t (.fn _ _)=>rfl
 | .t (.v x)=>cases x<;>first|rfl|(simp only[Option.bind_some];split;(rw[←h0]);exact hs)
theorem A6a (c:Cx) (dr w:Bool) (d:Option Nat) (o:O) (rd wr:List Nat) (es:List FD) (F:List Fr) (s:List V) (r:R):
  gd FT c dr (.tup []) w d o rd wr es F s r=an FT c dr d es F s (.tup [],r):=rfl
theorem ABe (c:Cx) (dr:Bool) (d:Option Nat) (o:O) (rd wr:List Nat) (es:List FD) (F:List Fr) (s:List V) (r:R):
  gd FT c dr (.t (.v (.bool true))) true d o rd wr es F s r=(opR FT dr (d.getD 0) o rd wr s r).bind (an FT c dr d es F s):=rfl
theorem ABf (c:Cx) (dr:Bool) (d:Option Nat) (o:O) (rd wr:List Nat) (es:List FD) (F:List Fr) (s:List V) (r:R):
  gd FT c dr (.t (.v (.bool false))) false d o rd wr es F s r=(opR FT dr (d.getD 0) o rd wr s r).bind (an FT c dr d es F s):=rfl
theorem ABg (c:Cx) (dr:Bool) (d:Option Nat) (o:O) (rd wr:List Nat) (es:List FD) (F:List Fr) (s:List V) (r:R):
  gd FT c dr (.t (.v (.bool true))) false d o rd wr es F s r=an FT c dr d es F s (.tup [],r):=rfl
theorem ABh (c:Cx) (dr:Bool) (d:Option Nat) (o:O) (rd wr:List Nat) (es:List FD) (F:List Fr) (s:List V) (r:R):
  gd FT c dr (.t (.v (.bool false))) true d o rd wr es F s r=an FT c dr d es F s (.tup [],r):=rfl
theorem AB {f:FuncId} {fn:F} {args:List NH} (hf:FT.ft f=some fn) (hx:xOf FT f args=none) (hl:args.length≤fn.nt) (hc:fn.co=none:=by rfl):
  dn FT f args=ev FT ⟨args.length,Xs (enter fn.nt args).r args.length,fn.res⟩ fn.body [] (enter fn.nt args).s (enter fn.nt args).r:=by
 unfold dn
 rw[A9b FT.ft (xOf FT) hf hx hl hc]
 simp only[ev]
 show(rk FT.ft (xOf FT) fn.body (enter fn.nt args)).bind _=(rk FT.ft (xOf FT) fn.body (enter fn.nt args)).bind _
 congr 1
end
end TT
