import Derived.Test.YtpmnlfgdicmiiaaGreatDoorTE
set_option linter.unusedVariables false
set_option linter.unusedSimpArgs false
namespace TT
open Go Go.RowKit
inductive Fr where
 |th (b:K)
 |lv (id:Nat)
 |hk (hs:List H)
structure Cx where
 na:Nat
 sh:List Nat
 res:List RK
def Oo (cl:List Nat):AN:=fun f args=>if cl.contains f then(match args with
 | [.t (.sl false [])]=>some ⟨[.t (.sl true [])],[]⟩
 |_=>none)else none
abbrev Vn := List Km→Option Ap
def qN : List (Nat×Vn)→AN
 | [],f,args=>none
 |p::l,f,args=>if p.1==f then p.2 args else qN l f args
structure Env where
 ft:fk
 cl:List Nat
 lb:List (Nat×Vn):=[]
def xOf (E:Env):AN:=fun f args=>match Oo E.cl f args with
 |some r=>some r
 |none=>qN E.lb f args
noncomputable abbrev dn (E:Env):AN:=den E.ft (xOf E)
theorem nP {cl:List Nat} {f:FuncId} (h:cl.contains f=false) (args:List Km):Oo cl f args=none:=by simp only[Oo,h,Bool.false_eq_true,if_false]
theorem qO {cl:List Nat} {f:FuncId} (h:cl.contains f=true):Oo cl f [.t (.sl false [])]=some ⟨[.t (.sl true [])],[]⟩:=by simp only[Oo,h,if_true]
theorem nQ {cl:List Nat} {f:FuncId} (r:List T) (rs:Rows):Oo cl f [.t (.sl false (r::rs))]=none:=by simp only[Oo];split<;>rfl
theorem kF {G:Gt} {P:Program} {call0:AN} {cl:List Nat} (hS:Dd G P call0) (h:∀f,cl.contains f=true→∀q cap,call0 f [.t (.v (.slice q 0 cap))]=some ⟨[.t (.sl true [])],[]⟩):Dd G P (Oo cl):=by
 intro f args res hr
 unfold Oo at hr
 split at hr
 ·rename_i hc
  split at hr
  ·cases hr
   refine⟨(hS f _ _ (h f hc none 0)).1,fun w B L us ls hA hL hB hG=> ?_⟩
   simp only[Ad]at hA
   obtain⟨u,us',L1,L2,ls1,ls2,rfl,h1,⟨rfl,h3,h4⟩,h5,h6⟩:=hA
   simp only[B7]at h1
   obtain⟨g1,g2,g3,g4⟩:=h1
   simp only[Da]at g1
   obtain⟨q,cap,rfl,_⟩:=g1
   refine(hS f _ _ (h f hc q cap)).2 w B L _ ls ?_ hL hB hG
   simp only[Ad]
   refine⟨_,[],L1,L2,ls1,ls2,rfl, ?_,⟨rfl,h3,h4⟩,h5,h6⟩
   simp only[B7,Da]
   exact⟨rfl,g2,g3,g4⟩
  ·cases hr
 ·cases hr
theorem ZA : ∀ {l:List (Nat×Vn)} {f:FuncId},(l.all fun p=>p.1 != f)=true→∀args,qN l f args=none
 | [],f,_,args=>rfl
 |p::l,f,h,args=>by
  simp only[List.all_cons,Bool.and_eq_true,bne_iff_ne]at h
  have h1:(p.1==f)=false:=by simpa using h.1
  simp only[qN,h1,Bool.false_eq_true,if_false]
  exact ZA h.2 args
theorem wW {E:Env} {f:FuncId} (h:E.cl.contains f=false) (h2:(E.lb.all fun p=>p.1 != f)=true) (args:List Km):xOf E f args=none:=by
 simp only[xOf,nP h,ZA h2]
theorem kG {E:Env} {f:FuncId} (h:E.cl.contains f=true):xOf E f [.t (.sl false [])]=some ⟨[.t (.sl true [])],[]⟩:=by simp only[xOf,qO h]
theorem cu {E:Env} {f:FuncId} (h2:(E.lb.all fun p=>p.1 != f)=true) (r:List T) (rs:Rows):xOf E f [.t (.sl false (r::rs))]=none:=by
 simp only[xOf,nQ,ZA h2]
def LK (G:Gt) (P:Program) (f:FuncId) (g:Vn):Prop:=∀args res,g args=some res→LH P f=true∧∀w B L us ls,Ad w B args us L ls→(∀b,L b→¬B b)→(∀b,B b→b<w.heap.size)→G.ok B w→Calls P f us.toArray w (pj w B L ls res)
theorem cw {G:Gt} {P:Program}:∀{l:List (Nat×Vn)},(∀p∈l,LK G P p.1 p.2)→Dd G P (qN l)
 | [],h=>fun f args res hr=>by simp[qN]at hr
 |p::l,h=>fun f args res hr=>by
  simp only[qN]at hr
  split at hr
  ·rename_i e
   have e:p.1=f:=by simpa using e
   subst e
   exact h p (List.mem_cons_self ..) args res hr
  ·exact cw (fun q hq=>h q (List.mem_cons_of_mem _ hq)) f args res hr
theorem jG {G:Gt} {P:Program} {E:Env} (h:Dd G P (Oo E.cl)) (h2:∀p∈E.lb,LK G P p.1 p.2):Dd G P (xOf E):=fun f args res hr=>by
 unfold xOf at hr
 cases hc:Oo E.cl f args with
 |some r=>rw[hc]at hr;cases hr;exact h f args _ hc
 |none=>rw[hc]at hr;exact cw h2 f args res hr
theorem qP {G:Gt} {P:Program} {FT:fk}:Dd G P (xOf ⟨FT,[],[]⟩):=jG (fun f args res h=>by simp[Oo]at h) (fun p hp=>by cases hp)
theorem XC {w w':World} {B:Nat→Prop} (hB:∀b,B b→b<w.heap.size) (hb:Below w.heap.size w w') {vs:List Value} (h1:∀v∈vs,v.oneCell'=true):pj w B (fun _=>False) [] ⟨vs.map fun v=> .t (.v v),[]⟩ (.returned (cP vs)) w':=by
 obtain⟨os,tp,ou,sz,fr⟩:=hb
 have hv:∀vs:List Value,(∀v∈vs,v.oneCell'=true)→Dv w' B (vs.map fun v=> .t (.v v)) vs (fun _=>False):=by
  intro vs
  induction vs with
  |nil=>intro _;simp only[List.map_nil,Dv];exact⟨trivial,fun _ h=>h⟩
  |cons v vs ih=>
   intro h1
   simp only[List.map_cons,Dv]
   exact⟨v,vs,fun _=>False,fun _=>False,rfl,⟨by simp only[EP];exact⟨trivial,fun _ h=>h⟩,h1 v (List.mem_cons_self ..)⟩,ih fun u hu=>h1 u (List.mem_cons_of_mem _ hu),⟨fun b=>by simp,fun b h _=>h⟩⟩
 refine⟨B,fun _=>False,fun _=>False,vs, ?_⟩
 exact{ val:=rfl,vals:=hv vs h1,after:=by simp only[Ao];exact⟨trivial,fun _ h=>h⟩,dis:=fun _ h=>h.elim,nr:=fun _ h=>h.elim,na:=fun _ h=>h.elim,old:=fun _ h=>h,sh:=fun _ h=> .inl h,ownr:=fun _ h=>h.elim,owna:=fun _ h=>h.elim,
        inB:=fun b hb=>Nat.lt_of_lt_of_le (hB b hb) sz,frame:=fun b hb _=>fr b hb,size:=sz,os:=os,tape:=tp,output:=ou }
theorem cx {w:World} {B:Nat→Prop}:∀{vs us:List Value} {L:Nat→Prop} {ls:List GJ},Ad w B (vs.map fun v=> .t (.v v)) us L ls→us=vs∧(∀b,¬L b)∧ls=[]
 | [],us,L,ls,h=>by simp only[List.map_nil,Ad]at h;exact⟨h.1,h.2.1,h.2.2⟩
 |v::vs,us,L,ls,h=>by
  simp only[List.map_cons,Ad]at h
  obtain⟨u,us',S1,S2,l1,l2,rfl,h1,h2,h3,rfl⟩:=h
  simp only[B7,Da]at h1
  obtain⟨rfl,_,e1,rfl⟩:=h1
  obtain⟨rfl,e2,rfl⟩:=cx h2
  exact⟨rfl,fun b hb=>((h3.1 b).1 hb).elim (e1 b) (e2 b),rfl⟩
theorem LL {G:Gt} {P:Program} {f:FuncId} {g:Vn} (hc:LH P f=true) (h:∀args res,g args=some res→∃vs rs:List Value,args=vs.map (fun v=> .t (.v v))∧res=⟨rs.map fun v=> .t (.v v),[]⟩∧(∀v∈rs,v.oneCell'=true)∧
  ∀w B,G.ok B w→Calls P f vs.toArray w fun e w'=>e= .returned (cP rs)∧Below w.heap.size w w'):LK G P f g:=fun args res hr=>by
 refine⟨hc,fun w B L us ls hA hL hB hG=> ?_⟩
 obtain⟨vs,rs,rfl,rfl,h1,h2⟩:=h args res hr
 obtain⟨rfl,hE,rfl⟩:=cx hA
 have hL0:L=fun _=>False:=funext fun b=>propext ⟨fun h=>hE b h,fun h=>h.elim⟩
 subst hL0
 refine Calls.mono (h2 w B hG) ?_
 rintro e w' ⟨rfl,hb⟩
 exact XC hB hb h1
noncomputable section
variable (FT:Env)
def fin (c:Cx) (s:List V) (r:R):Option Ap:=
 ((fj s c.res M.ret).run (fun _ _=>none) 0 r).bind fun o=>if UK o.2 c.na=c.sh then some { vals:=o.1,after:=c9 o.2 c.na }else none
def un (c:Cx):List Fr→Ex×St→Option Ap
 | [],q=>match q.1 with
  | .exit _=>none
  |_=>fin c q.2.s q.2.r
 | .th b::F,q=>(wS FT.ft (xOf FT) b q).bind (un c F)
 | .lv id::F,q=>un c F (wT id q)
 | .hk hs::F,q=>(wU hs q).bind (un c F)
def gn (c:Cx) (F:List Fr) (s:List V) (r:R):Option Ap:=un FT c F (.normal,⟨s,r⟩)
def gx (c:Cx) (F:List Fr) (id:Nat) (s:List V) (r:R):Option Ap:=un FT c F (.exit id,⟨s,r⟩)
def gr (c:Cx) (F:List Fr) (s:List V) (r:R):Option Ap:=un FT c F (.ret,⟨s,r⟩)
def ev (c:Cx) (k:K) (F:List Fr) (s:List V) (r:R):Option Ap:=(rk FT.ft (xOf FT) k ⟨s,r⟩).bind (un FT c F)
theorem A3u (c:Cx) (s:List V) (r:R):gn FT c [] s r=fin c s r:=rfl
theorem A5m (c:Cx) (b:K) (F:List Fr) (s:List V) (r:R):gn FT c (.th b::F) s r=ev FT c b F s r:=rfl
theorem A5n (c:Cx) (id:Nat) (F:List Fr) (s:List V) (r:R):gn FT c (.lv id::F) s r=gn FT c F s r:=rfl
theorem A5o (c:Cx) (b:K) (F:List Fr) (id:Nat) (s:List V) (r:R):gx FT c (.th b::F) id s r=gx FT c F id s r:=rfl
theorem A5p (c:Cx) (hs:List H) (F:List Fr) (id:Nat) (s:List V) (r:R):gx FT c (.hk hs::F) id s r=gx FT c F id s r:=rfl
theorem A5q (c:Cx) (j:Nat) (F:List Fr) (id:Nat) (s:List V) (r:R):gx FT c (.lv j::F) id s r=if id=j then gn FT c F s r else gx FT c F id s r:=by
 simp only[gx,gn,un,wT];split<;>rfl
theorem A3v (c:Cx) (id:Nat) (s:List V) (r:R):gx FT c [] id s r=none:=rfl
theorem A5r (c:Cx) (b:K) (F:List Fr) (s:List V) (r:R):gr FT c (.th b::F) s r=gr FT c F s r:=rfl
theorem A5s (c:Cx) (hs:List H) (F:List Fr) (s:List V) (r:R):gr FT c (.hk hs::F) s r=gr FT c F s r:=rfl
theorem A5t (c:Cx) (j:Nat) (F:List Fr) (s:List V) (r:R):gr FT c (.lv j::F) s r=gr FT c F s r:=rfl
theorem A3w (c:Cx) (s:List V) (r:R):gr FT c [] s r=fin c s r:=rfl
def hn (c:Cx) (hs:List H) (F:List Fr) (s:List V) (r:R):Option Ap:=(SK hs ⟨s,r⟩).bind fun st=>gn FT c F st.s st.r
theorem A5u (c:Cx) (hs:List H) (F:List Fr) (s:List V) (r:R):gn FT c (.hk hs::F) s r=hn FT c hs F s r:=by
 simp only[gn,un,wU,hn];cases SK hs ⟨s,r⟩<;>rfl
theorem A3x (c:Cx) (F:List Fr) (s:List V) (r:R):hn FT c [] F s r=gn FT c F s r:=rfl
def nR : List Nat→List V→List V
 | [],s=>s
 |t::ts,s=>nR ts (s.set t .dead)
theorem wX (ts:List Nat):∀s,ts.foldl (fun s t=>s.set t V.dead) s=nR ts s:=by
 induction ts with
 |nil=>intro s;rfl
 |cons t ts ih=>intro s;exact ih _
theorem A0l (c:Cx) (ts:List Nat) (hs:List H) (F:List Fr) (s:List V) (r:R):hn FT c (.kill ts::hs) F s r=hn FT c hs F (nR ts s) r:=by
 simp only[hn,SK,doH,wX,Option.bind_some]
def clS (ts:List Nat) (i:Nat):List V→List V
 | []=>[]
 |v::vs=>Mr ts i v::clS ts (i+1) vs
def clR (ts:List Nat) (i:Nat):R→R
 | []=>[]
 |v::vs=>QS ts i v::clR ts (i+1) vs
theorem qQ (ts:List Nat):∀(s:List V) (i:Nat),s.mapIdx (fun j=>Mr ts (i+j))=clS ts i s
 | [],i=>rfl
 |v::vs,i=>by
  rw[List.mapIdx_cons]
  simp only[clS,Nat.add_zero]
  congr 1
  rw[←qQ ts vs (i+1)]
  congr 1;funext j;rw[show i+(j+1)=i+1+j by omega]
theorem wY (ts:List Nat):∀(s:R) (i:Nat),s.mapIdx (fun j=>QS ts (i+j))=clR ts i s
 | [],i=>rfl
 |v::vs,i=>by
  rw[List.mapIdx_cons]
  simp only[clR,Nat.add_zero]
  congr 1
  rw[←wY ts vs (i+1)]
  congr 1;funext j;rw[show i+(j+1)=i+1+j by omega]
theorem wZ (c:Cx) (ts:List Nat) (hs:List H) (F:List Fr) (s:List V) (r:R):hn FT c (.clean ts::hs) F s r=hn FT c hs F (clS ts 0 s) (clR ts 0 r):=by
 have h1:=qQ ts s 0
 have h2:=wY ts r 0
 simp only[Nat.zero_add]at h1 h2
 simp only[hn,SK,doH,Option.bind_some,←h1,←h2]
def qR (r:R):V→Option (V×R)
 | .ref id n=>match AL r id with
  | .mem rows _ fx=>if rows.length=n∧fx=false then some (.t (.sl false (AZ rows)),BL r id .dead)else none
  | .dead=>if n=0 then some (.t (.sl false []),BL r id .dead)else none
 | .nil=>some (.t (.sl false []),r)
 | .t (.sl o rows)=>some (.t (.sl o rows),r)
 | .ptr id p i off n _=>if p.isEmpty&&(i==0&&n==1)then(match AL r id with
  | .mem [cells] _ fx=>if off<cells.length∧fx=false then some (.pp ((Fm cells).drop off),BL r id .dead)else none
  |_=>none)else none
 |_=>none
def A5v (r:R) (id:Id) (off:Nat):E2→Option (V×R)
 | .mem [cells] _ fx=>if off<cells.length∧fx=false then some (.pp ((Fm cells).drop off),BL r id .dead)else none
 |_=>none
theorem wa (r:R) (id:Id) (off st:Nat):qR r (.ptr id [] 0 off 1 st)=A5v r id off (AL r id):=rfl
theorem wb (r:R) (id:Id) (off:Nat) (cells:List T) (st:Nat) (fx:Bool):A5v r id off (.mem [cells] st fx)=if off<cells.length∧fx=false then some (.pp ((Fm cells).drop off),BL r id .dead)else none:=rfl
def wc (r:R) (id:Id) (n:Nat):E2→Option (V×R)
 | .mem rows _ fx=>if rows.length=n∧fx=false then some (.t (.sl false (AZ rows)),BL r id .dead)else none
 | .dead=>if n=0 then some (.t (.sl false []),BL r id .dead)else none
theorem nS (r:R) (id:Id) (n:Nat):qR r (.ref id n)=wc r id n (AL r id):=by
 simp only[qR];cases AL r id<;>rfl
theorem we (r:R) (id:Id) (n:Nat) (rows:Rows) (st:Nat) (fx:Bool):wc r id n (.mem rows st fx)=if rows.length=n∧fx=false then some (.t (.sl false (AZ rows)),BL r id .dead)else none:=rfl
theorem wg (r:R):qR r .nil=some (.t (.sl false []),r):=rfl
theorem A3y (r:R) (o:Bool) (rows:Rows):qR r (.t (.sl o rows))=some (.t (.sl o rows),r):=rfl
theorem tY (c:Cx) (t:Nat) (hs:List H) (F:List Fr) (s:List V) (r:R):hn FT c (.freeze t::hs) F s r=(qR r (s.getD t .dead)).bind fun q=>hn FT c hs F (s.set t q.1) q.2:=by
 simp only[hn,SK,doH]
 generalize s.getD t .dead=v
 cases v<;>try rfl
 ·rename_i q;cases q<;>rfl
 ·rename_i id n
  rw[nS]
  simp only[NM,M.run]
  cases AL r id with
  |dead=>
   simp only[wc]
   split<;>rfl
  |mem rows st fx=>
   simp only[wc]
   split<;>rfl
 ·rename_i id p i off n st
  simp only[qR,NM]
  by_cases h:(p.isEmpty&&(i==0&&n==1))=true
  ·rw[if_pos h,if_pos h]
   simp only[M.run]
   generalize AL r id=e
   cases e with
   |dead=>rfl
   |mem rows st fx=>
    cases rows with
    |nil=>rfl
    |cons cells rest=>
     cases rest with
     |cons _ _=>rfl
     |nil=>
      simp only
      by_cases h2:off<cells.length∧fx=false
      ·rw[if_pos h2,if_pos h2];rfl
      ·rw[if_neg h2,if_neg h2];rfl
  ·rw[if_neg h,if_neg h];rfl
def A0m (c:Cx) (t d:Nat) (hs:List H) (F:List Fr) (s:List V) (r:R):V→Option Ap
 | .nil=>if d<r.length&&(r.getD d []).isEmpty then hn FT c hs F (s.set t (.ref (d,0) 0)) (r.set d [.mem [] 0 false])else none
 | .ref _ _=>hn FT c hs F s r
 |_=>none
theorem wh (c:Cx) (t d:Nat) (hs:List H) (F:List Fr) (s:List V) (r:R):A0m FT c t d hs F s r .nil=if d<r.length&&(r.getD d []).isEmpty then hn FT c hs F (s.set t (.ref (d,0) 0)) (r.set d [.mem [] 0 false])else none:=rfl
theorem wi (c:Cx) (t d:Nat) (hs:List H) (F:List Fr) (s:List V) (r:R) (id:Id) (n:Nat):A0m FT c t d hs F s r (.ref id n)=hn FT c hs F s r:=rfl
theorem A3z (c:Cx) (t d:Nat) (hs:List H) (F:List Fr) (s:List V) (r:R):hn FT c (.own t d::hs) F s r=A0m FT c t d hs F s r (s.getD t .dead):=by
 simp only[hn,SK,doH]
 generalize s.getD t .dead=v
 cases v<;>try rfl
 simp only[A0m]
 split<;>rfl
def wj (c:Cx) (t d:Nat) (id:Id) (n:Nat) (hs:List H) (F:List Fr) (s:List V) (r:R):E2→List E2→Option Ap
 | .mem rows _ false,[.dead]=>if rows.length=n∧id.1≠d then hn FT c hs F ((clS [id.1,d] 0 s).set t (.ref (d,0) n)) ((r.set id.1 []).set d [.mem rows 0 false])else none
 |_,_=>none
def A3F (c:Cx) (t d:Nat) (hs:List H) (F:List Fr) (s:List V) (r:R):V→Option Ap
 | .ref id n=>wj FT c t d id n hs F s r (AL r id) (r.getD d [])
 |_=>none
theorem jH (c:Cx) (t d:Nat) (hs:List H) (F:List Fr) (s:List V) (r:R) (id:Id) (n:Nat):A3F FT c t d hs F s r (.ref id n)=wj FT c t d id n hs F s r (AL r id) (r.getD d []):=rfl
theorem jI (c:Cx) (t d:Nat) (id:Id) (n:Nat) (hs:List H) (F:List Fr) (s:List V) (r:R) (rows:Rows) (st:Nat):wj FT c t d id n hs F s r (.mem rows st false) [.dead]=if rows.length=n∧id.1≠d then hn FT c hs F ((clS [id.1,d] 0 s).set t (.ref (d,0) n)) ((r.set id.1 []).set d [.mem rows 0 false])else none:=rfl
theorem A0n (c:Cx) (t d:Nat) (hs:List H) (F:List Fr) (s:List V) (r:R):hn FT c (.home t d::hs) F s r=A3F FT c t d hs F s r (s.getD t .dead):=by
 simp only[hn,SK,doH]
 generalize s.getD t .dead=v
 cases v<;>try rfl
 rename_i id n
 have h1:=qQ [id.1,d] s 0
 simp only[Nat.zero_add]at h1
 rw[jH]
 simp only
 generalize AL r id=e
 generalize r.getD d []=l
 cases e with
 |dead=>rfl
 |mem rows st fx=>
  cases fx with
  |true=>rfl
  |false=>
   match l with
   | []=>rfl
   | [.dead]=>
    rw[jI]
    by_cases hc:rows.length=n∧id.1≠d
    ·simp only[if_pos hc,←h1];rfl
    ·simp only[if_neg hc];rfl
   | .mem .. ::_=>rfl
   | .dead::_::_=>rfl
def sQ (c:Cx) (d k:Nat) (rows:Rows) (stt:Nat) (fx:Bool) (hs:List H) (F:List Fr) (s:List V) (r:R):Option T→Option Ap
 |some (.sl true rs)=>hn FT c hs F s (BL r (d,0) (.mem (B6 rows [] 0 k (.sl false (AZ rs))) stt fx))
 |some (.sl false _)=>hn FT c hs F s r
 |_=>none
def A3G (c:Cx) (d k:Nat) (hs:List H) (F:List Fr) (s:List V) (r:R):E2→Option Ap
 | .mem rows stt fx=>sQ FT c d k rows stt fx hs F s r (Be rows [] 0 k)
 |_=>none
theorem jJ (c:Cx) (d k:Nat) (hs:List H) (F:List Fr) (s:List V) (r:R) (rows:Rows) (stt:Nat) (fx:Bool):A3G FT c d k hs F s r (.mem rows stt fx)=sQ FT c d k rows stt fx hs F s r (Be rows [] 0 k):=rfl
theorem wk (c:Cx) (d k:Nat) (rows:Rows) (stt:Nat) (fx:Bool) (hs:List H) (F:List Fr) (s:List V) (r:R) (rs:Rows):sQ FT c d k rows stt fx hs F s r (some (.sl true rs))=hn FT c hs F s (BL r (d,0) (.mem (B6 rows [] 0 k (.sl false (AZ rs))) stt fx)):=rfl
theorem wl (c:Cx) (d k:Nat) (rows:Rows) (stt:Nat) (fx:Bool) (hs:List H) (F:List Fr) (s:List V) (r:R) (rs:Rows):sQ FT c d k rows stt fx hs F s r (some (.sl false rs))=hn FT c hs F s r:=rfl
theorem A0o (c:Cx) (d k:Nat) (hs:List H) (F:List Fr) (s:List V) (r:R):hn FT c (.frzc d k::hs) F s r=A3G FT c d k hs F s r (AL r (d,0)):=by
 simp only[hn,SK,doH]
 generalize AL r (d,0)=e
 cases e with
 |dead=>rfl
 |mem rows stt fx=>
  simp only[jJ]
  generalize Be rows [] 0 k=o
  match o with
  |none=>rfl
  |some (.v x)=>rfl
  |some .hole=>rfl
  |some (.pp _)=>rfl
  |some (.fn _ _)=>rfl
  |some (.sl false rs)=>rfl
  |some (.sl true rs)=>rfl
def A0p (c:Cx) (d:Nat) (hs:List H) (F:List Fr) (s:List V) (r:R):E2→Option Ap
 | .mem rows st fx=>hn FT c hs F s (BL r (d,0) (.mem rows st fx))
 | .dead=>none
theorem wm (c:Cx) (d:Nat) (hs:List H) (F:List Fr) (s:List V) (r:R) (rows:Rows) (st:Nat) (fx:Bool):A0p FT c d hs F s r (.mem rows st fx)=hn FT c hs F s (BL r (d,0) (.mem rows st fx)):=rfl
theorem A40 (c:Cx) (d:Nat) (hs:List H) (F:List Fr) (s:List V) (r:R):hn FT c (.opn d::hs) F s r=A0p FT c d hs F s r (AL r (d,0)):=by
 simp only[hn,SK,doH]
 cases he:AL r (d,0)with
 |dead=>rfl
 |mem rows st fx=>
  have hth:AX r (d,0):=CF (by rw[he];simp)
  have:=j9 hth
  rw[he]at this
  simp only[A0p,this]
  rfl
def wn (c:Cx) (d k:Nat) (rows:Rows) (stt:Nat) (fx:Bool) (hs:List H) (F:List Fr) (s:List V) (r:R):Option T→Option Ap
 |some (.sl true rs)=>hn FT c hs F s (BL r (d,0) (.mem (B6 rows [] 0 k (.sl true (AZ rs))) (stt+1) fx))
 |_=>none
def A3H (c:Cx) (d k:Nat) (hs:List H) (F:List Fr) (s:List V) (r:R):E2→Option Ap
 | .mem rows stt fx=>wn FT c d k rows stt fx hs F s r (Be rows [] 0 k)
 |_=>none
theorem jK (c:Cx) (d k:Nat) (hs:List H) (F:List Fr) (s:List V) (r:R) (rows:Rows) (stt:Nat) (fx:Bool):A3H FT c d k hs F s r (.mem rows stt fx)=wn FT c d k rows stt fx hs F s r (Be rows [] 0 k):=rfl
theorem wo (c:Cx) (d k:Nat) (rows:Rows) (stt:Nat) (fx:Bool) (hs:List H) (F:List Fr) (s:List V) (r:R) (rs:Rows):wn FT c d k rows stt fx hs F s r (some (.sl true rs))=hn FT c hs F s (BL r (d,0) (.mem (B6 rows [] 0 k (.sl true (AZ rs))) (stt+1) fx)):=rfl
theorem A0q (c:Cx) (d k:Nat) (hs:List H) (F:List Fr) (s:List V) (r:R):hn FT c (.frzb d k::hs) F s r=A3H FT c d k hs F s r (AL r (d,0)):=by
 simp only[hn,SK,doH]
 generalize AL r (d,0)=e
 cases e with
 |dead=>rfl
 |mem rows stt fx=>
  simp only[jK]
  generalize Be rows [] 0 k=o
  match o with
  |none=>rfl
  |some (.v x)=>rfl
  |some .hole=>rfl
  |some (.pp _)=>rfl
  |some (.fn _ _)=>rfl
  |some (.sl false rs)=>rfl
  |some (.sl true rs)=>rfl
def A3I (c:Cx) (d k:Nat) (hs:List H) (F:List Fr) (s:List V) (r:R):E2→Option Ap
 | .mem rows stt fx=>hn FT c hs F s (BL r (d,k) (.mem (AZ rows) (stt+1) fx))
 |_=>none
theorem tZ (c:Cx) (d k:Nat) (hs:List H) (F:List Fr) (s:List V) (r:R) (rows:Rows) (stt:Nat) (fx:Bool):A3I FT c d k hs F s r (.mem rows stt fx)=hn FT c hs F s (BL r (d,k) (.mem (AZ rows) (stt+1) fx)):=rfl
theorem A0r (c:Cx) (d k:Nat) (hs:List H) (F:List Fr) (s:List V) (r:R):hn FT c (.frzr d k::hs) F s r=A3I FT c d k hs F s r (AL r (d,k)):=by
 simp only[hn,SK,doH]
 generalize AL r (d,k)=e
 cases e with
 |dead=>rfl
 |mem rows stt fx=>rfl
theorem A5w (c:Cx) (hs:List H) (k:K) (F:List Fr) (s:List V) (r:R):ev FT c (.hp hs k) F s r=hn FT c hs (.th k::F) s r:=by
 simp only[ev,A5l,hn,Option.bind_assoc];rfl
theorem A0s (c:Cx) (F:List Fr) (s:List V) (r:R):ev FT c .skip F s r=gn FT c F s r:=by simp only[ev,A0i];rfl
theorem A5x (c:Cx) (id:Nat) (F:List Fr) (s:List V) (r:R):ev FT c (.ex id) F s r=gx FT c F id s r:=by simp only[ev,A5k];rfl
theorem A41 (c:Cx) (F:List Fr) (s:List V) (r:R):ev FT c .ret F s r=gr FT c F s r:=by simp only[ev,A3q];rfl
theorem A42 (c:Cx) (a b:K) (F:List Fr) (s:List V) (r:R):ev FT c (.seq a b) F s r=ev FT c a (.th b::F) s r:=by simp only[ev,A3r,Option.bind_assoc];rfl
theorem A43 (c:Cx) (id:Nat) (b:K) (F:List Fr) (s:List V) (r:R):ev FT c (.blk id b) F s r=ev FT c b (.lv id::F) s r:=by
 simp only[ev,A3s];cases rk FT.ft (xOf FT) b ⟨s,r⟩<;>rfl
theorem A6o (c:Cx) (hs:List H) (k:K) (F:List Fr) (s:List V) (r:R):ev FT c (.h hs k) F s r=ev FT c k (.hk hs::F) s r:=by simp only[ev,A6m,Option.bind_assoc];rfl
theorem AU (c:Cx) (b:K) (F:List Fr) (s:List V) (r:R):ev FT c (.loop b) F s r=ev FT c b (.th (.loop b)::F) s r:=by
 simp only[ev];rw[A0k,Option.bind_assoc];rfl
def ck (c:Cx) (v:V) (a b:K) (F:List Fr) (s:List V) (r:R):Option Ap:=match v with
 | .t (.v (.bool true))=>ev FT c a F s r
 | .t (.v (.bool false))=>ev FT c b F s r
 |_=>none
theorem A0t (c:Cx) (x:CC) (a b:K) (F:List Fr) (s:List V) (r:R):ev FT c (.cond x a b) F s r=ck FT c (A4 s x) a b F s r:=by
 simp only[ev,A0j,ck,ckV];split<;>simp_all
theorem A0u (c:Cx) (a b:K) (F:List Fr) (s:List V) (r:R):ck FT c (.t (.v (.bool true))) a b F s r=ev FT c a F s r:=rfl
theorem wq (c:Cx) (a b:K) (F:List Fr) (s:List V) (r:R):ck FT c (.t (.v (.bool false))) a b F s r=ev FT c b F s r:=rfl
def an (c:Cx) (dr:Bool) (d:Option Nat) (es:List Hv) (F:List Fr) (s:List V) (q:V×R):Option Ap:=
 ev FT c (.reg dr es) F (match d with|some t=>s.set t q.1|none=>s) q.2
def opR (dr:Bool) (d:Nat) (o:O) (rd wr:List Nat) (s:List V) (r:R):Option (V×R):=
 if dr then(Aj s d o).runA (dn FT) d rd wr r else(Aj s d o).run (dn FT) d r
theorem A44 (c:Cx) (dr:Bool) (F:List Fr) (s:List V) (r:R):ev FT c (.reg dr []) F s r=gn FT c F s r:=by simp only[ev,XB];rfl
theorem A0v (c:Cx) (dr:Bool) (t:Nat) (es:List Hv) (F:List Fr) (s:List V) (v:V) (r:R):an FT c dr (some t) es F s (v,r)=ev FT c (.reg dr es) F (s.set t v) r:=rfl
theorem A0w (c:Cx) (dr:Bool) (es:List Hv) (F:List Fr) (s:List V) (v:V) (r:R):an FT c dr none es F s (v,r)=ev FT c (.reg dr es) F s r:=rfl
theorem A3J (c:Cx) (dr:Bool) (d:Option Nat) (o:O) (rd wr:List Nat) (es:List Hv) (F:List Fr) (s:List V) (r:R):
  ev FT c (.reg dr (⟨d,none,o,rd,wr⟩::es)) F s r=(opR FT dr (d.getD 0) o rd wr s r).bind (an FT c dr d es F s):=by
 simp only[ev,XB,C3,Cq,GH,Option.bind_some,if_true,opR]
 cases dr<;>simp only[if_true,if_false,Bool.false_eq_true]
 ·cases M.run (dn FT) (d.getD 0) (Aj s (d.getD 0) o) r with
  |none=>rfl
  |some q=>cases d<;>simp[an,ev,XB,St.put]
 ·cases M.runA (dn FT) (d.getD 0) rd wr (Aj s (d.getD 0) o) r with
  |none=>rfl
  |some q=>cases d<;>simp[an,ev,XB,St.put]
def gd (c:Cx) (dr:Bool) (v:V) (w:Bool) (d:Option Nat) (o:O) (rd wr:List Nat) (es:List Hv) (F:List Fr) (s:List V) (r:R):Option Ap:=match v with
 | .t (.v (.bool b))=>if b==w then(opR FT dr (d.getD 0) o rd wr s r).bind (an FT c dr d es F s)else an FT c dr d es F s (.tup [],r)
 | .tup []=>an FT c dr d es F s (.tup [],r)
 |_=>none
theorem A5y (c:Cx) (dr:Bool) (d:Option Nat) (t:Nat) (w:Bool) (o:O) (rd wr:List Nat) (es:List Hv) (F:List Fr) (s:List V) (r:R):
  ev FT c (.reg dr (⟨d,some (t,w),o,rd,wr⟩::es)) F s r=gd FT c dr (s.getD t .dead) w d o rd wr es F s r:=by
 have h0:=A3J FT c dr d o rd wr es F s r
 simp only[ev,XB,C3,Cq,GH,Option.bind_some,if_true]at h0
 simp only[ev,XB,C3,Cq,GH]
 generalize s.getD t .dead=v
 have hs:(Option.map (fun st'=>(Ex.normal,st')) ((some ((⟨s,r⟩:St).put d (V.tup []))).bind (C3 (dn FT) dr es))).bind (un FT c F)=an FT c dr d es F s (.tup [],r):=by
  cases d<;>simp[an,ev,XB,St.put]
 have e0:gd FT c dr v w d o rd wr es F s r=(match v with
  | .t (.v (.bool b))=>if b==w then(opR FT dr (d.getD 0) o rd wr s r).bind (an FT c dr d es F s)else an FT c dr d es F s (.tup [],r)
  | .tup []=>an FT c dr d es F s (.tup [],r)
  |_=>none):=rfl
 rw[e0]
 match v with
 | .t (.v (.bool b))=>
  simp only[Option.bind_some]
  split
  ·rw[←h0]
  ·exact hs
 | .tup []=>exact hs
 | .nil| .agg _| .ref _ _| .sub .. | .ptr .. | .pp _| .fn _ _| .vb .. | .vw .. | .dead| .tup (_::_)=>rfl
 | .t .hole| .t (.sl _ _)| .t (.pp _)| .t (.fn _ _)=>rfl
 | .t (.v x)=>cases x<;>first|rfl|(simp only[Option.bind_some];split;(rw[←h0]);exact hs)
theorem A0x (c:Cx) (dr:Bool) (w:Bool) (d:Option Nat) (o:O) (rd wr:List Nat) (es:List Hv) (F:List Fr) (s:List V) (r:R):
  gd FT c dr (.tup []) w d o rd wr es F s r=an FT c dr d es F s (.tup [],r):=rfl
theorem A5z (c:Cx) (dr:Bool) (d:Option Nat) (o:O) (rd wr:List Nat) (es:List Hv) (F:List Fr) (s:List V) (r:R):
  gd FT c dr (.t (.v (.bool true))) true d o rd wr es F s r=(opR FT dr (d.getD 0) o rd wr s r).bind (an FT c dr d es F s):=rfl
theorem A60 (c:Cx) (dr:Bool) (d:Option Nat) (o:O) (rd wr:List Nat) (es:List Hv) (F:List Fr) (s:List V) (r:R):
  gd FT c dr (.t (.v (.bool false))) false d o rd wr es F s r=(opR FT dr (d.getD 0) o rd wr s r).bind (an FT c dr d es F s):=rfl
theorem A61 (c:Cx) (dr:Bool) (d:Option Nat) (o:O) (rd wr:List Nat) (es:List Hv) (F:List Fr) (s:List V) (r:R):
  gd FT c dr (.t (.v (.bool true))) false d o rd wr es F s r=an FT c dr d es F s (.tup [],r):=rfl
theorem A62 (c:Cx) (dr:Bool) (d:Option Nat) (o:O) (rd wr:List Nat) (es:List Hv) (F:List Fr) (s:List V) (r:R):
  gd FT c dr (.t (.v (.bool false))) true d o rd wr es F s r=an FT c dr d es F s (.tup [],r):=rfl
theorem A7 {f:FuncId} {fn:F} {args:List Km} (hf:FT.ft f=some fn) (hx:xOf FT f args=none) (hl:args.length≤fn.nt) (hc:fn.co=none:=by rfl):
  dn FT f args=ev FT ⟨args.length,UK (enter fn.nt args).r args.length,fn.res⟩ fn.body [] (enter fn.nt args).s (enter fn.nt args).r:=by
 unfold dn
 rw[A3t FT.ft (xOf FT) hf hx hl hc]
 simp only[ev]
 show(rk FT.ft (xOf FT) fn.body (enter fn.nt args)).bind _=(rk FT.ft (xOf FT) fn.body (enter fn.nt args)).bind _
 congr 1
end
end TT
