import Derived.Test.YtkbbbbeagnfliaaGreatDoorTE
set_option linter.unusedVariables false
set_option linter.unusedSimpArgs false
namespace TT
open Go Go.RowKit
inductive Fr where
 |th (b:K)
 |lv (id:Nat)
 |hk (hs:List H)
structure Cx where
 na:Nat
 sh:List Nat
 res:List RK
def RY (cl:List Nat):Ag:=fun f args=>if cl.contains f then(match args with
 | [.t (.sl false [])]=>some ⟨[.t (.sl true [])],[]⟩
 |_=>none)else none
abbrev cC := List M4→Option Ay
def yb : List (Nat×cC)→Ag
 | [],f,args=>none
 |p::l,f,args=>if p.1==f then p.2 args else yb l f args
structure Env where
 ft:om
 cl:List Nat
 lb:List (Nat×cC):=[]
def xOf (E:Env):Ag:=fun f args=>match RY E.cl f args with
 |some r=>some r
 |none=>yb E.lb f args
noncomputable abbrev dn (E:Env):Ag:=den E.ft (xOf E)
theorem wD {cl:List Nat} {f:FuncId} (h:cl.contains f=false) (args:List M4):RY cl f args=none:=by simp only[RY,h,bf,if_false]
theorem yc {cl:List Nat} {f:FuncId} (h:cl.contains f=true):RY cl f [.t (.sl false [])]=some ⟨[.t (.sl true [])],[]⟩:=by simp only[RY,h,if_true]
theorem wE {cl:List Nat} {f:FuncId} (r:List T) (rs:Rows):RY cl f [.t (.sl false (r::rs))]=none:=by simp only[RY];split<;>rfl
theorem su {G:Gt} {P:Program} {call0:Ag} {cl:List Nat} (hS:Dx G P call0) (h:∀f,cl.contains f=true→∀q cap,call0 f [.t (.v (.slice q 0 cap))]=some ⟨[.t (.sl true [])],[]⟩):Dx G P (RY cl):=by
 intro f args res hr
 unfold RY at hr
 split at hr
 ·rename_i hc
  split at hr
  ·cases hr
   refine⟨(hS f _ _ (h f hc none 0)).1,fun w B L us ls hA hL hB hG=> ?_⟩
   simp only[B7]at hA
   obtain⟨u,us',L1,L2,ls1,ls2,rfl,h1,⟨rfl,h3,h4⟩,h5,h6⟩:=hA
   simp only[Ba]at h1
   obtain⟨g1,g2,g3,g4⟩:=h1
   simp only[E9]at g1
   obtain⟨q,cap,rfl,_⟩:=g1
   refine(hS f _ _ (h f hc q cap)).2 w B L _ ls ?_ hL hB hG
   simp only[B7]
   refine⟨_,[],L1,L2,ls1,ls2,rfl, ?_,⟨rfl,h3,h4⟩,h5,h6⟩
   simp only[Ba,E9]
   exact⟨rfl,g2,g3,g4⟩
  ·cases hr
 ·cases hr
theorem fT : ∀ {l:List (Nat×cC)} {f:FuncId},(l.all fun p=>p.1 != f)=true→∀args,yb l f args=none
 | [],f,_,args=>rfl
 |p::l,f,h,args=>by
  simp only[List.all_cons,bz,bne_iff_ne]at h
  have h1:(p.1==f)=false:=by simpa using h.1
  simp only[yb,h1,bf,if_false]
  exact fT h.2 args
theorem A3W {E:Env} {f:FuncId} (h:E.cl.contains f=false) (h2:(E.lb.all fun p=>p.1 != f)=true) (args:List M4):xOf E f args=none:=by
 simp only[xOf,wD h,fT h2]
theorem A0b {E:Env} {f:FuncId} (h:E.cl.contains f=true):xOf E f [.t (.sl false [])]=some ⟨[.t (.sl true [])],[]⟩:=by simp only[xOf,yc h]
theorem wF {E:Env} {f:FuncId} (h2:(E.lb.all fun p=>p.1 != f)=true) (r:List T) (rs:Rows):xOf E f [.t (.sl false (r::rs))]=none:=by
 simp only[xOf,wE,fT h2]
def PP (G:Gt) (P:Program) (f:FuncId) (g:cC):Prop:=∀args res,g args=some res→PH P f=true∧∀w B L us ls,B7 w B args us L ls→(∀b,L b→¬B b)→(∀b,B b→b<w.heap.size)→G.ok B w→Calls P f us.toArray w (y8 w B L ls res)
theorem lS {G:Gt} {P:Program}:∀{l:List (Nat×cC)},(∀p∈l,PP G P p.1 p.2)→Dx G P (yb l)
 | [],h=>fun f args res hr=>by simp[yb]at hr
 |p::l,h=>fun f args res hr=>by
  simp only[yb]at hr
  split at hr
  ·rename_i e
   have e:p.1=f:=by simpa using e
   subst e
   exact h p (List.mem_cons_self ..) args res hr
  ·exact lS (fun q hq=>h q (List.mem_cons_of_mem _ hq)) f args res hr
theorem rV {G:Gt} {P:Program} {E:Env} (h:Dx G P (RY E.cl)) (h2:∀p∈E.lb,PP G P p.1 p.2):Dx G P (xOf E):=fun f args res hr=>by
 unfold xOf at hr
 cases hc:RY E.cl f args with
 |some r=>rw[hc]at hr;cases hr;exact h f args _ hc
 |none=>rw[hc]at hr;exact lS h2 f args res hr
theorem yd {G:Gt} {P:Program} {FT:om}:Dx G P (xOf ⟨FT,[],[]⟩):=rV (fun f args res h=>by simp[RY]at h) (fun p hp=>by cases hp)
theorem cE {w w':World} {B:Nat→Prop} (hB:∀b,B b→b<w.heap.size) (hb:Below w.heap.size w w') {vs:List Value} (h1:∀v∈vs,v.oneCell'=true):y8 w B (fun _=>False) [] ⟨vs.map fun v=> .t (.v v),[]⟩ (.returned (kz vs)) w':=by
 obtain⟨os,tp,ou,sz,fr⟩:=hb
 have hv:∀vs:List Value,(∀v∈vs,v.oneCell'=true)→Fo w' B (vs.map fun v=> .t (.v v)) vs (fun _=>False):=by
  intro vs
  induction vs with
  |nil=>intro _;simp only[List.map_nil,Fo];exact⟨trivial,fun _ h=>h⟩
  |cons v vs ih=>
   intro h1
   simp only[List.map_cons,Fo]
   exact⟨v,vs,fun _=>False,fun _=>False,rfl,⟨by simp only[Ey];exact⟨trivial,fun _ h=>h⟩,h1 v (List.mem_cons_self ..)⟩,ih fun u hu=>h1 u (List.mem_cons_of_mem _ hu),⟨fun b=>by simp,fun b h _=>h⟩⟩
 refine⟨B,fun _=>False,fun _=>False,vs, ?_⟩
 exact{ val:=rfl,vals:=hv vs h1,after:=by simp only[BS];exact⟨trivial,fun _ h=>h⟩,dis:=fun _ h=>h.elim,nr:=fun _ h=>h.elim,na:=fun _ h=>h.elim,old:=fun _ h=>h,sh:=fun _ h=> .inl h,ownr:=fun _ h=>h.elim,owna:=fun _ h=>h.elim,
        inB:=fun b hb=>Nat.lt_of_lt_of_le (hB b hb) sz,frame:=fun b hb _=>fr b hb,size:=sz,os:=os,tape:=tp,output:=ou }
theorem lU {w:World} {B:Nat→Prop}:∀{vs us:List Value} {L:Nat→Prop} {ls:List Gw},B7 w B (vs.map fun v=> .t (.v v)) us L ls→us=vs∧(∀b,¬L b)∧ls=[]
 | [],us,L,ls,h=>by simp only[List.map_nil,B7]at h;exact⟨h.1,h.2.1,h.2.2⟩
 |v::vs,us,L,ls,h=>by
  simp only[List.map_cons,B7]at h
  obtain⟨u,us',S1,S2,l1,l2,rfl,h1,h2,h3,rfl⟩:=h
  simp only[Ba,E9]at h1
  obtain⟨rfl,_,e1,rfl⟩:=h1
  obtain⟨rfl,e2,rfl⟩:=lU h2
  exact⟨rfl,fun b hb=>((h3.1 b).1 hb).elim (e1 b) (e2 b),rfl⟩
theorem Hr {G:Gt} {P:Program} {f:FuncId} {g:cC} (hc:PH P f=true) (h:∀args res,g args=some res→∃vs rs:List Value,args=vs.map (fun v=> .t (.v v))∧res=⟨rs.map fun v=> .t (.v v),[]⟩∧(∀v∈rs,v.oneCell'=true)∧
  ∀w B,G.ok B w→Calls P f vs.toArray w fun e w'=>e= .returned (kz rs)∧Below w.heap.size w w'):PP G P f g:=fun args res hr=>by
 refine⟨hc,fun w B L us ls hA hL hB hG=> ?_⟩
 obtain⟨vs,rs,rfl,rfl,h1,h2⟩:=h args res hr
 obtain⟨rfl,hE,rfl⟩:=lU hA
 have hL0:L=fun _=>False:=funext fun b=>propext ⟨fun h=>hE b h,fun h=>h.elim⟩
 subst hL0
 refine Calls.mono (h2 w B hG) ?_
 rintro e w' ⟨rfl,hb⟩
 exact cE hB hb h1
noncomputable section
variable (FT:Env)
def fin (c:Cx) (s:List V) (r:R):Option Ay:=
 ((ol s c.res M.ret).run (fun _ _=>none) 0 r).bind fun o=>if XX o.2 c.na=c.sh then some { vals:=o.1,after:=kj o.2 c.na }else none
def un (c:Cx):List Fr→Ex×St→Option Ay
 | [],q=>match q.1 with
  | .exit _=>none
  |_=>fin c q.2.s q.2.r
 | .th b::F,q=>(A3S FT.ft (xOf FT) b q).bind (un c F)
 | .lv id::F,q=>un c F (A3T id q)
 | .hk hs::F,q=>(A3U hs q).bind (un c F)
def gn (c:Cx) (F:List Fr) (s:List V) (r:R):Option Ay:=un FT c F (.normal,⟨s,r⟩)
def gx (c:Cx) (F:List Fr) (id:Nat) (s:List V) (r:R):Option Ay:=un FT c F (.exit id,⟨s,r⟩)
def gr (c:Cx) (F:List Fr) (s:List V) (r:R):Option Ay:=un FT c F (.ret,⟨s,r⟩)
def ev (c:Cx) (k:K) (F:List Fr) (s:List V) (r:R):Option Ay:=(rk FT.ft (xOf FT) k ⟨s,r⟩).bind (un FT c F)
theorem AAR (c:Cx) (s:List V) (r:R):gn FT c [] s r=fin c s r:=rfl
theorem ACM (c:Cx) (b:K) (F:List Fr) (s:List V) (r:R):gn FT c (.th b::F) s r=ev FT c b F s r:=rfl
theorem ACN (c:Cx) (id:Nat) (F:List Fr) (s:List V) (r:R):gn FT c (.lv id::F) s r=gn FT c F s r:=rfl
theorem ACO (c:Cx) (b:K) (F:List Fr) (id:Nat) (s:List V) (r:R):gx FT c (.th b::F) id s r=gx FT c F id s r:=rfl
theorem ACP (c:Cx) (hs:List H) (F:List Fr) (id:Nat) (s:List V) (r:R):gx FT c (.hk hs::F) id s r=gx FT c F id s r:=rfl
theorem ACQ (c:Cx) (j:Nat) (F:List Fr) (id:Nat) (s:List V) (r:R):gx FT c (.lv j::F) id s r=if id=j then gn FT c F s r else gx FT c F id s r:=by
 simp only[gx,gn,un,A3T];split<;>rfl
theorem AAS (c:Cx) (id:Nat) (s:List V) (r:R):gx FT c [] id s r=none:=rfl
theorem ACR (c:Cx) (b:K) (F:List Fr) (s:List V) (r:R):gr FT c (.th b::F) s r=gr FT c F s r:=rfl
theorem ACS (c:Cx) (hs:List H) (F:List Fr) (s:List V) (r:R):gr FT c (.hk hs::F) s r=gr FT c F s r:=rfl
theorem ACT (c:Cx) (j:Nat) (F:List Fr) (s:List V) (r:R):gr FT c (.lv j::F) s r=gr FT c F s r:=rfl
theorem AAT (c:Cx) (s:List V) (r:R):gr FT c [] s r=fin c s r:=rfl
def hn (c:Cx) (hs:List H) (F:List Fr) (s:List V) (r:R):Option Ay:=(VP hs ⟨s,r⟩).bind fun st=>gn FT c F st.s st.r
theorem ACU (c:Cx) (hs:List H) (F:List Fr) (s:List V) (r:R):gn FT c (.hk hs::F) s r=hn FT c hs F s r:=by
 simp only[gn,un,A3U,hn];cases VP hs ⟨s,r⟩<;>rfl
theorem AAU (c:Cx) (F:List Fr) (s:List V) (r:R):hn FT c [] F s r=gn FT c F s r:=rfl
def wG : List Nat→List V→List V
 | [],s=>s
 |t::ts,s=>wG ts (s.set t .dead)
theorem A3X (ts:List Nat):∀s,ts.foldl (fun s t=>s.set t V.dead) s=wG ts s:=by
 induction ts with
 |nil=>intro s;rfl
 |cons t ts ih=>intro s;exact ih _
theorem A76 (c:Cx) (ts:List Nat) (hs:List H) (F:List Fr) (s:List V) (r:R):hn FT c (.kill ts::hs) F s r=hn FT c hs F (wG ts s) r:=by
 simp only[hn,VP,doH,A3X,Option.bind_some]
def clS (ts:List Nat) (i:Nat):List V→List V
 | []=>[]
 |v::vs=>PK ts i v::clS ts (i+1) vs
def clR (ts:List Nat) (i:Nat):R→R
 | []=>[]
 |v::vs=>TO ts i v::clR ts (i+1) vs
theorem ye (ts:List Nat):∀(s:List V) (i:Nat),s.mapIdx (fun j=>PK ts (i+j))=clS ts i s
 | [],i=>rfl
 |v::vs,i=>by
  rw[List.mapIdx_cons]
  simp only[clS,Nat.add_zero]
  congr 1
  rw[←ye ts vs (i+1)]
  congr 1;funext j;rw[show i+(j+1)=i+1+j by omega]
theorem A3Y (ts:List Nat):∀(s:R) (i:Nat),s.mapIdx (fun j=>TO ts (i+j))=clR ts i s
 | [],i=>rfl
 |v::vs,i=>by
  rw[List.mapIdx_cons]
  simp only[clR,Nat.add_zero]
  congr 1
  rw[←A3Y ts vs (i+1)]
  congr 1;funext j;rw[show i+(j+1)=i+1+j by omega]
theorem A3Z (c:Cx) (ts:List Nat) (hs:List H) (F:List Fr) (s:List V) (r:R):hn FT c (.clean ts::hs) F s r=hn FT c hs F (clS ts 0 s) (clR ts 0 r):=by
 have h1:=ye ts s 0
 have h2:=A3Y ts r 0
 simp only[Nat.zero_add]at h1 h2
 simp only[hn,VP,doH,Option.bind_some,←h1,←h2]
def yf (r:R):V→Option (V×R)
 | .ref id n=>match Aa r id with
  | .mem rows _ fx=>if rows.length=n∧fx=false then some (.t (.sl false (Aw rows)),Bf r id .dead)else none
  | .dead=>if n=0 then some (.t (.sl false []),Bf r id .dead)else none
 | .nil=>some (.t (.sl false []),r)
 | .t (.sl o rows)=>some (.t (.sl o rows),r)
 | .ptr id p i off n _=>if p.isEmpty&&(i==0&&n==1)then(match Aa r id with
  | .mem [cells] _ fx=>if off<cells.length∧fx=false then some (.pp ((Ho cells).drop off),Bf r id .dead)else none
  |_=>none)else none
 |_=>none
def ACV (r:R) (id:Id) (off:Nat):EQ→Option (V×R)
 | .mem [cells] _ fx=>if off<cells.length∧fx=false then some (.pp ((Ho cells).drop off),Bf r id .dead)else none
 |_=>none
theorem A3a (r:R) (id:Id) (off st:Nat):yf r (.ptr id [] 0 off 1 st)=ACV r id off (Aa r id):=rfl
theorem A3b (r:R) (id:Id) (off:Nat) (cells:List T) (st:Nat) (fx:Bool):ACV r id off (.mem [cells] st fx)=if off<cells.length∧fx=false then some (.pp ((Ho cells).drop off),Bf r id .dead)else none:=rfl
def A3c (r:R) (id:Id) (n:Nat):EQ→Option (V×R)
 | .mem rows _ fx=>if rows.length=n∧fx=false then some (.t (.sl false (Aw rows)),Bf r id .dead)else none
 | .dead=>if n=0 then some (.t (.sl false []),Bf r id .dead)else none
theorem wH (r:R) (id:Id) (n:Nat):yf r (.ref id n)=A3c r id n (Aa r id):=by
 simp only[yf];cases Aa r id<;>rfl
theorem A3d (r:R) (id:Id) (n:Nat) (rows:Rows) (st:Nat) (fx:Bool):A3c r id n (.mem rows st fx)=if rows.length=n∧fx=false then some (.t (.sl false (Aw rows)),Bf r id .dead)else none:=rfl
theorem A3e (r:R):yf r .nil=some (.t (.sl false []),r):=rfl
theorem AAV (r:R) (o:Bool) (rows:Rows):yf r (.t (.sl o rows))=some (.t (.sl o rows),r):=rfl
theorem A1Q (c:Cx) (t:Nat) (hs:List H) (F:List Fr) (s:List V) (r:R):hn FT c (.freeze t::hs) F s r=(yf r (s.getD t .dead)).bind fun q=>hn FT c hs F (s.set t q.1) q.2:=by
 simp only[hn,VP,doH]
 generalize s.getD t .dead=v
 cases v<;>try rfl
 ·rename_i q;cases q<;>rfl
 ·rename_i id n
  rw[wH]
  simp only[Q1,M.run]
  cases Aa r id with
  |dead=>
   simp only[A3c]
   split<;>rfl
  |mem rows st fx=>
   simp only[A3c]
   split<;>rfl
 ·rename_i id p i off n st
  simp only[yf,Q1]
  by_cases h:(p.isEmpty&&(i==0&&n==1))=true
  ·rw[if_pos h,if_pos h]
   simp only[M.run]
   generalize Aa r id=e
   cases e with
   |dead=>rfl
   |mem rows st fx=>
    cases rows with
    |nil=>rfl
    |cons cells rest=>
     cases rest with
     |cons _ _=>rfl
     |nil=>
      simp only
      by_cases h2:off<cells.length∧fx=false
      ·rw[if_pos h2,if_pos h2];rfl
      ·rw[if_neg h2,if_neg h2];rfl
  ·rw[if_neg h,if_neg h];rfl
def A77 (c:Cx) (t d:Nat) (hs:List H) (F:List Fr) (s:List V) (r:R):V→Option Ay
 | .nil=>if d<r.length&&(r.getD d []).isEmpty then hn FT c hs F (s.set t (.ref (d,0) 0)) (r.set d [.mem [] 0 false])else none
 | .ref _ _=>hn FT c hs F s r
 |_=>none
theorem A3f (c:Cx) (t d:Nat) (hs:List H) (F:List Fr) (s:List V) (r:R):A77 FT c t d hs F s r .nil=if d<r.length&&(r.getD d []).isEmpty then hn FT c hs F (s.set t (.ref (d,0) 0)) (r.set d [.mem [] 0 false])else none:=rfl
theorem A3g (c:Cx) (t d:Nat) (hs:List H) (F:List Fr) (s:List V) (r:R) (id:Id) (n:Nat):A77 FT c t d hs F s r (.ref id n)=hn FT c hs F s r:=rfl
theorem AAW (c:Cx) (t d:Nat) (hs:List H) (F:List Fr) (s:List V) (r:R):hn FT c (.own t d::hs) F s r=A77 FT c t d hs F s r (s.getD t .dead):=by
 simp only[hn,VP,doH]
 generalize s.getD t .dead=v
 cases v<;>try rfl
 simp only[A77]
 split<;>rfl
def A3h (c:Cx) (t d:Nat) (id:Id) (n:Nat) (hs:List H) (F:List Fr) (s:List V) (r:R):EQ→List EQ→Option Ay
 | .mem rows _ false,[.dead]=>if rows.length=n∧id.1≠d then hn FT c hs F ((clS [id.1,d] 0 s).set t (.ref (d,0) n)) ((r.set id.1 []).set d [.mem rows 0 false])else none
 |_,_=>none
def A9i (c:Cx) (t d:Nat) (hs:List H) (F:List Fr) (s:List V) (r:R):V→Option Ay
 | .ref id n=>A3h FT c t d id n hs F s r (Aa r id) (r.getD d [])
 |_=>none
theorem rW (c:Cx) (t d:Nat) (hs:List H) (F:List Fr) (s:List V) (r:R) (id:Id) (n:Nat):A9i FT c t d hs F s r (.ref id n)=A3h FT c t d id n hs F s r (Aa r id) (r.getD d []):=rfl
theorem rX (c:Cx) (t d:Nat) (id:Id) (n:Nat) (hs:List H) (F:List Fr) (s:List V) (r:R) (rows:Rows) (st:Nat):A3h FT c t d id n hs F s r (.mem rows st false) [.dead]=if rows.length=n∧id.1≠d then hn FT c hs F ((clS [id.1,d] 0 s).set t (.ref (d,0) n)) ((r.set id.1 []).set d [.mem rows 0 false])else none:=rfl
theorem A78 (c:Cx) (t d:Nat) (hs:List H) (F:List Fr) (s:List V) (r:R):hn FT c (.home t d::hs) F s r=A9i FT c t d hs F s r (s.getD t .dead):=by
 simp only[hn,VP,doH]
 generalize s.getD t .dead=v
 cases v<;>try rfl
 rename_i id n
 have h1:=ye [id.1,d] s 0
 simp only[Nat.zero_add]at h1
 rw[rW]
 simp only
 generalize Aa r id=e
 generalize r.getD d []=l
 cases e with
 |dead=>rfl
 |mem rows st fx=>
  cases fx with
  |true=>rfl
  |false=>
   match l with
   | []=>rfl
   | [.dead]=>
    rw[rX]
    by_cases hc:rows.length=n∧id.1≠d
    ·simp only[if_pos hc,←h1];rfl
    ·simp only[if_neg hc];rfl
   | .mem .. ::_=>rfl
   | .dead::_::_=>rfl
def A0c (c:Cx) (d k:Nat) (rows:Rows) (stt:Nat) (fx:Bool) (hs:List H) (F:List Fr) (s:List V) (r:R):Option T→Option Ay
 |some (.sl true rs)=>hn FT c hs F s (Bf r (d,0) (.mem (BR rows [] 0 k (.sl false (Aw rs))) stt fx))
 |some (.sl false _)=>hn FT c hs F s r
 |_=>none
def A9j (c:Cx) (d k:Nat) (hs:List H) (F:List Fr) (s:List V) (r:R):EQ→Option Ay
 | .mem rows stt fx=>A0c FT c d k rows stt fx hs F s r (C6 rows [] 0 k)
 |_=>none
theorem rY (c:Cx) (d k:Nat) (hs:List H) (F:List Fr) (s:List V) (r:R) (rows:Rows) (stt:Nat) (fx:Bool):A9j FT c d k hs F s r (.mem rows stt fx)=A0c FT c d k rows stt fx hs F s r (C6 rows [] 0 k):=rfl
theorem A3i (c:Cx) (d k:Nat) (rows:Rows) (stt:Nat) (fx:Bool) (hs:List H) (F:List Fr) (s:List V) (r:R) (rs:Rows):A0c FT c d k rows stt fx hs F s r (some (.sl true rs))=hn FT c hs F s (Bf r (d,0) (.mem (BR rows [] 0 k (.sl false (Aw rs))) stt fx)):=rfl
theorem A3j (c:Cx) (d k:Nat) (rows:Rows) (stt:Nat) (fx:Bool) (hs:List H) (F:List Fr) (s:List V) (r:R) (rs:Rows):A0c FT c d k rows stt fx hs F s r (some (.sl false rs))=hn FT c hs F s r:=rfl
theorem A79 (c:Cx) (d k:Nat) (hs:List H) (F:List Fr) (s:List V) (r:R):hn FT c (.frzc d k::hs) F s r=A9j FT c d k hs F s r (Aa r (d,0)):=by
 simp only[hn,VP,doH]
 generalize Aa r (d,0)=e
 cases e with
 |dead=>rfl
 |mem rows stt fx=>
  simp only[rY]
  generalize C6 rows [] 0 k=o
  match o with
  |none=>rfl
  |some (.v x)=>rfl
  |some .hole=>rfl
  |some (.pp _)=>rfl
  |some (.fn _ _)=>rfl
  |some (.sl false rs)=>rfl
  |some (.sl true rs)=>rfl
def A7A (c:Cx) (d:Nat) (hs:List H) (F:List Fr) (s:List V) (r:R):EQ→Option Ay
 | .mem rows st fx=>hn FT c hs F s (Bf r (d,0) (.mem rows st fx))
 | .dead=>none
theorem A3k (c:Cx) (d:Nat) (hs:List H) (F:List Fr) (s:List V) (r:R) (rows:Rows) (st:Nat) (fx:Bool):A7A FT c d hs F s r (.mem rows st fx)=hn FT c hs F s (Bf r (d,0) (.mem rows st fx)):=rfl
theorem AAX (c:Cx) (d:Nat) (hs:List H) (F:List Fr) (s:List V) (r:R):hn FT c (.opn d::hs) F s r=A7A FT c d hs F s r (Aa r (d,0)):=by
 simp only[hn,VP,doH]
 cases he:Aa r (d,0)with
 |dead=>rfl
 |mem rows st fx=>
  have hth:Au r (d,0):=Cd (by rw[he];simp)
  have:=rN hth
  rw[he]at this
  simp only[A7A,this]
  rfl
def A3l (c:Cx) (d k:Nat) (rows:Rows) (stt:Nat) (fx:Bool) (hs:List H) (F:List Fr) (s:List V) (r:R):Option T→Option Ay
 |some (.sl true rs)=>hn FT c hs F s (Bf r (d,0) (.mem (BR rows [] 0 k (.sl true (Aw rs))) (stt+1) fx))
 |_=>none
def A9k (c:Cx) (d k:Nat) (hs:List H) (F:List Fr) (s:List V) (r:R):EQ→Option Ay
 | .mem rows stt fx=>A3l FT c d k rows stt fx hs F s r (C6 rows [] 0 k)
 |_=>none
theorem rZ (c:Cx) (d k:Nat) (hs:List H) (F:List Fr) (s:List V) (r:R) (rows:Rows) (stt:Nat) (fx:Bool):A9k FT c d k hs F s r (.mem rows stt fx)=A3l FT c d k rows stt fx hs F s r (C6 rows [] 0 k):=rfl
theorem A3m (c:Cx) (d k:Nat) (rows:Rows) (stt:Nat) (fx:Bool) (hs:List H) (F:List Fr) (s:List V) (r:R) (rs:Rows):A3l FT c d k rows stt fx hs F s r (some (.sl true rs))=hn FT c hs F s (Bf r (d,0) (.mem (BR rows [] 0 k (.sl true (Aw rs))) (stt+1) fx)):=rfl
theorem A7B (c:Cx) (d k:Nat) (hs:List H) (F:List Fr) (s:List V) (r:R):hn FT c (.frzb d k::hs) F s r=A9k FT c d k hs F s r (Aa r (d,0)):=by
 simp only[hn,VP,doH]
 generalize Aa r (d,0)=e
 cases e with
 |dead=>rfl
 |mem rows stt fx=>
  simp only[rZ]
  generalize C6 rows [] 0 k=o
  match o with
  |none=>rfl
  |some (.v x)=>rfl
  |some .hole=>rfl
  |some (.pp _)=>rfl
  |some (.fn _ _)=>rfl
  |some (.sl false rs)=>rfl
  |some (.sl true rs)=>rfl
def A9l (c:Cx) (d k:Nat) (hs:List H) (F:List Fr) (s:List V) (r:R):EQ→Option Ay
 | .mem rows stt fx=>hn FT c hs F s (Bf r (d,k) (.mem (Aw rows) (stt+1) fx))
 |_=>none
theorem A1R (c:Cx) (d k:Nat) (hs:List H) (F:List Fr) (s:List V) (r:R) (rows:Rows) (stt:Nat) (fx:Bool):A9l FT c d k hs F s r (.mem rows stt fx)=hn FT c hs F s (Bf r (d,k) (.mem (Aw rows) (stt+1) fx)):=rfl
theorem A7C (c:Cx) (d k:Nat) (hs:List H) (F:List Fr) (s:List V) (r:R):hn FT c (.frzr d k::hs) F s r=A9l FT c d k hs F s r (Aa r (d,k)):=by
 simp only[hn,VP,doH]
 generalize Aa r (d,k)=e
 cases e with
 |dead=>rfl
 |mem rows stt fx=>rfl
theorem ACW (c:Cx) (hs:List H) (k:K) (F:List Fr) (s:List V) (r:R):ev FT c (.hp hs k) F s r=hn FT c hs (.th k::F) s r:=by
 simp only[ev,ACL,hn,Option.bind_assoc];rfl
theorem A7D (c:Cx) (F:List Fr) (s:List V) (r:R):ev FT c .skip F s r=gn FT c F s r:=by simp only[ev,A73];rfl
theorem ACX (c:Cx) (id:Nat) (F:List Fr) (s:List V) (r:R):ev FT c (.ex id) F s r=gx FT c F id s r:=by simp only[ev,ACK];rfl
theorem AAY (c:Cx) (F:List Fr) (s:List V) (r:R):ev FT c .ret F s r=gr FT c F s r:=by simp only[ev,AAN];rfl
theorem AAZ (c:Cx) (a b:K) (F:List Fr) (s:List V) (r:R):ev FT c (.seq a b) F s r=ev FT c a (.th b::F) s r:=by simp only[ev,AAO,Option.bind_assoc];rfl
theorem AAa (c:Cx) (id:Nat) (b:K) (F:List Fr) (s:List V) (r:R):ev FT c (.blk id b) F s r=ev FT c b (.lv id::F) s r:=by
 simp only[ev,AAP];cases rk FT.ft (xOf FT) b ⟨s,r⟩<;>rfl
theorem ADK (c:Cx) (hs:List H) (k:K) (F:List Fr) (s:List V) (r:R):ev FT c (.h hs k) F s r=ev FT c k (.hk hs::F) s r:=by simp only[ev,ADI,Option.bind_assoc];rfl
theorem AV (c:Cx) (b:K) (F:List Fr) (s:List V) (r:R):ev FT c (.loop b) F s r=ev FT c b (.th (.loop b)::F) s r:=by
 simp only[ev];rw[A75,Option.bind_assoc];rfl
def ck (c:Cx) (v:V) (a b:K) (F:List Fr) (s:List V) (r:R):Option Ay:=match v with
 | .t (.v (.bool true))=>ev FT c a F s r
 | .t (.v (.bool false))=>ev FT c b F s r
 |_=>none
theorem A7E (c:Cx) (x:CY) (a b:K) (F:List Fr) (s:List V) (r:R):ev FT c (.cond x a b) F s r=ck FT c (A6 s x) a b F s r:=by
 simp only[ev,A74,ck,ckV];split<;>simp_all
theorem A7F (c:Cx) (a b:K) (F:List Fr) (s:List V) (r:R):ck FT c (.t (.v (.bool true))) a b F s r=ev FT c a F s r:=rfl
theorem A3n (c:Cx) (a b:K) (F:List Fr) (s:List V) (r:R):ck FT c (.t (.v (.bool false))) a b F s r=ev FT c b F s r:=rfl
def an (c:Cx) (dr:Bool) (d:Option Nat) (es:List EV) (F:List Fr) (s:List V) (q:V×R):Option Ay:=
 ev FT c (.reg dr es) F (match d with|some t=>s.set t q.1|none=>s) q.2
def opR (dr:Bool) (d:Nat) (o:O) (rd wr:List Nat) (s:List V) (r:R):Option (V×R):=
 if dr then(BD s d o).runA (dn FT) d rd wr r else(BD s d o).run (dn FT) d r
theorem AAb (c:Cx) (dr:Bool) (F:List Fr) (s:List V) (r:R):ev FT c (.reg dr []) F s r=gn FT c F s r:=by simp only[ev,cA];rfl
theorem A7G (c:Cx) (dr:Bool) (t:Nat) (es:List EV) (F:List Fr) (s:List V) (v:V) (r:R):an FT c dr (some t) es F s (v,r)=ev FT c (.reg dr es) F (s.set t v) r:=rfl
theorem A7H (c:Cx) (dr:Bool) (es:List EV) (F:List Fr) (s:List V) (v:V) (r:R):an FT c dr none es F s (v,r)=ev FT c (.reg dr es) F s r:=rfl
theorem A9m (c:Cx) (dr:Bool) (d:Option Nat) (o:O) (rd wr:List Nat) (es:List EV) (F:List Fr) (s:List V) (r:R):
  ev FT c (.reg dr (⟨d,none,o,rd,wr⟩::es)) F s r=(opR FT dr (d.getD 0) o rd wr s r).bind (an FT c dr d es F s):=by
 simp only[ev,cA,CS,DD,Gu,Option.bind_some,if_true,opR]
 cases dr<;>simp only[if_true,if_false,bf]
 ·cases M.run (dn FT) (d.getD 0) (BD s (d.getD 0) o) r with
  |none=>rfl
  |some q=>cases d<;>simp[an,ev,cA,St.put]
 ·cases M.runA (dn FT) (d.getD 0) rd wr (BD s (d.getD 0) o) r with
  |none=>rfl
  |some q=>cases d<;>simp[an,ev,cA,St.put]
def gd (c:Cx) (dr:Bool) (v:V) (w:Bool) (d:Option Nat) (o:O) (rd wr:List Nat) (es:List EV) (F:List Fr) (s:List V) (r:R):Option Ay:=match v with
 | .t (.v (.bool b))=>if b==w then(opR FT dr (d.getD 0) o rd wr s r).bind (an FT c dr d es F s)else an FT c dr d es F s (.tup [],r)
 | .tup []=>an FT c dr d es F s (.tup [],r)
 |_=>none
theorem ACY (c:Cx) (dr:Bool) (d:Option Nat) (t:Nat) (w:Bool) (o:O) (rd wr:List Nat) (es:List EV) (F:List Fr) (s:List V) (r:R):
  ev FT c (.reg dr (⟨d,some (t,w),o,rd,wr⟩::es)) F s r=gd FT c dr (s.getD t .dead) w d o rd wr es F s r:=by
 have h0:=A9m FT c dr d o rd wr es F s r
 simp only[ev,cA,CS,DD,Gu,Option.bind_some,if_true]at h0
 simp only[ev,cA,CS,DD,Gu]
 generalize s.getD t .dead=v
 have hs:(Option.map (fun st'=>(Ex.normal,st')) ((some ((⟨s,r⟩:St).put d (V.tup []))).bind (CS (dn FT) dr es))).bind (un FT c F)=an FT c dr d es F s (.tup [],r):=by
  cases d<;>simp[an,ev,cA,St.put]
 have e0:gd FT c dr v w d o rd wr es F s r=(match v with
  | .t (.v (.bool b))=>if b==w then(opR FT dr (d.getD 0) o rd wr s r).bind (an FT c dr d es F s)else an FT c dr d es F s (.tup [],r)
  | .tup []=>an FT c dr d es F s (.tup [],r)
  |_=>none):=rfl
 rw[e0]
 match v with
 | .t (.v (.bool b))=>
  simp only[Option.bind_some]
  split
  ·rw[←h0]
  ·exact hs
 | .tup []=>exact hs
 | .nil| .agg _| .ref _ _| .sub .. | .ptr .. | .pp _| .fn _ _| .vb .. | .vw .. | .dead| .tup (_::_)=>rfl
 | .t .hole| .t (.sl _ _)| .t (.pp _)| .t (.fn _ _)=>rfl
 | .t (.v x)=>cases x<;>first|rfl|(simp only[Option.bind_some];split;(rw[←h0]);exact hs)
theorem A7I (c:Cx) (dr w:Bool) (d:Option Nat) (o:O) (rd wr:List Nat) (es:List EV) (F:List Fr) (s:List V) (r:R):
  gd FT c dr (.tup []) w d o rd wr es F s r=an FT c dr d es F s (.tup [],r):=rfl
theorem ACZ (c:Cx) (dr:Bool) (d:Option Nat) (o:O) (rd wr:List Nat) (es:List EV) (F:List Fr) (s:List V) (r:R):
  gd FT c dr (.t (.v (.bool true))) true d o rd wr es F s r=(opR FT dr (d.getD 0) o rd wr s r).bind (an FT c dr d es F s):=rfl
theorem ACa (c:Cx) (dr:Bool) (d:Option Nat) (o:O) (rd wr:List Nat) (es:List EV) (F:List Fr) (s:List V) (r:R):
  gd FT c dr (.t (.v (.bool false))) false d o rd wr es F s r=(opR FT dr (d.getD 0) o rd wr s r).bind (an FT c dr d es F s):=rfl
theorem ACb (c:Cx) (dr:Bool) (d:Option Nat) (o:O) (rd wr:List Nat) (es:List EV) (F:List Fr) (s:List V) (r:R):
  gd FT c dr (.t (.v (.bool true))) false d o rd wr es F s r=an FT c dr d es F s (.tup [],r):=rfl
theorem ACc (c:Cx) (dr:Bool) (d:Option Nat) (o:O) (rd wr:List Nat) (es:List EV) (F:List Fr) (s:List V) (r:R):
  gd FT c dr (.t (.v (.bool false))) true d o rd wr es F s r=an FT c dr d es F s (.tup [],r):=rfl
theorem A5 {f:FuncId} {fn:F} {args:List M4} (hf:FT.ft f=some fn) (hx:xOf FT f args=none) (hl:args.length≤fn.nt) (hc:fn.co=none:=by rfl):
  dn FT f args=ev FT ⟨args.length,XX (enter fn.nt args).r args.length,fn.res⟩ fn.body [] (enter fn.nt args).s (enter fn.nt args).r:=by
 unfold dn
 rw[AAQ FT.ft (xOf FT) hf hx hl hc]
 simp only[ev]
 show(rk FT.ft (xOf FT) fn.body (enter fn.nt args)).bind _=(rk FT.ft (xOf FT) fn.body (enter fn.nt args)).bind _
 congr 1
end
end TT
