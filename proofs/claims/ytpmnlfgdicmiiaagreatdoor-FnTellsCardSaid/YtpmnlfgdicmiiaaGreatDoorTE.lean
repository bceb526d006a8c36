import Derived.Test.YtpmnlfgdicmiiaaGreatDoorTA
import Derived.Test.YtpmnlfgdicmiiaaGreatDoorTD25
import Derived.DataReads
import GoSem.ClaimChange
import Derived.Below
set_option linter.unusedVariables false
set_option linter.unusedSimpArgs false
namespace TT
open Go
def Le {α:Type} (a b:Option α):Prop:=∀r,a=some r→b=some r
theorem Le.refl {α:Type} (a:Option α):Le a a:=fun _ h=>h
theorem Le.none {α:Type} (b:Option α):Le none b:=fun _ h=>by cases h
theorem Le.trans {α:Type} {a b c:Option α} (h:Le a b) (h':Le b c):Le a c:=fun r hr=>h' r (h r hr)
theorem Le.bind {α β:Type} {a b:Option α} {f g:α→Option β} (h:Le a b) (hf:∀x,Le (f x) (g x)):Le (a.bind f) (b.bind g):=by
 intro r hr
 obtain⟨x,hx,hy⟩:=Option.bind_eq_some_iff.1 hr
 exact Option.bind_eq_some_iff.2 ⟨x,h x hx,hf x r hy⟩
theorem Le.map {α β:Type} {a b:Option α} {f:α→β} (h:Le a b):Le (a.map f) (b.map f):=by
 intro r hr
 obtain⟨x,hx,hy⟩:=Option.map_eq_some_iff.1 hr
 exact Option.map_eq_some_iff.2 ⟨x,h x hx,hy⟩
theorem Le.ite {α:Type} {c:Prop} [Decidable c] {a b a' b':Option α} (h:Le a a') (h':Le b b'):Le (if c then a else b) (if c then a' else b'):=by
 split
 ·exact h
 ·exact h'
def CLe (c c':Ai):Prop:=∀f args,Le (c f args) (c' f args)
theorem M.run_mono {α:Type} {c c':Ai} (h:CLe c c') (d:Nat) (m:M α):∀r,Le (m.run c d r) (m.run c' d r):=by
 induction m with
 |ret v=>intro r;exact Le.refl _
 |fail=>intro r;exact Le.refl _
 |get id k ih=>intro r;simpa [M.run] using ih _ r
 |set id e m ih=>intro r;simpa [M.run] using ih _
 |new es m ih=>intro r;simp only[M.run];exact Le.ite (ih _) (Le.refl _)
 |call f args k ih=>intro r;simp only[M.run];exact Le.bind (h f args) fun x=>ih x r
theorem M.runA_mono {α:Type} {c c':Ai} (h:CLe c c') (d:Nat) (rd wr:List Nat) (m:M α):∀r,Le (m.runA c d rd wr r) (m.runA c' d rd wr r):=by
 induction m with
 |ret v=>intro r;exact Le.refl _
 |fail=>intro r;exact Le.refl _
 |get id k ih=>intro r;simp only[M.runA];exact Le.ite (ih _ r) (Le.refl _)
 |set id e m ih=>intro r;simp only[M.runA];exact Le.ite (ih _) (Le.refl _)
 |new es m ih=>intro r;simp only[M.runA];exact Le.ite (ih _) (Le.refl _)
 |call f args k ih=>intro r;simp only[M.runA];exact Le.bind (h f args) fun x=>ih x r
theorem kT {c c':Ai} (h:CLe c c') (draw:Bool) (e:FD) (st:St):Le (Dl c draw e st) (Dl c' draw e st):=by
 unfold Dl
 refine Le.bind (Le.refl _) fun w=> ?_
 refine Le.ite (Le.map ?_) (Le.refl _)
 exact Le.ite (M.runA_mono h _ _ _ _ _) (M.run_mono h _ _ _)
theorem Y2 {c c':Ai} (h:CLe c c') (draw:Bool):∀(es:List FD) (st:St),Le (Cp c draw es st) (Cp c' draw es st)
 | [],st=>Le.refl _
 |e::es,st=>by simp only[Cp];exact Le.bind (kT h draw e st) fun st'=>Y2 h draw es st'
theorem ZS {f g:St→Option (Ex×St)} (h:∀st,Le (f st) (g st)):∀n m,n≤m→∀st,Le (iter f n st) (iter g m st)
 |0,m,_,st=>Le.none _
 |n+1,0,h',st=>absurd h' (by omega)
 |n+1,m+1,h',st=>by
  simp only[iter]
  refine Le.bind (h st) fun q=> ?_
  obtain⟨e,st'⟩:=q
  cases e with
  |normal=>exact ZS h n m (by omega) st'
  |exit id=>exact Le.refl _
  |ret=>exact Le.refl _
theorem IV {c c':Ai} (h:CLe c c') {n m:Nat} (hn:n≤m):∀(k:K) (st:St),Le (Di c n k st) (Di c' m k st)
 | .skip,st=>Le.refl _
 | .reg draw ops,st=>by simp only[Di];exact Le.map (Y2 h draw ops st)
 | .seq a b,st=>by
  simp only[Di]
  refine Le.bind (IV h hn a st) fun q=> ?_
  obtain⟨e,st'⟩:=q
  cases e with
  |normal=>exact IV h hn b st'
  |exit id=>exact Le.refl _
  |ret=>exact Le.refl _
 | .cond x a b,st=>by
  simp only[Di]
  split
  ·exact IV h hn a st
  ·exact IV h hn b st
  ·exact Le.refl _
 | .blk id b,st=>by simp only[Di];exact Le.map (IV h hn b st)
 | .loop b,st=>by simp only[Di];exact ZS (fun st=>IV h hn b st) n m hn st
 | .ex id,st=>Le.refl _
 | .ret,st=>Le.refl _
 | .h hs k,st=>by
  simp only[Di]
  refine Le.bind (IV h hn k st) fun q=> ?_
  exact Le.refl _
 | .hp hs k,st=>by
  simp only[Di]
  exact Le.bind (Le.refl _) fun q=>IV h hn k q
theorem ez {c c':Ai} (h:CLe c c') {n m:Nat} (hn:n≤m) (nt:Nat) (res:List RK) (body:K) (args:List NH):Le (iH c n nt res body args) (iH c' m nt res body args):=by
 unfold iH
 refine Le.ite (Le.bind (IV h hn _ _) fun q=>Le.refl _) (Le.refl _)
theorem A0d {c c':Ai} (h:CLe c c') {n m:Nat} (hn:n≤m) (fn:F) (args:List NH):Le (nk c n fn args) (nk c' m fn args):=by
 unfold nk
 cases fn.co with
 |none=>exact ez h hn _ _ _ _
 |some k=>cases k with
  |k k=>exact Le.bind (ez h hn _ _ _ _) fun x=>Le.bind (ez h hn _ _ _ _) fun y=>Le.refl _
  |m m=>exact Le.map (M.run_mono h 0 _ _)
theorem kU (FT:nj) (X:Ai):∀n,CLe (J0 FT X n) (J0 FT X (n+1))
 |0=>fun f args=>Le.none _
 |n+1=>fun f args=>by
  simp only[J0]
  split
  ·exact Le.refl _
  ·exact Le.bind (Le.refl _) fun fn=>A0d (kU FT X n) (Nat.le_succ n) fn args
theorem J7 (FT:nj) (X:Ai) {n m:Nat} (h:n≤m):CLe (J0 FT X n) (J0 FT X m):=by
 induction h with
 |refl=>exact fun f args=>Le.refl _
 |step _ ih=>exact fun f args=>(ih f args).trans (kU FT X _ f args)
open Classical in
noncomputable def lim {α:Type} (f:Nat→Option α):Option α:=if h:∃a n,f n=some a then some (Classical.choose h)else none
theorem cx {α:Type} {f:Nat→Option α} (hm:∀n m,n≤m→Le (f n) (f m)) {a:α}:lim f=some a↔∃n,f n=some a:=by
 constructor
 ·intro h
  unfold lim at h
  split at h
  ·rename_i hx
   obtain⟨n,hn⟩:=Classical.choose_spec hx
   simp only[oi]at h
   exact⟨n,h▸hn⟩
  ·cases h
 ·rintro ⟨n,hn⟩
  unfold lim
  have hx:∃a n,f n=some a:=⟨a,n,hn⟩
  rw[dif_pos hx]
  obtain⟨m,hm'⟩:=Classical.choose_spec hx
  have h1:=hm n (max n m) (Nat.le_max_left ..) a hn
  have h2:=hm m (max n m) (Nat.le_max_right ..) _ hm'
  rw[h1]at h2
  exact h2.symm
theorem NO {α:Type} {f:Nat→Option α} (hm:∀n m,n≤m→Le (f n) (f m)) {x:Option α} (h:∀a,(∃n,f n=some a)↔x=some a):lim f=x:=by
 cases hx:x with
 |none=>
  cases hl:lim f with
  |none=>rfl
  |some a=>
   have:=(h a).1 ((cx hm).1 hl)
   rw[hx]at this
   cases this
 |some a=>exact(cx hm).2 ((h a).2 hx)
variable (FT:nj) (X:Ai)
noncomputable def den (f:FuncId) (args:List NH):Option BD:=lim fun n=>J0 FT X n f args
noncomputable def rk (k:K) (st:St):Option (Ex×St):=lim fun n=>Di (J0 FT X n) n k st
noncomputable def ops (draw:Bool) (es:List FD) (st:St):Option St:=lim fun n=>Cp (J0 FT X n) draw es st
theorem ul (f:FuncId) (args:List NH):∀n m,n≤m→Le (J0 FT X n f args) (J0 FT X m f args):=fun n m h=>J7 FT X h f args
theorem L4 (k:K) (st:St):∀n m,n≤m→Le (Di (J0 FT X n) n k st) (Di (J0 FT X m) m k st):=fun n m h=>IV (J7 FT X h) h k st
theorem Vu {f:FuncId} {args:List NH} {r:BD}:den FT X f args=some r↔∃n,J0 FT X n f args=some r:=cx (ul FT X f args)
theorem FE {k:K} {st:St} {r:Ex×St}:rk FT X k st=some r↔∃n,Di (J0 FT X n) n k st=some r:=cx (L4 FT X k st)
theorem M.run_den {α:Type} (d:Nat) (m:M α):∀r x,m.run (den FT X) d r=some x↔∃n,m.run (J0 FT X n) d r=some x:=by
 induction m with
 |ret v=>intro r x;simp[M.run]
 |fail=>intro r x;simp[M.run]
 |get id k ih=>intro r x;simpa [M.run] using ih _ r x
 |set id e m ih=>intro r x;simpa [M.run] using ih _ x
 |new es m ih=>
  intro r x
  simp only[M.run]
  split
  ·exact ih _ x
  ·simp
 |call f args k ih=>
  intro r x
  simp only[M.run,Option.bind_eq_some_iff]
  constructor
  ·rintro ⟨res,h1,h2⟩
   obtain⟨n,hn⟩:=(Vu FT X).1 h1
   obtain⟨m,hm⟩:=(ih res r x).1 h2
   exact⟨max n m,res,J7 FT X (Nat.le_max_left ..) f args res hn,M.run_mono (J7 FT X (Nat.le_max_right ..)) d _ _ _ hm⟩
  ·rintro ⟨n,res,h1,h2⟩
   exact⟨res,(Vu FT X).2 ⟨n,h1⟩,(ih res r x).2 ⟨n,h2⟩⟩
theorem M.runA_den {α:Type} (d:Nat) (rd wr:List Nat) (m:M α):∀r x,m.runA (den FT X) d rd wr r=some x↔∃n,m.runA (J0 FT X n) d rd wr r=some x:=by
 induction m with
 |ret v=>intro r x;simp[M.runA]
 |fail=>intro r x;simp[M.runA]
 |get id k ih=>intro r x;simp only[M.runA];split;exact ih _ r x;simp
 |set id e m ih=>intro r x;simp only[M.runA];split;exact ih _ x;simp
 |new es m ih=>
  intro r x
  simp only[M.runA]
  split
  ·exact ih _ x
  ·simp
 |call f args k ih=>
  intro r x
  simp only[M.runA,Option.bind_eq_some_iff]
  constructor
  ·rintro ⟨res,h1,h2⟩
   obtain⟨n,hn⟩:=(Vu FT X).1 h1
   obtain⟨m,hm⟩:=(ih res r x).1 h2
   exact⟨max n m,res,J7 FT X (Nat.le_max_left ..) f args res hn,M.runA_mono (J7 FT X (Nat.le_max_right ..)) d rd wr _ _ _ hm⟩
  ·rintro ⟨n,res,h1,h2⟩
   exact⟨res,(Vu FT X).2 ⟨n,h1⟩,(ih res r x).2 ⟨n,h2⟩⟩
theorem qG (draw:Bool) (e:FD) (st st':St):Dl (den FT X) draw e st=some st'↔∃n,Dl (J0 FT X n) draw e st=some st':=by
 unfold Dl
 cases hg:Hv st.s e.g with
 |none=>simp
 |some w=>
  simp only[Option.bind_some]
  cases w with
  |false=>simp
  |true=>
   simp only[if_true,Option.map_eq_some_iff]
   constructor
   ·rintro ⟨q,h1,h2⟩
    cases draw with
    |true=>
     simp only[if_true]at h1
     obtain⟨n,hn⟩:=(M.runA_den FT X _ _ _ _ _ _).1 h1
     exact⟨n,q,by simpa using hn,h2⟩
    |false=>
     simp only[bf,if_false]at h1
     obtain⟨n,hn⟩:=(M.run_den FT X _ _ _ _).1 h1
     exact⟨n,q,by simpa using hn,h2⟩
   ·rintro ⟨n,q,h1,h2⟩
    cases draw with
    |true=>exact⟨q,by simpa using (M.runA_den FT X _ _ _ _ _ _).2 ⟨n,by simpa using h1⟩,h2⟩
    |false=>exact⟨q,by simpa using (M.run_den FT X _ _ _ _).2 ⟨n,by simpa using h1⟩,h2⟩
theorem WZ (draw:Bool):∀(es:List FD) (st st':St),Cp (den FT X) draw es st=some st'↔∃n,Cp (J0 FT X n) draw es st=some st'
 | [],st,st'=>by simp[Cp]
 |e::es,st,st'=>by
  simp only[Cp,Option.bind_eq_some_iff]
  constructor
  ·rintro ⟨s1,h1,h2⟩
   obtain⟨n,hn⟩:=(qG FT X draw e st s1).1 h1
   obtain⟨m,hm⟩:=(WZ draw es s1 st').1 h2
   exact⟨max n m,s1,kT (J7 FT X (Nat.le_max_left ..)) draw e st _ hn,Y2 (J7 FT X (Nat.le_max_right ..)) draw es _ _ hm⟩
  ·rintro ⟨n,s1,h1,h2⟩
   exact⟨s1,(qG FT X draw e st s1).2 ⟨n,h1⟩,(WZ draw es s1 st').2 ⟨n,h2⟩⟩
theorem A6L (st:St):rk FT X .skip st=some (.normal,st):=(FE FT X).2 ⟨0,rfl⟩
theorem ABP (id:Nat) (st:St):rk FT X (.ex id) st=some (.exit id,st):=(FE FT X).2 ⟨0,rfl⟩
theorem A9Y (st:St):rk FT X .ret st=some (.ret,st):=(FE FT X).2 ⟨0,rfl⟩
theorem bU (draw:Bool) (es:List FD) (st:St):rk FT X (.reg draw es) st=(Cp (den FT X) draw es st).map fun st'=>(.normal,st'):=by
 refine NO (L4 FT X _ _) fun a=> ?_
 simp only[Di,Option.map_eq_some_iff]
 constructor
 ·rintro ⟨n,s,h1,h2⟩;exact⟨s,(WZ FT X draw es st s).2 ⟨n,h1⟩,h2⟩
 ·rintro ⟨s,h1,h2⟩
  obtain⟨n,hn⟩:=(WZ FT X draw es st s).1 h1
  exact⟨n,s,hn,h2⟩
noncomputable def A2p (FT:nj) (X:Ai) (b:K) (q:Ex×St):Option (Ex×St):=match q.1 with
 | .normal=>rk FT X b q.2
 |e=>some (e,q.2)
theorem A9Z (a b:K) (st:St):rk FT X (.seq a b) st=(rk FT X a st).bind (A2p FT X b):=by
 refine NO (L4 FT X _ _) fun r=> ?_
 simp only[Di,Option.bind_eq_some_iff]
 constructor
 ·rintro ⟨n,⟨e,s⟩,h1,h2⟩
  refine⟨(e,s),(FE FT X).2 ⟨n,h1⟩, ?_⟩
  cases e with
  |normal=>exact(FE FT X).2 ⟨n,h2⟩
  |exit id=>exact h2
  |ret=>exact h2
 ·rintro ⟨⟨e,s⟩,h1,h2⟩
  obtain⟨n,hn⟩:=(FE FT X).1 h1
  cases e with
  |normal=>
   obtain⟨m,hm⟩:=(FE FT X).1 h2
   exact⟨max n m,(.normal,s),L4 FT X _ _ _ _ (Nat.le_max_left ..) _ hn,L4 FT X _ _ _ _ (Nat.le_max_right ..) _ hm⟩
  |exit id=>exact⟨n,_,hn,h2⟩
  |ret=>exact⟨n,_,hn,h2⟩
noncomputable def ckV (v:V) (a b:Option (Ex×St)):Option (Ex×St):=match v with
 | .t (.v (.bool true))=>a
 | .t (.v (.bool false))=>b
 |_=>none
theorem A6M (x:D2) (a b:K) (st:St):rk FT X (.cond x a b) st=ckV (A9 st.s x) (rk FT X a st) (rk FT X b st):=by
 refine NO (L4 FT X _ _) fun r=> ?_
 simp only[Di]
 split
 ·rename_i h;rw[h];exact(FE FT X).symm
 ·rename_i h;rw[h];exact(FE FT X).symm
 ·rename_i h1 h2
  unfold ckV
  split
  ·rename_i h;exact absurd h h1
  ·rename_i h;exact absurd h h2
  ·simp
def A2q (id:Nat) (q:Ex×St):Ex×St:=match q.1 with
 | .exit j=>if j=id then(.normal,q.2)else(.exit j,q.2)
 |e=>(e,q.2)
theorem A9a (id:Nat) (b:K) (st:St):rk FT X (.blk id b) st=(rk FT X b st).map (A2q id):=by
 refine NO (L4 FT X _ _) fun r=> ?_
 simp only[Di,Option.map_eq_some_iff]
 constructor
 ·rintro ⟨n,q,h1,h2⟩;exact⟨q,(FE FT X).2 ⟨n,h1⟩,h2⟩
 ·rintro ⟨q,h1,h2⟩
  obtain⟨n,hn⟩:=(FE FT X).1 h1
  exact⟨n,q,hn,h2⟩
theorem A6N (b:K) (st:St):rk FT X (.loop b) st=(rk FT X b st).bind (A2p FT X (.loop b)):=by
 refine NO (L4 FT X _ _) fun r=> ?_
 simp only[Di,Option.bind_eq_some_iff]
 constructor
 ·rintro ⟨n,h⟩
  cases n with
  |zero=>simp[iter]at h
  |succ n=>
   simp only[iter,Option.bind_eq_some_iff]at h
   obtain⟨⟨e,s⟩,h1,h2⟩:=h
   refine⟨(e,s),(FE FT X).2 ⟨n+1,h1⟩, ?_⟩
   cases e with
   |normal=>
    refine(FE FT X).2 ⟨n+1, ?_⟩
    simp only[Di]
    exact ZS (fun st=>Le.refl _) n (n+1) (by omega) s r h2
   |exit id=>exact h2
   |ret=>exact h2
 ·rintro ⟨⟨e,s⟩,h1,h2⟩
  obtain⟨n,hn⟩:=(FE FT X).1 h1
  cases e with
  |normal=>
   obtain⟨m,hm⟩:=(FE FT X).1 h2
   simp only[Di]at hm
   refine⟨max n m+1, ?_⟩
   simp only[iter,Option.bind_eq_some_iff]
   refine⟨(.normal,s),L4 FT X _ _ _ _ (by omega) _ hn, ?_⟩
   exact ZS (fun st=>IV (J7 FT X (by omega)) (by omega) b st) m (max n m) (Nat.le_max_right ..) s r hm
  |exit id=>
   refine⟨n+1, ?_⟩
   simp only[iter,Option.bind_eq_some_iff]
   exact⟨_,L4 FT X _ _ _ _ (by omega) _ hn,h2⟩
  |ret=>
   refine⟨n+1, ?_⟩
   simp only[iter,Option.bind_eq_some_iff]
   exact⟨_,L4 FT X _ _ _ _ (by omega) _ hn,h2⟩
def A2r (hs:List H) (q:Ex×St):Option (Ex×St):=match q.1 with
 | .normal=>(Vi hs q.2).map fun st'=>(.normal,st')
 |e=>some (e,q.2)
theorem ACS (hs:List H) (k:K) (st:St):rk FT X (.h hs k) st=(rk FT X k st).bind (A2r hs):=by
 refine NO (L4 FT X _ _) fun r=> ?_
 simp only[Di,Option.bind_eq_some_iff]
 constructor
 ·rintro ⟨n,q,h1,h2⟩;exact⟨q,(FE FT X).2 ⟨n,h1⟩,h2⟩
 ·rintro ⟨q,h1,h2⟩
  obtain⟨n,hn⟩:=(FE FT X).1 h1
  exact⟨n,q,hn,h2⟩
theorem ABQ (hs:List H) (k:K) (st:St):rk FT X (.hp hs k) st=(Vi hs st).bind (rk FT X k):=by
 refine NO (L4 FT X _ _) fun r=> ?_
 simp only[Di,Option.bind_eq_some_iff]
 constructor
 ·rintro ⟨n,q,h1,h2⟩;exact⟨q,h1,(FE FT X).2 ⟨n,h2⟩⟩
 ·rintro ⟨q,h1,h2⟩
  obtain⟨n,hn⟩:=(FE FT X).1 h2
  exact⟨n,q,h1,hn⟩
def ACT (nt:Nat) (res:List RK) (args:List NH) (q:Ex×St):Option BD:=match q.1 with
 | .exit _=>none
 |_=>((ni q.2.s res M.ret).run (fun _ _=>none) 0 q.2.r).bind fun o=>
   if Xs o.2 args.length=Xs (enter nt args).r args.length then some { vals:=o.1,after:=jt o.2 args.length }else none
theorem A9b {f:FuncId} {fn:F} {args:List NH} (hf:FT f=some fn) (hx:X f args=none) (hl:args.length≤fn.nt) (hc:fn.co=none):
  den FT X f args=(rk FT X fn.body (enter fn.nt args)).bind (ACT fn.nt fn.res args):=by
 refine NO (ul FT X _ _) fun r=> ?_
 simp only[Option.bind_eq_some_iff]
 constructor
 ·rintro ⟨n,h⟩
  cases n with
  |zero=>simp[J0]at h
  |succ n=>
   simp only[J0,hx,hf,Option.bind_some,nk,hc,iH,hl,if_true,Option.bind_eq_some_iff]at h
   obtain⟨q,h1,h2⟩:=h
   exact⟨q,(FE FT X).2 ⟨n,h1⟩,h2⟩
 ·rintro ⟨q,h1,h2⟩
  obtain⟨n,hn⟩:=(FE FT X).1 h1
  refine⟨n+1, ?_⟩
  simp only[J0,hx,hf,Option.bind_some,nk,hc,iH,hl,if_true,Option.bind_eq_some_iff]
  exact⟨q,hn,h2⟩
theorem L5 {f:FuncId} {args:List NH} {r:BD} (hx:X f args=some r):den FT X f args=some r:=
 (Vu FT X).2 ⟨1,by simp[J0,hx]⟩
end TT
namespace TT
open Go
theorem kV {α β:Type} {f:α→Option β}:∀{l:List α} {r:List β},l.mapM f=some r→r.length=l.length∧∀(i:Nat) x,l[i]? =some x→∃y,r[i]? =some y∧f x=some y
 | [],r,h=>by simp at h;subst h;simp
 |x::l,r,h=>by
  rw[List.mapM_cons]at h
  obtain⟨y,h1,h⟩:=Option.bind_eq_some_iff.1 h
  obtain⟨ys,h2,h⟩:=Option.bind_eq_some_iff.1 h
  simp at h
  subst h
  obtain⟨g1,g2⟩:=kV h2
  refine⟨by simp[g1],fun i z hz=> ?_⟩
  cases i with
  |zero=>simp at hz;subst hz;exact⟨y,by simp,h1⟩
  |succ i=>obtain⟨y',k1,k2⟩:=g2 i z (by simpa using hz);exact⟨y',by simpa using k1,k2⟩
def H4 (w:World) (B:Nat→Prop):List T→List Value→Prop
 | [],us=>us=[]
 |t::ts,us=>∃u us',us=u::us'∧EV w B t u∧u.oneCell'=true∧H4 w B ts us'
theorem H4.length {w:World} {B:Nat→Prop}:∀{ts:List T} {us:List Value},H4 w B ts us→us.length=ts.length
 | [],us,h=>by simp only[H4]at h;simp[h]
 |t::ts,us,h=>by simp only[H4]at h;obtain⟨u,us',rfl,_,_,h⟩:=h;simp[H4.length h]
theorem H4.append {w:World} {B:Nat→Prop}:∀{ts ts':List T} {us us':List Value},H4 w B ts us→H4 w B ts' us'→H4 w B (ts++ts') (us++us')
 | [],ts',us,us',h,h'=>by simp only[H4]at h;subst h;simpa using h'
 |t::ts,ts',us,us',h,h'=>by
  simp only[H4]at h
  obtain⟨u,us1,rfl,h1,h2,h3⟩:=h
  simp only[List.cons_append,H4]
  exact⟨u,us1++us',rfl,h1,h2,H4.append h3 h'⟩
theorem H4.row {w:World} {B:Nat→Prop} {b:Nat}:∀{ts:List T} {us:List Value} {o:Nat},H4 w B ts us→Gx w b o us→Ml w B b o ts
 | [],us,o,h,hc=>by simp only[Ml]
 |t::ts,us,o,h,hc=>by
  simp only[H4]at h
  obtain⟨u,us',rfl,h1,h2,h3⟩:=h
  simp only[Ml]
  exact⟨⟨u,by simpa using hc 0 u (by simp),h2,h1⟩,H4.row h3 fun j v hj=>by have:=hc (j+1) v (by simpa using hj);rwa [show o+1+j=o+(j+1) by omega]⟩
def Typed (P:Program):Nat→TypeId→List T→Prop
 |0,_,_=>False
 |n+1,t,ts=>match P.underlying t with
  |some .bool=>∃b,ts=[.v (.bool b)]
  |some (.int k)=>∃x,ts=[.v (.int k x)]∧(Lit.int k x).wf=true
  |some .string=>∃s,ts=[.v (.string s)]∧s.size≤maxLen
  |some (.slice e)=>∃rows,ts=[.sl false rows]∧rows.length≤maxLen∧∀row∈rows,Typed P n e row
  |some (.struct fs)=>∃parts:List (List T),ts=parts.flatten∧parts.length=fs.toList.length∧∀(i:Nat) f p,fs.toList[i]? =some f→parts[i]? =some p→Typed P n f.type p
  |_=>False
def A2s (P:Program):Nat→List Field→Nat→Bool
 |o,[],tot=>o==tot
 |o,f::fs,tot=>f.offset==o&&A2s P (o+P.cellsOf f.type) fs tot
def openB (P:Program) (S:List TypeId):Bool:=S.all fun t=>match P.underlying t with
 |some .bool=>true
 |some (.int _)=>true
 |some .string=>true
 |some (.slice e)=>S.contains e&&decide (0<P.cellsOf e)
 |some (.struct fs)=>(fs.toList.all fun f=>S.contains f.type)&&A2s P 0 fs.toList (P.cellsOf t)
 |_=>false
theorem gj {P:Program} {w:World} {B:Nat→Prop} {n:Nat}:∀(fs:List Field) (o tot:Nat) (cs:List Value),A2s P o fs tot=true→cs.length=tot→
  (∀(i:Nat) f,fs[i]? =some f→∃ts,Typed P n f.type ts∧H4 w B ts ((cs.drop f.offset).take (P.cellsOf f.type)))→
  ∃parts:List (List T),parts.length=fs.length∧(∀(i:Nat) f p,fs[i]? =some f→parts[i]? =some p→Typed P n f.type p)∧H4 w B parts.flatten (cs.drop o)
 | [],o,tot,cs,hl,hc,h=>by
  simp only[A2s,beq_iff_eq]at hl
  subst hl
  refine⟨[],rfl,fun i f p h=>by simp at h, ?_⟩
  rw[List.drop_eq_nil_of_le (by omega)]
  exact rfl
 |f::fs,o,tot,cs,hl,hc,h=>by
  simp only[A2s,bz,beq_iff_eq]at hl
  obtain⟨rfl,hl⟩:=hl
  obtain⟨ts,h1,h2⟩:=h 0 f (by simp)
  obtain⟨parts,g1,g2,g3⟩:=gj fs (f.offset+P.cellsOf f.type) tot cs hl hc (fun i f' hf=>h (i+1) f' (by simpa using hf))
  refine⟨ts::parts,by simp[g1],fun i f' p hf hp=> ?_, ?_⟩
  ·cases i with
   |zero=>simp at hf hp;subst hf;subst hp;exact h1
   |succ i=>exact g2 i f' p (by simpa using hf) (by simpa using hp)
  ·rw[List.flatten_cons]
   have:cs.drop f.offset=(cs.drop f.offset).take (P.cellsOf f.type)++cs.drop (f.offset+P.cellsOf f.type):=by
    rw[←List.drop_drop,List.take_append_drop]
   rw[this]
   exact h2.append g3
theorem open_trod {H:Type} {enc:TypeId×Value→H} {P:Program} {w:World} {base:Nat} {spare:Nat→Bool} {held:Bool} {S:List TypeId} (hS:openB P S=true):∀(fuel:Nat) (t:TypeId) (cs:List Value) (x:DataW H×List MemPlace),t∈S→DataW.trod enc P w base spare held fuel t cs=some x→
  ∃ts,Typed P fuel t ts∧H4 w (fun b=>b<w.heap.size) ts cs
 |0,t,cs,x,_,h=>by simp[DataW.trod]at h
 |fuel+1,t,cs,x,ht,h=>by
  have hk:=List.all_eq_true.1 hS t ht
  unfold DataW.trod at h
  unfold Typed
  cases hu:P.underlying t with
  |none=>rw[hu]at hk;cases hk
  |some d=>
   rw[hu]at hk h
   cases d with
   |bool=>
    rcases cs with _|⟨u,_|⟨u2,us⟩⟩
    ·simp at h
    ·cases u<;>first|(simp at h;done)|skip
     rename_i b
     exact⟨[.v (.bool b)],⟨b,rfl⟩,⟨_,_,rfl,by simp only[EV],rfl,rfl⟩⟩
    ·simp at h
   |int k=>
    rcases cs with _|⟨u,_|⟨u2,us⟩⟩
    ·simp at h
    ·cases u<;>first|(simp at h;done)|skip
     rename_i k' n
     simp only[Option.ite_none_right_eq_some]at h
     obtain⟨⟨rfl,hw⟩,_⟩:=h
     exact⟨[.v (.int k' n)],⟨n,rfl,hw⟩,⟨_,_,rfl,by simp only[EV],rfl,rfl⟩⟩
    ·simp at h
   |string=>
    rcases cs with _|⟨u,_|⟨u2,us⟩⟩
    ·simp at h
    ·cases u<;>first|(simp at h;done)|skip
     rename_i s
     simp only[Option.ite_none_right_eq_some]at h
     exact⟨[.v (.string s)],⟨s,rfl,h.1⟩,⟨_,_,rfl,by simp only[EV],rfl,rfl⟩⟩
    ·simp at h
   |slice e=>
    simp only[bz,decide_eq_true_eq,List.contains_iff_mem]at hk
    obtain⟨hkS,hk0⟩:=hk
    rcases cs with _|⟨u,_|⟨u2,us⟩⟩
    ·simp at h
    ·cases u<;>first|(simp at h;done)|skip
     rename_i q len cap
     cases q with
     |none=>
      cases len with
      |succ n=>simp at h
      |zero=>cases cap with
       |succ n=>simp at h
       |zero=>exact⟨[.sl false []],⟨[],rfl,by simp,by simp⟩,⟨_,_,rfl,by simp only[EV];exact⟨none,0,rfl,Nat.le_refl _,by simp, .inl trivial⟩,rfl,rfl⟩⟩
     |some a=>
      simp only[Option.ite_none_right_eq_some]at h
      obtain⟨⟨hb,hlc,hcm⟩,h⟩:=h
      obtain⟨elems,h1,h2⟩:=Option.bind_eq_some_iff.1 h
      obtain⟨m1,m2⟩:=kV h1
      have each:∀i,i<len→∃csi ts,w.cells? base (a.add (i*P.cellsOf e)) (P.cellsOf e)=some csi∧Typed P fuel e ts∧H4 w (fun b=>b<w.heap.size) ts csi:=by
       intro i hi
       obtain⟨y,_,hy⟩:=m2 i i (by simp[hi])
       obtain⟨csi,k1,k2⟩:=Option.bind_eq_some_iff.1 hy
       obtain⟨ts,k3,k4⟩:=open_trod hS fuel e csi y hkS k2
       exact⟨csi,ts,k1,k3,k4⟩
      by_cases hl0:len=0
      ·subst hl0
       exact⟨[.sl false []],⟨[],rfl,by simp,by simp⟩,⟨_,_,rfl,by simp only[EV];exact⟨some a,cap,rfl,by simp,hcm, .inl trivial⟩,rfl,rfl⟩⟩
      ·-- the address has no spot
       obtain⟨b,o,sp⟩:=a
       have hsp:sp=none:=by
        obtain⟨cs0,ts0,k1,_,_⟩:=each 0 (by omega)
        obtain⟨_,k2,k3⟩:=World.cells?_some k1
        have:=k3 0 hk0
        simp only[Nat.zero_mul,Addr.add_zero']at this
        cases sp with
        |none=>rfl
        |some x=>
         have h0:w.cell? ⟨b,o,some x⟩=none:=by
          unfold World.cell?
          split<;>simp
         rw[h0]at this
         have hlt:0<cs0.length:=by omega
         simp[hlt]at this
       subst hsp
       have rows:∀m,m≤len→∃rows:Rows,rows.length=m∧(∀row∈rows,Typed P fuel e row)∧CK w (fun b=>b<w.heap.size) b (o+(len-m)*P.cellsOf e) (P.cellsOf e) rows:=by
        intro m
        induction m with
        |zero=>exact fun _=>⟨[],rfl,by simp,by simp only[CK]⟩
        |succ m ih=>
         intro hm
         obtain⟨rows,r1,r2,r3⟩:=ih (by omega)
         obtain⟨csi,ts,k1,k3,k4⟩:=each (len-(m+1)) (by omega)
         rw[DB]at k1
         obtain⟨_,k5,k6⟩:=World.cells?_some k1
         refine⟨ts::rows,by simp[r1],fun row hr=> ?_, ?_⟩
         ·rcases List.mem_cons.1 hr with rfl|hr
          ·exact k3
          ·exact r2 row hr
         ·simp only[CK]
          refine⟨by rw[←k4.length,k5],k4.row fun j v hj=> ?_, ?_⟩
          ·have hjl:=(List.getElem?_eq_some_iff.1 hj).1
           have:=k6 j (by omega)
           rw[DB]at this
           rw[this];exact hj
          ·have he:o+(len-(m+1))*P.cellsOf e+P.cellsOf e=o+(len-m)*P.cellsOf e:=by
            rw[show len-m=(len-(m+1))+1 by omega,Nat.succ_mul];omega
           rw[he];exact r3
       obtain⟨rws,r1,r2,r3⟩:=rows len (Nat.le_refl _)
       rw[Nat.sub_self,Nat.zero_mul,Nat.add_zero]at r3
       have hbh:b<w.heap.size:=by
        obtain⟨cs0,ts0,k1,_,_⟩:=each 0 (by omega)
        obtain⟨_,k2,k3⟩:=World.cells?_some k1
        have h3:=k3 0 hk0
        simp only[Nat.zero_mul,Addr.add_zero']at h3
        have hlt:0<cs0.length:=by omega
        rw[List.getElem?_eq_getElem hlt]at h3
        exact World.block_lt_of_cell? w ⟨b,o,none⟩ h3
       refine⟨[.sl false rws],⟨rws,rfl,by omega,r2⟩,⟨_,_,rfl, ?_,rfl,rfl⟩⟩
       simp only[EV]
       exact⟨some ⟨b,o,none⟩,cap,by rw[r1],by omega,hcm, .inr ⟨b,o,P.cellsOf e,rfl,hbh,hk0,r3⟩⟩
    ·simp at h
   |struct fs=>
    simp only[bz,List.all_eq_true,List.contains_iff_mem]at hk
    obtain⟨hkS,hkl⟩:=hk
    simp only[Option.ite_none_right_eq_some]at h
    obtain⟨hcl,h⟩:=h
    obtain⟨xs,h1,h2⟩:=Option.map_eq_some_iff.1 h
    obtain⟨m1,m2⟩:=kV h1
    obtain⟨parts,g1,g2,g3⟩:=gj (B:=fun b=>b<w.heap.size) (n:=fuel) fs.toList 0 (P.cellsOf t) cs hkl hcl (fun i f hf=>by
     obtain⟨y,_,hy⟩:=m2 i f hf
     exact open_trod hS fuel f.type _ y (hkS f (List.mem_of_getElem? hf)) hy)
    exact⟨parts.flatten,⟨parts,rfl,g1,g2⟩,by simpa using g3⟩
   |_=>cases hk
end TT
namespace TT
open Go Go.RowKit
theorem qH {G:Gt} {P:Program} {FT:nj} {X:Ai} (hX:EY G P X) (hm:P.follows .mixedOrders=true) (hF:∀f fn,FT f=some fn→AgH G P f fn):EY G P (den FT X):=fun f args res h=>by
 obtain⟨n,hn⟩:=(Vu FT X).1 h
 exact Y1 hX hm hF n f args res hn
theorem law_calls {G:Gt} {P:Program} {call:Ai} (hS:EY G P call) {f:FuncId} {args:List NH} {us:List Value} {w:World} {u0:Value} (h:call f args=some ⟨[.t (.v u0)],[]⟩) (hA:BC w (fun b=>b<w.heap.size) args us (fun _=>False) []) (hG:G.ok (fun b=>b<w.heap.size) w):
  Calls P f us.toArray w fun e w'=>e= .returned u0∧Below w.heap.size w w':=by
 refine Calls.mono ((hS f args _ h).2 w _ _ us [] hA (fun _ h=>h.elim) (fun _ h=>h) hG) fun e w' hp=> ?_
 cases e with
 |panicked ch=>exact hp.elim
 |outgrown=>exact hp.elim
 |returned v=>
  obtain⟨B',Sr,Sa,us',D⟩:=hp
  have hv:=D.vals
  simp only[Eu]at hv
  obtain⟨u,us2,S1,S2,rfl,h1,⟨rfl,_⟩,_⟩:=hv
  have h2:=h1.1
  simp only[Fb]at h2
  refine⟨by rw[D.val];simp[kD,h2.1],⟨D.os,D.tape,D.output,D.size,fun k hk=>D.frame k hk (fun h=>h)⟩⟩
theorem args_nil {w:World} {B:Nat→Prop}:BC w B [] [] (fun _=>False) []:=by simp only[BC];exact⟨trivial,fun _ h=>h,trivial⟩
theorem args_cons {w:World} {B:Nat→Prop} {a:NH} {as:List NH} {u:Value} {us:List Value} (h:Bo w B a u (fun _=>False) []) (h':BC w B as us (fun _=>False) []):BC w B (a::as) (u::us) (fun _=>False) []:=by
 simp only[BC]
 exact⟨u,us,_,_,[],[],rfl,h,h',⟨fun b=>by simp,fun b (h:False)=>h.elim⟩,rfl⟩
theorem arg_one {w:World} {B:Nat→Prop} {t:T} {u:Value} (h:H4 w B [t] [u]):Bo w B (.t t) u (fun _=>False) []:=by
 simp only[H4]at h
 obtain⟨u',us',e,h1,h2,h3⟩:=h
 cases e
 simp only[Bo]
 exact⟨h1,h2,fun _ h=>h,trivial⟩
end TT
