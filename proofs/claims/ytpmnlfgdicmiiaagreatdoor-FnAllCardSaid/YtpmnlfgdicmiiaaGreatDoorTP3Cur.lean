import Derived.Test.YtpmnlfgdicmiiaaGreatDoorTP0
import Derived.Test.YtpmnlfgdicmiiaaGreatDoorTP1
set_option linter.unusedVariables false
set_option linter.unusedSimpArgs false
namespace TT
open Go
def Bu {α:Type} (x:Option α) (P:α→Prop):Prop:=∃a,x=some a∧P a
theorem Bu.ret {α:Type} {a:α} {P:α→Prop} (h:P a):Bu (some a) P:=⟨a,rfl,h⟩
theorem Bu.bnd {α β:Type} {x:Option α} {f:α→Option β} {P:α→Prop} {Q:β→Prop} (h:Bu x P) (k:∀a,P a→Bu (f a) Q):Bu (x>>=f) Q:=by
 obtain⟨a,rfl,h⟩:=h
 exact k a h
theorem Bu.ite {α:Type} {b:Bool} {x y:Option α} {P:α→Prop} (h1:b=true→Bu x P) (h2:b=false→Bu y P):Bu (if b then x else y) P:=by
 cases b
 ·exact h2 rfl
 ·exact h1 rfl
theorem Bu.mono {α:Type} {x:Option α} {P Q:α→Prop} (h:Bu x P) (hpq:∀a,P a→Q a):Bu x Q:=by
 obtain⟨a,e,h⟩:=h
 exact⟨a,e,hpq a h⟩
theorem Bu.room {n byt:Nat} (h:n≤4000000) (hb:0<byt:=by decide) (hb2:byt≤1000:=by decide):Bu (room n byt) fun _=>True:=⟨(),Gj h hb hb2,trivial⟩
theorem Bu.getI {α:Type} {l:List α} {i:Int} (h0:0≤i) (h1:i<l.length):Bu (getI l i) fun x=>x∈l∧l[i.toNat]? =some x:=by
 have h:i.toNat<l.length:=by omega
 refine⟨l[i.toNat], ?_,List.getElem_mem h,List.getElem?_eq_getElem h⟩
 unfold TT.getI
 rw[if_pos h0]
 exact List.getElem?_eq_getElem h
structure SI (c:A5):Prop where
 len:c.xb.length≤1048576
 lo:0≤c.xi
 hi:c.xi≤c.xb.length
theorem zl (a:Int):0≤U2 .i64 a 255∧U2 .i64 a 255<256:=by
 have e:U2 .i64 a 255=IntKind.i64.wrap ((BitVec.ofInt 64 a&&& BitVec.ofInt 64 255).toNat:Int):=rfl
 have h:(BitVec.ofInt 64 a&&& BitVec.ofInt 64 255).toNat≤255:=by
  rw[BitVec.toNat_and];exact Nat.le_trans Nat.and_le_right (by decide)
 rw[e,TW (by omega) (by omega)]
 omega
theorem Bu.shr {a b:Int} (h:0≤b):Bu (fw .i64 a b) fun _=>True:=by
 refine⟨a.fdiv (2^(min b.toNat IntKind.i64.bits)), ?_,trivial⟩
 unfold fw
 rw[if_neg (by omega)]
theorem TY (c:A5) (h:SI c):Bu (HD c) fun r=>(0≤r.1∧r.1<256)∧SI r.2:=by
 rw[HD]
 refine(Bu.shr (by decide)).bnd fun x _=>(Bu.shr (by decide)).bnd fun y _=>Bu.ite (fun hi=> ?_) fun _=> ?_
 ·have hl:=bn.1 hi
  simp only[AD]at hl
  refine(Bu.getI h.lo hl).bnd fun z _=>Bu.ret ⟨zl _,h.len, ?_, ?_⟩
  ·show 0≤AV c.xi 1
   have:=h.lo;have:=h.len
   rw[BK (by omega) (by omega)];omega
  ·show AV c.xi 1≤c.xb.length
   have:=h.lo;have:=h.len
   rw[BK (by omega) (by omega)];omega
 ·exact Bu.ret ⟨zl _,h.len,h.lo,h.hi⟩
theorem oq {a n:Int} (h0:0≤a) (hn:0<n):Bu (qS a n) fun x=>0≤x∧x<n:=by
 refine⟨a.tmod n, ?_,Int.tmod_nonneg _ h0,Int.tmod_lt_of_pos _ hn⟩
 unfold qS
 rw[if_neg (by omega)]
theorem Ix (c:A5) (h:SI c) (n:Int):Bu (DT c n) fun r=>0≤r.1∧(r.1<n∨r.1=0)∧SI r.2:=by
 rw[DT]
 refine Bu.ite (fun _=>Bu.ret ⟨Int.le_refl _, .inr rfl,h⟩) fun h0=>Bu.ite (fun _=> ?_) fun _=> ?_
 ·have hn:0<n:=by have:=decide_eq_false_iff_not.1 h0;omega
  exact(TY c h).bnd fun r hr=>(oq hr.1.1 hn).bnd fun x hx=>Bu.ret ⟨hx.1, .inl hx.2,hr.2⟩
 ·have hn:0<n:=by have:=decide_eq_false_iff_not.1 h0;omega
  refine(TY c h).bnd fun r hr=>(TY _ hr.2).bnd fun s hs=>(TY _ hs.2).bnd fun t ht=> ?_
  have e:AV (AV (Y1 r.1 65536) (Y1 s.1 256)) t.1=r.1*65536+s.1*256+t.1:=by
   have m1:Y1 r.1 65536=r.1*65536:=TW (by omega) (by omega)
   have m2:Y1 s.1 256=s.1*256:=TW (by omega) (by omega)
   rw[m1,m2,show AV (r.1*65536) (s.1*256)=r.1*65536+s.1*256 from BK (by omega) (by omega),BK (by omega) (by omega)]
  rw[e]
  exact(oq (by omega) hn).bnd fun x hx=>Bu.ret ⟨hx.1, .inl hx.2,ht.2⟩
theorem R6 (c:A5) (h:SI c) (n:Int):Bu (Fx c n) fun r=>SI r.2:=by
 rw[Fx]
 exact(Ix c h n).bnd fun r hr=>Bu.ret hr.2.2
theorem I3 (c:A5) (h:SI c) (l:List ByteArray) (hl:0<l.length):Bu (DU c l) fun r=>r.1∈l∧SI r.2:=by
 rw[DU]
 exact(Ix c h _).bnd fun r hr=>(Bu.getI hr.1 (by have:=hr.2.1;simp only[AD]at this;omega)).bnd fun x hx=>Bu.ret ⟨hx.1,hr.2.2⟩
theorem rc (code:List Int) (hl:code.length≤1048576):∀(m:Nat) (h:Int) (k:Nat),code.length≤k+m→Bu (GN code h k) SI:=by
 intro m
 induction m with
 |zero=>
  intro h k hk
  rw[GN,GE (by simp only[AD];omega)]
  exact Bu.ret ⟨hl,by show(0:Int)≤0;omega,by show(0:Int)≤_;omega⟩
 |succ m ih=>
  intro h k hk
  rw[GN]
  refine Bu.ite (fun hi=>Bu.ite (fun _=> ?_) fun _=> ?_) fun _=> ?_
  ·have hlt:=bn.1 hi
   simp only[AD]at hlt
   refine(Bu.getI (by omega) hlt).bnd fun x _=> ?_
   rw[show AV (k:Int) 1=((k+1:Nat):Int) by rw[BK (by omega) (by omega)];omega]
   exact ih _ _ (by omega)
  ·exact Bu.ret ⟨hl,by show(0:Int)≤0;omega,by show(0:Int)≤_;omega⟩
  ·exact Bu.ret ⟨hl,by show(0:Int)≤0;omega,by show(0:Int)≤_;omega⟩
theorem v8 (code:List Int) (hl:code.length≤1048576):Bu (Qh code) SI:=by
 rw[Qh]
 exact rc code hl code.length _ 0 (by omega)
end TT
namespace TT
open Go
def AK {α:Type} (x:Option α):Prop:=∃a,x=some a
theorem AK.ret {α:Type} {a:α}:AK (some a):=⟨a,rfl⟩
theorem AK.bnd {α β:Type} {x:Option α} {f:α→Option β} (h:AK x) (k:∀a,AK (f a)):AK (x>>=f):=by obtain⟨a,rfl⟩:=h;exact k a
theorem AK.ite {α:Type} {b:Bool} {x y:Option α} (h1:b=true→AK x) (h2:b=false→AK y):AK (if b then x else y):=by
 cases b
 ·exact h2 rfl
 ·exact h1 rfl
theorem Bu.ends {α:Type} {x:Option α} {P:α→Prop} (h:Bu x P):AK x:=by obtain⟨a,e,_⟩:=h;exact⟨a,e⟩
theorem AK.tot {α:Type} {x:Option α} (h:AK x):Bu x fun _=>True:=by obtain⟨a,e⟩:=h;exact⟨a,e,trivial⟩
theorem TZ {α:Type} {l:List α} {k:Nat} {x:α} (h:l[k]? =some x):getI l (k:Int)=some x:=by
 unfold getI;rw[if_pos (by omega)];simpa using h
theorem RY {k:Nat} (h:k≤4000000):AV (k:Int) 1=((k+1:Nat):Int):=by rw[BK (by omega) (by omega)];omega
theorem ot {α:Type} {l:List α} {k:Nat} {x:α} (h:l[k]? =some x):HC (k:Int) (AD l)=true:=by
 have:=(List.getElem?_eq_some_iff.1 h).1
 exact R5 (by simp only[AD];omega)
theorem re {α:Type} {l:List α} {k:Nat} {x:α} (h:l[k]? =some x) (hk:SH (k:Int) 0=true) (hl:l.length≤4000000):AK (getI l (CH (k:Int) 1)):=by
 have h1:=(List.getElem?_eq_some_iff.1 h).1
 have h2:=of_decide_eq_true hk
 rw[DC (by omega) (by omega)]
 exact(Bu.getI (l:=l) (i:=(k:Int)-1) (by omega) (by omega)).ends
theorem vA {α ρ:Type} (l:List α) (F:Int→Option ρ) (hF:∀(k:Nat) x,l[k]? =some x→AK (F ((k+1:Nat):Int))→AK (F (k:Int))) (h0:AK (F ((l.length:Nat):Int))):∀m k:Nat,k≤l.length→l.length≤k+m→AK (F (k:Int)):=by
 intro m
 induction m with
 |zero=>intro k h1 h2;rw[show k=l.length by omega];exact h0
 |succ m ih=>
  intro k h1 h2
  by_cases e:k=l.length
  ·rw[e];exact h0
  ·have hlt:k<l.length:=by omega
   exact hF k _ (List.getElem?_eq_getElem hlt) (ih (k+1) (by omega) (by omega))
theorem R7 {α ρ:Type} (l:List α) (F:Int→Option ρ) (hF:∀(k:Nat) x,l[k]? =some x→AK (F ((k+1:Nat):Int))→AK (F (k:Int))) (h0:AK (F ((l.length:Nat):Int))):AK (F 0):=vA l F hF h0 l.length 0 (by omega) (by omega)
theorem aW {α:Type} (l:List α):HC ((l.length:Nat):Int) (AD l)=false:=GE (by simp only[AD];omega)
theorem Ta {s:ByteArray} {i:Int} (h0:0≤i) (h1:i<s.size):Bu (SZ s i) fun x=>0≤x∧x<256:=by
 unfold SZ
 rw[dif_pos ⟨h0,by omega⟩]
 refine Bu.ret ⟨by omega, ?_⟩
 have:=(s[i.toNat]'(by omega)).toNat_lt
 omega
theorem QP (a b c:Int):AK (F8 a b c):=by
 rw[F8];exact AK.ite (fun _=> .ret) fun _=> .ret
theorem A2n (s:ByteArray) (hs:s.size≤4000000) (at1 n:Nat) (hn:n≤3) (ha:at1+n<s.size) (least:Int):∀(m i:Nat) (v:Int),n+1≤i+m→Bu (Aq s at1 n least v i) fun r=>r.2.2=true→r.2.1=((at1+1+n:Nat):Int):=by
 have fin:∀(i:Nat) (v:Int),n<i→Bu (Aq s at1 n least v i) fun r=>r.2.2=true→r.2.1=((at1+1+n:Nat):Int):=by
  intro i v hi
  rw[Aq,aT (by omega)]
  simp only[Bool.false_eq_true,if_false]
  refine Bu.ite (fun _=>Bu.ret (by simp)) fun _=>Bu.ite (fun _=>Bu.ret (by simp)) fun _=>(QP v 55296 57343).tot.bnd fun r _=>Bu.ite (fun _=>Bu.ret (by simp)) fun _=>Bu.ret fun _=> ?_
  show AV (AV (at1:Int) 1) n=_
  rw[RY (by omega),BK (by omega) (by omega)];omega
 intro m
 induction m with
 |zero=>intro i v hi;exact fin i v (by omega)
 |succ m ih=>
  intro i v hi
  by_cases hin:i≤n
  ·rw[Aq,VH (by omega),BK (by omega) (by omega)]
   simp only[if_true]
   refine(Ta (by omega) (by omega)).bnd fun x _=>Bu.ite (fun _=>Bu.ret (by simp)) fun _=>Bu.ite (fun _=>Bu.ret (by simp)) fun _=> ?_
   rw[RY (by omega)]
   exact ih (i+1) _ (by omega)
  ·exact fin i v (by omega)
theorem mF (s:ByteArray) (hs:s.size≤4000000) (at1:Nat) (ha:at1<s.size) (n:Nat) (hn:n≤3) (least v:Int):Bu (Cy s at1 n least v) fun r=>r.2.2=true→((at1:Int)<r.2.1∧r.2.1≤s.size):=by
 rw[Cy]
 refine Bu.ite (fun _=>Bu.ret (by simp)) fun h=> ?_
 have h1:CH (Ag s) 1=(s.size:Int)-1:=DC (by simp only[Ag];omega) (by simp only[Ag];omega)
 have h2:CH ((s.size:Int)-1) n=(s.size:Int)-1-n:=DC (by omega) (by omega)
 have h3:=of_decide_eq_false h
 rw[h1,h2]at h3
 exact(A2n s hs at1 n hn (by omega) least (n+1) 1 v (by omega)).mono fun r hr hb=>by have:=hr hb;omega
theorem eF (s:ByteArray) (hs:s.size≤4000000) (at1:Nat) (ha:at1<s.size):Bu (Et s at1) fun r=>r.2.2=true→((at1:Int)<r.2.1∧r.2.1≤s.size):=by
 have j32:∀x b,Bu (Df s at1 x b) fun r=>r.2.2=true→((at1:Int)<r.2.1∧r.2.1≤s.size):=fun x b=>by
  rw[Df]
  exact Bu.ite (fun _=>mF s hs at1 ha 2 (by omega) _ _) fun _=>Bu.ite (fun _=>Bu.ite (fun _=>mF s hs at1 ha 3 (by omega) _ _) fun _=>Bu.ret (by simp)) fun _=>Bu.ret (by simp)
 have j28:∀x b,Bu (Dg s at1 x b) fun r=>r.2.2=true→((at1:Int)<r.2.1∧r.2.1≤s.size):=fun x b=>by
  rw[Dg]
  exact Bu.ite (fun _=>mF s hs at1 ha 1 (by omega) _ _) fun _=>Bu.ite (fun _=>j32 _ _) fun _=>j32 _ _
 rw[Et]
 refine Bu.ite (fun _=>Bu.ret (by simp)) fun _=>Bu.ite (fun _=>Bu.ret (by simp)) fun _=>(Ta (by omega) (by omega)).bnd fun x _=>Bu.ite (fun _=>Bu.ret fun _=> ?_) fun _=>Bu.ite (fun _=>j28 _ _) fun _=>j28 _ _
 show(at1:Int)<AV at1 1∧AV at1 1≤_
 rw[RY (by omega)];omega
theorem aX (n:Int) (l:List Int) (hl:l.length≤1000):AK (E8 n l):=by
 rw[E8]
 have key:∀(m k:Nat),k≤1002→l.length≤k+m→AK (Ae n l k):=by
  intro m
  induction m with
  |zero=>
   intro k h1 h2
   rw[Ae,RY (by omega),GE (by simp only[AD];omega)];exact .ret
  |succ m ih=>
   intro k h1 h2
   rw[Ae,RY (by omega)]
   refine AK.ite (fun h=> ?_) fun _=> .ret
   have h3:=bn.1 h
   simp only[AD]at h3
   refine(Bu.getI (by omega) (by omega)).ends.bnd fun x=>(Bu.getI (by omega) (by omega)).ends.bnd fun y=>(QP _ _ _).bnd fun b=>AK.ite (fun _=> .ret) fun _=> ?_
   rw[show AV (k:Int) 2=((k+2:Nat):Int) by rw[BK (by omega) (by omega)];omega]
   exact ih (k+2) (by omega) (by omega)
 exact key l.length 0 (by omega) (by omega)
theorem Yu (n:Int):AK (DV n):=by
 rw[DV];exact(aX _ _ (by decide)).bnd fun _=> .ret
theorem aY (n:Int):AK (EH n):=by
 rw[EH];exact(Yu _).bnd fun _=>AK.ite (fun _=> .ret) fun _=>(aX _ _ (by decide)).bnd fun _=> .ret
theorem oy (n:Int):AK (Ik n):=by
 rw[Ik]
 exact AK.ite (fun _=> .ret) fun _=>AK.ite (fun _=> .ret) fun _=>AK.ite (fun _=> .ret) fun _=>(QP _ _ _).bnd fun _=>AK.ite (fun _=> .ret) fun _=>(QP _ _ _).bnd fun _=>AK.ite (fun _=> .ret) fun _=>(QP _ _ _).bnd fun _=> .ret
theorem eG {ρ:Type} (s:ByteArray) (hs:s.size≤4000000) (F:Int→Option ρ) (hF:∀k:Nat,k<s.size→(∀j:Nat,k<j→j≤s.size→AK (F j))→AK (F (k:Int))) (h0:AK (F ((s.size:Nat):Int))):∀m k:Nat,k≤s.size→s.size≤k+m→AK (F (k:Int)):=by
 intro m
 induction m with
 |zero=>intro k h1 h2;rw[show k=s.size by omega];exact h0
 |succ m ih=>
  intro k h1 h2
  by_cases e:k=s.size
  ·rw[e];exact h0
  ·exact hF k (by omega) fun j hj hj2=>ih j hj2 (by omega)
theorem oz {a:Int} {k n:Nat} (h:(k:Int)<a∧a≤n):∃j:Nat,a=j∧k<j∧j≤n:=⟨a.toNat,by omega,by omega,by omega⟩
theorem Tb (s:ByteArray) (hs:s.size≤4000000):AK (BQ s):=by
 rw[BQ]
 refine(QP _ _ _).bnd fun _=>AK.ite (fun _=> ?_) fun _=> .ret
 refine eG s hs (Ab s) (fun k hk ih=> ?_) ?_ s.size 0 (by omega) (by omega)
 ·rw[Ab]
  refine AK.ite (fun _=> ?_) fun _=> .ret
  obtain⟨r,e,hr⟩:=eF s hs k hk
  rw[e]
  refine AK.ite (fun h=> ?_) fun _=> .ret
  obtain⟨j,ej,j1,j2⟩:=oz (hr h)
  rw[ej]
  exact AK.ite (fun _=>(Yu _).bnd fun _=>AK.ite (fun _=>(aY _).bnd fun _=>AK.ite (fun _=>ih j j1 j2) fun _=> .ret) fun _=> .ret) fun _=>(aY _).bnd fun _=>AK.ite (fun _=>ih j j1 j2) fun _=> .ret
 ·rw[Ab,GE (by simp only[Ag];omega)];exact .ret
theorem Ss (s:ByteArray) (hs:s.size≤4000000):AK (BG s):=by
 rw[BG]
 refine AK.ite (fun _=> ?_) fun _=> .ret
 rw[Fy]
 refine AK.bnd ?_ fun _=> .ret
 refine eG s hs (BT s) (fun k hk ih=> ?_) ?_ s.size 0 (by omega) (by omega)
 ·rw[BT]
  refine AK.ite (fun _=> ?_) fun _=> .ret
  obtain⟨r,e,hr⟩:=eF s hs k hk
  rw[e]
  refine AK.ite (fun h=> ?_) fun _=> .ret
  obtain⟨j,ej,j1,j2⟩:=oz (hr h)
  rw[ej]
  exact(oy _).bnd fun _=>AK.ite (fun _=>ih j j1 j2) fun _=> .ret
 ·rw[BT,GE (by simp only[Ag];omega)];exact .ret
theorem jV {s:ByteArray} {l h:Int} (h0:0≤l) (h1:l≤h) (h2:h≤s.size):AK (TC s l h):=by unfold TC;rw[if_pos ⟨h0,h1,h2⟩];exact .ret
theorem eH (s:ByteArray):AK (Ij s):=by
 rw[Ij]
 refine AK.ite (fun h=> ?_) fun _=> .ret
 have:=of_decide_eq_true h
 simp only[Ag]at this
 exact(jV (by omega) (by omega) (by omega)).bnd fun _=> .ret
theorem eI (s:ByteArray) (hs:s.size≤4000000):AK (DW s):=by
 rw[DW]
 exact AK.ite (fun _=> .ret) fun _=>(Tb s hs).bnd fun _=>AK.ite (fun _=>(eH s).bnd fun _=> .ret) fun _=> .ret
theorem vB (d:A1) (hs:d.sz≤4000000):AK (Il d):=by
 rw[A1.sz_eq]at hs
 have j2:AK (FN d):=by rw[FN];exact(Ss _ (by omega)).bnd fun _=>AK.ite (fun _=> .ret) fun _=> .ret
 rw[Il]
 exact AK.ite (fun _=>(Tb _ (by omega)).bnd fun _=>AK.ite (fun _=>(eH _).bnd fun _=>AK.ite (fun _=> .ret) fun _=>AK.ite (fun _=> .ret) fun _=>j2) fun _=> .ret) fun _=>j2
theorem eJ {α:Type} {l:List α} {k:Nat} {x:α} (h:l[k]? =some x):x∈l:=List.mem_of_getElem? h
theorem eK {α:Type} {l:List α} {k:Nat} {x:α} (h:l[k]? =some x):k<l.length:=(List.getElem?_eq_some_iff.1 h).1
theorem rf (l:List A1) (hl:l.length≤4000000) (hs:∀d∈l,d.sz≤4000000):AK (Cz l):=by
 rw[Cz]
 refine R7 l (BU l) (fun k x hx ih=> ?_) ?_
 ·have:=eK hx
  rw[BU,ot hx,TZ hx,RY (by omega)]
  exact(vB x (hs x (eJ hx))).bnd fun _=>AK.ite (fun _=>AK.ite (fun h=>(re hx h hl).bnd fun _=>AK.ite (fun _=> .ret) fun _=>ih) fun _=>ih) fun _=> .ret
 ·rw[BU,aW];exact .ret
theorem vC (n:A0):AK (HG n):=by
 rw[HG]
 exact AK.ite (fun _=>AK.ite (fun _=>AK.ite (fun _=>AK.ite (fun _=> .ret) fun _=> .ret) fun _=> .ret) fun _=> .ret) fun _=> .ret
theorem eL (s t:ByteArray) (hs:s.size≤4000000) (ht:1≤t.size∧t.size≤4000000):AK (Dy s t):=by
 rw[Dy]
 have key:∀(m k:Nat),k≤s.size→s.size≤k+m→AK (CR s t k):=by
  intro m
  induction m with
  |zero=>intro k h1 h2;rw[CR,BK (by simp only[Ag];omega) (by simp only[Ag];omega),aT (by simp only[Ag];omega)];exact .ret
  |succ m ih=>
   intro k h1 h2
   rw[CR,BK (by simp only[Ag];omega) (by simp only[Ag];omega)]
   refine AK.ite (fun h=> ?_) fun _=> .ret
   have h3:=of_decide_eq_true h
   simp only[Ag]at h3
   refine(jV (by omega) (by simp only[Ag];omega) (by simp only[Ag];omega)).bnd fun _=>AK.ite (fun _=> .ret) fun _=> ?_
   rw[RY (by omega)]
   exact ih (k+1) (by omega) (by omega)
 exact key s.size 0 (by omega) (by omega)
theorem zm (s:ByteArray):AK (Ka s):=by
 rw[Ka]
 refine AK.ite (fun _=> .ret) fun h=> ?_
 have h3:s.size=3:=by simp only[neI,Ag,bne_eq_false_iff_eq]at h;omega
 have a0:AK (SZ s 0):=(Ta (by omega) (by omega)).ends
 have a1:AK (SZ s 1):=(Ta (by omega) (by omega)).ends
 have a2:AK (SZ s 2):=(Ta (by omega) (by omega)).ends
 repeat' first
  |exact AK.ret
  |refine AK.ite (fun _=> ?_) fun _=> ?_
  |refine a0.bnd fun _=> ?_
  |refine a1.bnd fun _=> ?_
  |refine a2.bnd fun _=> ?_
theorem rg (n:Int):AK (Fz n):=by
 rw[Fz]
 exact AK.ite (fun _=> .ret) fun _=>AK.ite (fun _=> .ret) fun _=>AK.ite (fun _=> .ret) fun _=> .ret
theorem jW (a b:A3):AK (HE a b):=by
 rw[HE];exact AK.ite (fun _=> .ret) fun _=>AK.ite (fun _=> .ret) fun _=> .ret
theorem vD (a:A3) (hs:a.sz≤4000000):AK (Eu a):=by
 rw[A3.sz_eq]at hs
 have j2:AK (Dz a):=by rw[Dz];exact(Ss _ (by omega)).bnd fun _=>AK.ite (fun _=>(Ss _ (by omega)).bnd fun _=>AK.ite (fun _=> .ret) fun _=> .ret) fun _=> .ret
 rw[Eu]
 exact(eI _ (by omega)).bnd fun _=>AK.ite (fun _=>AK.ite (fun _=> .ret) fun _=>(Tb _ (by omega)).bnd fun _=>AK.ite (fun _=>AK.ite (fun _=>AK.ite (fun _=> .ret) fun _=>j2) fun _=>j2) fun _=> .ret) fun _=> .ret
theorem rh (n:A0) (hl:n.Attrs.length≤4000000) (hs:∀d∈n.Attrs,d.sz≤4000000):AK (DJ n):=by
 rw[DJ]
 refine R7 n.Attrs (fun i=>BH i n) (fun k x hx ih=> ?_) ?_
 ·have:=eK hx
  show AK (BH k n)
  rw[BH,ot hx,TZ hx,RY (by omega)]
  exact(vD x (hs x (eJ hx))).bnd fun _=>AK.ite (fun _=>AK.ite (fun h=>(re hx h hl).bnd fun _=>(jW _ _).bnd fun _=>AK.ite (fun _=>ih) fun _=> .ret) fun _=>ih) fun _=> .ret
 ·show AK (BH _ n)
  rw[BH,aW];exact .ret
theorem zn (n:A0) (hs:n.sz≤1048576):AK (Ce n):=by
 rw[A0.sz_eq]at hs
 have t1:=Ss n.Text (by omega)
 have t2:=Ss n.Uri (by omega)
 have p1:=Tb n.Local (by omega)
 have p2:=eI n.Pre (by omega)
 have d1:=rf n.Decls (by omega) (fun d hd=>by have:=Dq A1.sz hd;omega)
 have a1:=rh n (by omega) (fun d hd=>by have:=Dq A3.sz hd;omega)
 have b1:=vC n
 have x1:=zm n.Local
 have h1:AK (Dy n.Text (⟨#[45,45]⟩)):=eL n.Text _ (by omega) ⟨by decide,by decide⟩
 have h2:AK (Dy n.Text (⟨#[13]⟩)):=eL n.Text _ (by omega) ⟨by decide,by decide⟩
 have h3:AK (Dy n.Text (⟨#[63,62]⟩)):=eL n.Text _ (by omega) ⟨by decide,by decide⟩
 have ne:D5 n.Text (⟨#[]⟩)=false→1≤n.Text.size:=fun h=>by
  rcases Nat.eq_zero_or_pos n.Text.size with e|e
  ·exfalso
   have:n.Text=⟨#[]⟩:=by
    have hh:n.Text.data= #[]:=Array.eq_empty_of_size_eq_zero e
    cases hn:n.Text;rw[hn]at hh;simp only at hh;rw[hh]
   rw[this,Sq]at h;cases h
  ·exact e
 have f0:D5 n.Text (⟨#[]⟩)=false→AK (SZ n.Text 0):=fun h=>by have:=ne h;exact(Ta (by omega) (by omega)).ends
 have f1:D5 n.Text (⟨#[]⟩)=false→AK (SZ n.Text (CH (Ag n.Text) 1)):=fun h=>by
  have:=ne h
  rw[DC (by simp only[Ag];omega) (by simp only[Ag];omega)]
  exact(Ta (by simp only[Ag];omega) (by simp only[Ag];omega)).ends
 rw[Ce]
 repeat' first
  |exact AK.ret
  |exact a1
  |refine AK.ite (fun _=> ?_) fun hq=> ?_
  |refine t1.bnd fun _=> ?_
  |refine t2.bnd fun _=> ?_
  |refine p1.bnd fun _=> ?_
  |refine p2.bnd fun _=> ?_
  |refine d1.bnd fun _=> ?_
  |refine b1.bnd fun _=> ?_
  |refine x1.bnd fun _=> ?_
  |refine h1.bnd fun _=> ?_
  |refine h2.bnd fun _=> ?_
  |refine h3.bnd fun _=> ?_
  |refine(rg _).bnd fun _=> ?_
  |refine(f0 (by assumption)).bnd fun _=> ?_
  |refine(f1 (by assumption)).bnd fun _=> ?_
theorem jX (N:Nat):∀(l:List A0),l.length+szs A0.sz l≤N→N≤1048576→∀deep,AK (Az l deep):=by
 induction N using Nat.strongRecOn with
 |_ N ih=>
  intro l hl hN deep
  rw[Az]
  refine R7 l (fun i=>Ax l deep i) (fun k x hx hk=> ?_) ?_
  ·have h1:=eK hx
   have h2:=Dq A0.sz (eJ hx)
   have h3:x.Kids.length+szs A0.sz x.Kids<N:=by
    have:=A0.sz_eq x
    omega
   have j17:AK (CS l deep k x):=by
    rw[CS,RY (by omega)]
    exact AK.ite (fun _=>AK.ite (fun _=> .ret) fun _=>(ih _ h3 x.Kids (Nat.le_refl _) (by omega) _).bnd fun _=>AK.ite (fun _=>hk) fun _=> .ret) fun _=>hk
   show AK (Ax l deep k)
   rw[Ax,ot hx,TZ hx]
   exact(zn x (by omega)).bnd fun _=>AK.ite (fun _=>AK.ite (fun _=>AK.ite (fun h=>(re hx h (by omega)).bnd fun _=>AK.ite (fun _=> .ret) fun _=>j17) fun _=>j17) fun _=>j17) fun _=> .ret
  ·show AK (Ax l deep _)
   rw[Ax,aW];exact .ret
theorem p6 {α ρ:Type} (l:List α) (F:Int→Int→Option ρ) (hF:∀(k:Nat) x a,l[k]? =some x→(∀b,AK (F b ((k+1:Nat):Int)))→AK (F a (k:Int))) (h0:∀a,AK (F a ((l.length:Nat):Int))):∀a,AK (F a 0):=by
 have key:∀(m k:Nat),k≤l.length→l.length≤k+m→∀a,AK (F a k):=by
  intro m
  induction m with
  |zero=>intro k h1 h2 a;rw[show k=l.length by omega];exact h0 a
  |succ m ih=>
   intro k h1 h2 a
   by_cases e:k=l.length
   ·rw[e];exact h0 a
   ·exact hF k _ a (List.getElem?_eq_getElem (by omega)) (ih (k+1) (by omega) (by omega))
 exact key l.length 0 (by omega) (by omega)
theorem ri : ∀ n:A0,n.sz≤1048576→AK (Bj n):=by
 refine A0.ind' fun n ih hs=> ?_
 rw[A0.sz_eq]at hs
 rw[Bj]
 refine p6 n.Kids (fun a i=>Ak a i n) (fun k x a hx hk=> ?_) (fun a=> ?_) _
 ·have:=eK hx
  have h2:=Dq A0.sz (eJ hx)
  show AK (Ak a k n)
  rw[Ak,ot hx,TZ hx,RY (by omega)]
  exact(ih x (eJ hx) (by omega)).bnd fun _=>hk _
 ·show AK (Ak a _ n)
  rw[Ak,aW];exact .ret
theorem p7 (n:A0) (hs:n.sz≤1048575):AK (EI n):=by
 have hz:=hs
 rw[A0.sz_eq]at hz
 rw[EI]
 refine(ri n (by omega)).bnd fun _=>AK.ite (fun _=> .ret) fun _=>AK.ite (fun _=>(jX 1048576 [n] (by rw[Iv];show 1+(n.sz+0)≤_;omega) (by omega) _).bnd fun _=> .ret) fun _=> ?_
 refine p6 n.Kids (fun a i=>Al a i n) (fun k x a hx hk=> ?_) (fun a=> ?_) _
 ·have:=eK hx
  have j33:∀b,AK (CT b k n):=fun b=>by
   rw[CT,TZ hx,RY (by omega)]
   exact AK.ite (fun _=> .ret) fun _=>hk _
  show AK (Al a k n)
  rw[Al,ot hx,TZ hx]
  simp only[if_true,A6]
  exact AK.ite (fun _=>j33 _) fun _=>j33 _
 ·show AK (Al a _ n)
  rw[Al,aW]
  have kk:=jX 1048576 n.Kids (by omega) (by omega) 0
  simp only[Bool.false_eq_true,if_false]
  repeat' first
   |exact AK.ret
   |refine AK.ite (fun _=> ?_) fun _=> ?_
   |refine kk.bnd fun _=> ?_
theorem jY (l:List A1) (p:ByteArray) (hl:l.length≤4000000) (B:Nat) (hB:∀d∈l,d.Uri.size≤B):Bu (BP l p) fun r=>r.1.size≤B:=by
 rw[BP]
 have key:∀k:Nat,k≤l.length→Bu (BS l p ((k:Int)-1)) fun r=>r.1.size≤B:=by
  intro k
  induction k with
  |zero=>intro _;rw[BS,Tz (by omega)];exact Bu.ret (Nat.zero_le _)
  |succ k ih=>
   intro hk
   rw[BS,RW (by omega),show((k+1:Nat):Int)-1=(k:Int) by omega]
   refine(Bu.getI (by omega) (by omega)).bnd fun x hx=>Bu.ite (fun _=>Bu.ret (hB x hx.1)) fun _=> ?_
   rw[DC (by omega) (by omega)]
   exact ih (by omega)
 rw[DC (by simp only[AD];omega) (by simp only[AD];omega)]
 exact key l.length (Nat.le_refl _)
theorem eM (l:List A1) (p:ByteArray) (hl:l.length≤4000000):AK (BP l p):=by
 have:∃B,∀d∈l,d.Uri.size≤B:=⟨szs A1.sz l,fun d hd=>by have:=Dq A1.sz hd;rw[A1.sz_eq]at this;omega⟩
 obtain⟨B,hB⟩:=this
 exact(jY l p hl B hB).ends
theorem p8 (l m:List A1) (hl:l.length+m.length≤4000000):EY l m=some (l++m):=by
 rw[EY,Gj (by omega) (by omega) (by omega),Gj (by omega) (by omega) (by omega)];rfl
theorem vE : ∀ n:A0,n.sz≤1048576→∀l:List A1,l.length+n.sz≤4000000→AK (Bb n l):=by
 refine A0.ind' fun n ih hs l hl=> ?_
 have hz:=A0.sz_eq n
 rw[Bb,p8 _ _ (by omega)]
 have hlen:(l++n.Decls).length≤4000000:=by rw[List.length_append];omega
 have l45:AK (AY (l++n.Decls) 0 n):=by
  refine R7 n.Kids (fun i=>AY (l++n.Decls) i n) (fun k x hx hk=> ?_) ?_
  ·have:=eK hx
   have h2:=Dq A0.sz (eJ hx)
   show AK (AY _ k n)
   rw[AY,ot hx,TZ hx,RY (by omega)]
   exact(ih x (eJ hx) (by omega) _ (by rw[List.length_append];have:=A0.sz_eq n;omega)).bnd fun _=>AK.ite (fun _=>hk) fun _=> .ret
  ·show AK (AY _ _ n)
   rw[AY,aW];exact .ret
 have j4:AK (Bx (l++n.Decls) n):=by
  rw[Bx]
  refine R7 n.Attrs (fun i=>B5 (l++n.Decls) i n) (fun k x hx hk=> ?_) ?_
  ·have:=eK hx
   show AK (B5 _ k n)
   rw[B5,ot hx,TZ hx,RY (by omega)]
   exact(eM _ _ hlen).bnd fun _=>AK.ite (fun _=>AK.ite (fun _=>AK.ite (fun _=> .ret) fun _=>hk) fun _=> .ret) fun _=>hk
  ·show AK (B5 _ _ n)
   rw[B5,aW];exact l45
 rw[A6]
 exact AK.ite (fun _=>(eM _ _ hlen).bnd fun _=>AK.ite (fun _=>AK.ite (fun _=> .ret) fun _=>j4) fun _=> .ret) fun _=>j4
theorem p9 (n:A0) (hs:n.sz≤1048575):AK (Ev n):=by
 rw[Ev]
 have h1:=p7 n hs
 have h2:=vE n (by omega) [] (by show 0+_≤_;omega)
 repeat' first
  |exact AK.ret
  |refine AK.ite (fun _=> ?_) fun _=> ?_
  |refine h1.bnd fun _=> ?_
  |refine h2.bnd fun _=> ?_
end TT
