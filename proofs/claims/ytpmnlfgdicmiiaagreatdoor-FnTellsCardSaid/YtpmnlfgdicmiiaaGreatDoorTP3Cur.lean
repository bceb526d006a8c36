import Derived.Test.YtpmnlfgdicmiiaaGreatDoorTP0
import Derived.Test.YtpmnlfgdicmiiaaGreatDoorTP1
set_option linter.unusedVariables false
set_option linter.unusedSimpArgs false
namespace TT
open Go
def Bz {α:Type} (x:Option α) (P:α→Prop):Prop:=∃a,x=some a∧P a
theorem Bz.ret {α:Type} {a:α} {P:α→Prop} (h:P a):Bz (some a) P:=⟨a,rfl,h⟩
theorem Bz.bnd {α β:Type} {x:Option α} {f:α→Option β} {P:α→Prop} {Q:β→Prop} (h:Bz x P) (k:∀a,P a→Bz (f a) Q):Bz (x>>=f) Q:=by
 obtain⟨a,rfl,h⟩:=h
 exact k a h
theorem Bz.ite {α:Type} {b:Bool} {x y:Option α} {P:α→Prop} (h1:b=true→Bz x P) (h2:b=false→Bz y P):Bz (if b then x else y) P:=by
 cases b
 ·exact h2 rfl
 ·exact h1 rfl
theorem Bz.mono {α:Type} {x:Option α} {P Q:α→Prop} (h:Bz x P) (hpq:∀a,P a→Q a):Bz x Q:=by
 obtain⟨a,e,h⟩:=h
 exact⟨a,e,hpq a h⟩
theorem Bz.room {n byt:Nat} (h:n≤4000000) (hb:0<byt:=by decide) (hb2:byt≤1000:=by decide):Bz (room n byt) fun _=>True:=⟨(),Hs h hb hb2,trivial⟩
theorem Bz.getI {α:Type} {l:List α} {i:Int} (h0:0≤i) (h1:i<l.length):Bz (getI l i) fun x=>x∈l∧l[i.toNat]? =some x:=by
 have h:i.toNat<l.length:=by omega
 refine⟨l[i.toNat], ?_,List.getElem_mem h,List.getElem?_eq_getElem h⟩
 unfold TT.getI
 rw[if_pos h0]
 exact List.getElem?_eq_getElem h
structure RD (c:A7):Prop where
 len:c.xb.length≤1048576
 lo:0≤c.xi
 hi:c.xi≤c.xb.length
theorem A5I (a:Int):0≤XW .i64 a 255∧XW .i64 a 255<256:=by
 have e:XW .i64 a 255=IntKind.i64.wrap ((BitVec.ofInt 64 a&&& BitVec.ofInt 64 255).toNat:Int):=rfl
 have h:(BitVec.ofInt 64 a&&& BitVec.ofInt 64 255).toNat≤255:=by
  rw[BitVec.toNat_and];exact Nat.le_trans Nat.and_le_right (by decide)
 rw[e,Wu (by omega) (by omega)]
 omega
theorem Bz.shr {a b:Int} (h:0≤b):Bz (nu .i64 a b) fun _=>True:=by
 refine⟨a.fdiv (2^(min b.toNat IntKind.i64.bits)), ?_,trivial⟩
 unfold nu
 rw[if_neg (by omega)]
theorem Ww (c:A7) (h:RD c):Bz (J1 c) fun r=>(0≤r.1∧r.1<256)∧RD r.2:=by
 rw[J1]
 refine(Bz.shr (by decide)).bnd fun x _=>(Bz.shr (by decide)).bnd fun y _=>Bz.ite (fun hi=> ?_) fun _=> ?_
 ·have hl:=jf.1 hi
  simp only[AD]at hl
  refine(Bz.getI h.lo hl).bnd fun z _=>Bz.ret ⟨A5I _,h.len, ?_, ?_⟩
  ·show 0≤Af c.xi 1
   have:=h.lo;have:=h.len
   rw[Bk (by omega) (by omega)];omega
  ·show Af c.xi 1≤c.xb.length
   have:=h.lo;have:=h.len
   rw[Bk (by omega) (by omega)];omega
 ·exact Bz.ret ⟨A5I _,h.len,h.lo,h.hi⟩
theorem wF {a n:Int} (h0:0≤a) (hn:0<n):Bz (xx a n) fun x=>0≤x∧x<n:=by
 refine⟨a.tmod n, ?_,Int.tmod_nonneg _ h0,Int.tmod_lt_of_pos _ hn⟩
 unfold xx
 rw[if_neg (by omega)]
theorem GK (c:A7) (h:RD c) (n:Int):Bz (Cz c n) fun r=>0≤r.1∧(r.1<n∨r.1=0)∧RD r.2:=by
 rw[Cz]
 refine Bz.ite (fun _=>Bz.ret ⟨Int.le_refl _, .inr rfl,h⟩) fun h0=>Bz.ite (fun _=> ?_) fun _=> ?_
 ·have hn:0<n:=by have:=decide_eq_false_iff_not.1 h0;omega
  exact(Ww c h).bnd fun r hr=>(wF hr.1.1 hn).bnd fun x hx=>Bz.ret ⟨hx.1, .inl hx.2,hr.2⟩
 ·have hn:0<n:=by have:=decide_eq_false_iff_not.1 h0;omega
  refine(Ww c h).bnd fun r hr=>(Ww _ hr.2).bnd fun s hs=>(Ww _ hs.2).bnd fun t ht=> ?_
  have e:Af (Af (cy r.1 65536) (cy s.1 256)) t.1=r.1*65536+s.1*256+t.1:=by
   have m1:cy r.1 65536=r.1*65536:=Wu (by omega) (by omega)
   have m2:cy s.1 256=s.1*256:=Wu (by omega) (by omega)
   rw[m1,m2,show Af (r.1*65536) (s.1*256)=r.1*65536+s.1*256 from Bk (by omega) (by omega),Bk (by omega) (by omega)]
  rw[e]
  exact(wF (by omega) hn).bnd fun x hx=>Bz.ret ⟨hx.1, .inl hx.2,ht.2⟩
theorem NG (c:A7) (h:RD c) (n:Int):Bz (FR c n) fun r=>RD r.2:=by
 rw[FR]
 exact(GK c h n).bnd fun r hr=>Bz.ret hr.2.2
theorem Iy (c:A7) (h:RD c) (l:List ByteArray) (hl:0<l.length):Bz (Dy c l) fun r=>r.1∈l∧RD r.2:=by
 rw[Dy]
 exact(GK c h _).bnd fun r hr=>(Bz.getI hr.1 (by have:=hr.2.1;simp only[AD]at this;omega)).bnd fun x hx=>Bz.ret ⟨hx.1,hr.2.2⟩
theorem A1j (c:A7) (h:RD c) (l:List Int) (hl:0<l.length):Bz (U6 c l) fun r=>r.1∈l∧RD r.2:=by
 rw[U6]
 exact(GK c h _).bnd fun r hr=>(Bz.getI hr.1 (by have:=hr.2.1;simp only[AD]at this;omega)).bnd fun x hx=>Bz.ret ⟨hx.1,hr.2.2⟩
theorem zB (code:List Int) (hl:code.length≤1048576):∀(m:Nat) (h:Int) (k:Nat),code.length≤k+m→Bz (I5 code h k) RD:=by
 intro m
 induction m with
 |zero=>
  intro h k hk
  rw[I5,Hr (by simp only[AD];omega)]
  exact Bz.ret ⟨hl,by show(0:Int)≤0;omega,by show(0:Int)≤_;omega⟩
 |succ m ih=>
  intro h k hk
  rw[I5]
  refine Bz.ite (fun hi=>Bz.ite (fun _=> ?_) fun _=> ?_) fun _=> ?_
  ·have hlt:=jf.1 hi
   simp only[AD]at hlt
   refine(Bz.getI (by omega) hlt).bnd fun x _=> ?_
   rw[show Af (k:Int) 1=((k+1:Nat):Int) by rw[Bk (by omega) (by omega)];omega]
   exact ih _ _ (by omega)
  ·exact Bz.ret ⟨hl,by show(0:Int)≤0;omega,by show(0:Int)≤_;omega⟩
  ·exact Bz.ret ⟨hl,by show(0:Int)≤0;omega,by show(0:Int)≤_;omega⟩
theorem qZ (code:List Int) (hl:code.length≤1048576):Bz (QA code) RD:=by
 rw[QA]
 exact zB code hl code.length _ 0 (by omega)
end TT
namespace TT
open Go
def Aa {α:Type} (x:Option α):Prop:=∃a,x=some a
theorem Aa.ret {α:Type} {a:α}:Aa (some a):=⟨a,rfl⟩
theorem Aa.bnd {α β:Type} {x:Option α} {f:α→Option β} (h:Aa x) (k:∀a,Aa (f a)):Aa (x>>=f):=by obtain⟨a,rfl⟩:=h;exact k a
theorem Aa.ite {α:Type} {b:Bool} {x y:Option α} (h1:b=true→Aa x) (h2:b=false→Aa y):Aa (if b then x else y):=by
 cases b
 ·exact h2 rfl
 ·exact h1 rfl
theorem Bz.ends {α:Type} {x:Option α} {P:α→Prop} (h:Bz x P):Aa x:=by obtain⟨a,e,_⟩:=h;exact⟨a,e⟩
theorem Aa.tot {α:Type} {x:Option α} (h:Aa x):Bz x fun _=>True:=by obtain⟨a,e⟩:=h;exact⟨a,e,trivial⟩
theorem Wx {α:Type} {l:List α} {k:Nat} {x:α} (h:l[k]? =some x):getI l (k:Int)=some x:=by
 unfold getI;rw[if_pos (by omega)];simpa using h
theorem Uv {k:Nat} (h:k≤4000000):Af (k:Int) 1=((k+1:Nat):Int):=by rw[Bk (by omega) (by omega)];omega
theorem wG {α:Type} {l:List α} {k:Nat} {x:α} (h:l[k]? =some x):H5 (k:Int) (AD l)=true:=by
 have:=(List.getElem?_eq_some_iff.1 h).1
 exact Sq (by simp only[AD];omega)
theorem zC {α:Type} {l:List α} {k:Nat} {x:α} (h:l[k]? =some x) (hk:Pj (k:Int) 0=true) (hl:l.length≤4000000):Aa (getI l (Cq (k:Int) 1)):=by
 have h1:=(List.getElem?_eq_some_iff.1 h).1
 have h2:=of_decide_eq_true hk
 rw[E7 (by omega) (by omega)]
 exact(Bz.getI (l:=l) (i:=(k:Int)-1) (by omega) (by omega)).ends
theorem A1k {α ρ:Type} (l:List α) (F:Int→Option ρ) (hF:∀(k:Nat) x,l[k]? =some x→Aa (F ((k+1:Nat):Int))→Aa (F (k:Int))) (h0:Aa (F ((l.length:Nat):Int))):∀m k:Nat,k≤l.length→l.length≤k+m→Aa (F (k:Int)):=by
 intro m
 induction m with
 |zero=>intro k h1 h2;rw[show k=l.length by omega];exact h0
 |succ m ih=>
  intro k h1 h2
  by_cases e:k=l.length
  ·rw[e];exact h0
  ·have hlt:k<l.length:=by omega
   exact hF k _ (List.getElem?_eq_getElem hlt) (ih (k+1) (by omega) (by omega))
theorem UT {α ρ:Type} (l:List α) (F:Int→Option ρ) (hF:∀(k:Nat) x,l[k]? =some x→Aa (F ((k+1:Nat):Int))→Aa (F (k:Int))) (h0:Aa (F ((l.length:Nat):Int))):Aa (F 0):=A1k l F hF h0 l.length 0 (by omega) (by omega)
theorem gz {α:Type} (l:List α):H5 ((l.length:Nat):Int) (AD l)=false:=Hr (by simp only[AD];omega)
theorem Wy {s:ByteArray} {i:Int} (h0:0≤i) (h1:i<s.size):Bz (atS s i) fun x=>0≤x∧x<256:=by
 unfold atS
 rw[dif_pos ⟨h0,by omega⟩]
 refine Bz.ret ⟨by omega, ?_⟩
 have:=(s[i.toNat]'(by omega)).toNat_lt
 omega
theorem Tf (a b c:Int):Aa (CH a b c):=by
 rw[CH];exact Aa.ite (fun _=> .ret) fun _=> .ret
theorem A8R (s:ByteArray) (hs:s.size≤4000000) (at1 n:Nat) (hn:n≤3) (ha:at1+n<s.size) (least:Int):∀(m i:Nat) (v:Int),n+1≤i+m→Bz (BX s at1 n least v i) fun r=>r.2.2=true→r.2.1=((at1+1+n:Nat):Int):=by
 have fin:∀(i:Nat) (v:Int),n<i→Bz (BX s at1 n least v i) fun r=>r.2.2=true→r.2.1=((at1+1+n:Nat):Int):=by
  intro i v hi
  rw[BX,Z5 (by omega)]
  simp only[bf,if_false]
  refine Bz.ite (fun _=>Bz.ret (by simp)) fun _=>Bz.ite (fun _=>Bz.ret (by simp)) fun _=>(Tf v 55296 57343).tot.bnd fun r _=>Bz.ite (fun _=>Bz.ret (by simp)) fun _=>Bz.ret fun _=> ?_
  show Af (Af (at1:Int) 1) n=_
  rw[Uv (by omega),Bk (by omega) (by omega)];omega
 intro m
 induction m with
 |zero=>intro i v hi;exact fin i v (by omega)
 |succ m ih=>
  intro i v hi
  by_cases hin:i≤n
  ·rw[BX,Ss (by omega),Bk (by omega) (by omega)]
   simp only[if_true]
   refine(Wy (by omega) (by omega)).bnd fun x _=>Bz.ite (fun _=>Bz.ret (by simp)) fun _=>Bz.ite (fun _=>Bz.ret (by simp)) fun _=> ?_
   rw[Uv (by omega)]
   exact ih (i+1) _ (by omega)
  ·exact fin i v (by omega)
theorem td (s:ByteArray) (hs:s.size≤4000000) (at1:Nat) (ha:at1<s.size) (n:Nat) (hn:n≤3) (least v:Int):Bz (Ds s at1 n least v) fun r=>r.2.2=true→((at1:Int)<r.2.1∧r.2.1≤s.size):=by
 rw[Ds]
 refine Bz.ite (fun _=>Bz.ret (by simp)) fun h=> ?_
 have h1:Cq (B7 s) 1=(s.size:Int)-1:=E7 (by simp only[B7];omega) (by simp only[B7];omega)
 have h2:Cq ((s.size:Int)-1) n=(s.size:Int)-1-n:=E7 (by omega) (by omega)
 have h3:=of_decide_eq_false h
 rw[h1,h2]at h3
 exact(A8R s hs at1 n hn (by omega) least (n+1) 1 v (by omega)).mono fun r hr hb=>by have:=hr hb;omega
theorem mA (s:ByteArray) (hs:s.size≤4000000) (at1:Nat) (ha:at1<s.size):Bz (G9 s at1) fun r=>r.2.2=true→((at1:Int)<r.2.1∧r.2.1≤s.size):=by
 have j32:∀x b,Bz (Eb s at1 x b) fun r=>r.2.2=true→((at1:Int)<r.2.1∧r.2.1≤s.size):=fun x b=>by
  rw[Eb]
  exact Bz.ite (fun _=>td s hs at1 ha 2 (by omega) _ _) fun _=>Bz.ite (fun _=>Bz.ite (fun _=>td s hs at1 ha 3 (by omega) _ _) fun _=>Bz.ret (by simp)) fun _=>Bz.ret (by simp)
 have j28:∀x b,Bz (Ec s at1 x b) fun r=>r.2.2=true→((at1:Int)<r.2.1∧r.2.1≤s.size):=fun x b=>by
  rw[Ec]
  exact Bz.ite (fun _=>td s hs at1 ha 1 (by omega) _ _) fun _=>Bz.ite (fun _=>j32 _ _) fun _=>j32 _ _
 rw[G9]
 refine Bz.ite (fun _=>Bz.ret (by simp)) fun _=>Bz.ite (fun _=>Bz.ret (by simp)) fun _=>(Wy (by omega) (by omega)).bnd fun x _=>Bz.ite (fun _=>Bz.ret fun _=> ?_) fun _=>Bz.ite (fun _=>j28 _ _) fun _=>j28 _ _
 show(at1:Int)<Af at1 1∧Af at1 1≤_
 rw[Uv (by omega)];omega
theorem hJ (n:Int) (l:List Int) (hl:l.length≤1000):Aa (FI n l):=by
 rw[FI]
 have key:∀(m k:Nat),k≤1002→l.length≤k+m→Aa (BE n l k):=by
  intro m
  induction m with
  |zero=>
   intro k h1 h2
   rw[BE,Uv (by omega),Hr (by simp only[AD];omega)];exact .ret
  |succ m ih=>
   intro k h1 h2
   rw[BE,Uv (by omega)]
   refine Aa.ite (fun h=> ?_) fun _=> .ret
   have h3:=jf.1 h
   simp only[AD]at h3
   refine(Bz.getI (by omega) (by omega)).ends.bnd fun x=>(Bz.getI (by omega) (by omega)).ends.bnd fun y=>(Tf _ _ _).bnd fun b=>Aa.ite (fun _=> .ret) fun _=> ?_
   rw[show Af (k:Int) 2=((k+2:Nat):Int) by rw[Bk (by omega) (by omega)];omega]
   exact ih (k+2) (by omega) (by omega)
 exact key l.length 0 (by omega) (by omega)
theorem eO (n:Int):Aa (EP n):=by
 rw[EP];exact(hJ _ _ (by decide)).bnd fun _=> .ret
theorem hZ (n:Int):Aa (FS n):=by
 rw[FS];exact(eO _).bnd fun _=>Aa.ite (fun _=> .ret) fun _=>(hJ _ _ (by decide)).bnd fun _=> .ret
theorem wH (n:Int):Aa (Kf n):=by
 rw[Kf]
 exact Aa.ite (fun _=> .ret) fun _=>Aa.ite (fun _=> .ret) fun _=>Aa.ite (fun _=> .ret) fun _=>(Tf _ _ _).bnd fun _=>Aa.ite (fun _=> .ret) fun _=>(Tf _ _ _).bnd fun _=>Aa.ite (fun _=> .ret) fun _=>(Tf _ _ _).bnd fun _=> .ret
theorem mB {ρ:Type} (s:ByteArray) (hs:s.size≤4000000) (F:Int→Option ρ) (hF:∀k:Nat,k<s.size→(∀j:Nat,k<j→j≤s.size→Aa (F j))→Aa (F (k:Int))) (h0:Aa (F ((s.size:Nat):Int))):∀m k:Nat,k≤s.size→s.size≤k+m→Aa (F (k:Int)):=by
 intro m
 induction m with
 |zero=>intro k h1 h2;rw[show k=s.size by omega];exact h0
 |succ m ih=>
  intro k h1 h2
  by_cases e:k=s.size
  ·rw[e];exact h0
  ·exact hF k (by omega) fun j hj hj2=>ih j hj2 (by omega)
theorem wI {a:Int} {k n:Nat} (h:(k:Int)<a∧a≤n):∃j:Nat,a=j∧k<j∧j≤n:=⟨a.toNat,by omega,by omega,by omega⟩
theorem Wz (s:ByteArray) (hs:s.size≤4000000):Aa (BQ s):=by
 rw[BQ]
 refine(Tf _ _ _).bnd fun _=>Aa.ite (fun _=> ?_) fun _=> .ret
 refine mB s hs (B6 s) (fun k hk ih=> ?_) ?_ s.size 0 (by omega) (by omega)
 ·rw[B6]
  refine Aa.ite (fun _=> ?_) fun _=> .ret
  obtain⟨r,e,hr⟩:=mA s hs k hk
  rw[e]
  refine Aa.ite (fun h=> ?_) fun _=> .ret
  obtain⟨j,ej,j1,j2⟩:=wI (hr h)
  rw[ej]
  exact Aa.ite (fun _=>(eO _).bnd fun _=>Aa.ite (fun _=>(hZ _).bnd fun _=>Aa.ite (fun _=>ih j j1 j2) fun _=> .ret) fun _=> .ret) fun _=>(hZ _).bnd fun _=>Aa.ite (fun _=>ih j j1 j2) fun _=> .ret
 ·rw[B6,Hr (by simp only[B7];omega)];exact .ret
theorem WL (s:ByteArray) (hs:s.size≤4000000):Aa (Bv s):=by
 rw[Bv]
 refine Aa.ite (fun _=> ?_) fun _=> .ret
 rw[HU]
 refine Aa.bnd ?_ fun _=> .ret
 refine mB s hs (CC s) (fun k hk ih=> ?_) ?_ s.size 0 (by omega) (by omega)
 ·rw[CC]
  refine Aa.ite (fun _=> ?_) fun _=> .ret
  obtain⟨r,e,hr⟩:=mA s hs k hk
  rw[e]
  refine Aa.ite (fun h=> ?_) fun _=> .ret
  obtain⟨j,ej,j1,j2⟩:=wI (hr h)
  rw[ej]
  exact(wH _).bnd fun _=>Aa.ite (fun _=>ih j j1 j2) fun _=> .ret
 ·rw[CC,Hr (by simp only[B7];omega)];exact .ret
theorem qa {s:ByteArray} {l h:Int} (h0:0≤l) (h1:l≤h) (h2:h≤s.size):Aa (Pk s l h):=by unfold Pk;rw[if_pos ⟨h0,h1,h2⟩];exact .ret
theorem mC (s:ByteArray):Aa (Ke s):=by
 rw[Ke]
 refine Aa.ite (fun h=> ?_) fun _=> .ret
 have:=of_decide_eq_true h
 simp only[B7]at this
 exact(qa (by omega) (by omega) (by omega)).bnd fun _=> .ret
theorem mD (s:ByteArray) (hs:s.size≤4000000):Aa (EQ s):=by
 rw[EQ]
 exact Aa.ite (fun _=> .ret) fun _=>(Wz s hs).bnd fun _=>Aa.ite (fun _=>(mC s).bnd fun _=> .ret) fun _=> .ret
theorem A1l (d:A2) (hs:d.sz≤4000000):Aa (Kg d):=by
 rw[A2.sz_eq]at hs
 have j2:Aa (Ge d):=by rw[Ge];exact(WL _ (by omega)).bnd fun _=>Aa.ite (fun _=> .ret) fun _=> .ret
 rw[Kg]
 exact Aa.ite (fun _=>(Wz _ (by omega)).bnd fun _=>Aa.ite (fun _=>(mC _).bnd fun _=>Aa.ite (fun _=> .ret) fun _=>Aa.ite (fun _=> .ret) fun _=>j2) fun _=> .ret) fun _=>j2
theorem mE {α:Type} {l:List α} {k:Nat} {x:α} (h:l[k]? =some x):x∈l:=List.mem_of_getElem? h
theorem mF {α:Type} {l:List α} {k:Nat} {x:α} (h:l[k]? =some x):k<l.length:=(List.getElem?_eq_some_iff.1 h).1
theorem zD (l:List A2) (hl:l.length≤4000000) (hs:∀d∈l,d.sz≤4000000):Aa (Dt l):=by
 rw[Dt]
 refine UT l (CD l) (fun k x hx ih=> ?_) ?_
 ·have:=mF hx
  rw[CD,wG hx,Wx hx,Uv (by omega)]
  exact(A1l x (hs x (mE hx))).bnd fun _=>Aa.ite (fun _=>Aa.ite (fun h=>(zC hx h hl).bnd fun _=>Aa.ite (fun _=> .ret) fun _=>ih) fun _=>ih) fun _=> .ret
 ·rw[CD,gz];exact .ret
theorem A1m (n:A0):Aa (J3 n):=by
 rw[J3]
 exact Aa.ite (fun _=>Aa.ite (fun _=>Aa.ite (fun _=>Aa.ite (fun _=> .ret) fun _=> .ret) fun _=> .ret) fun _=> .ret) fun _=> .ret
theorem mG (s t:ByteArray) (hs:s.size≤4000000) (ht:1≤t.size∧t.size≤4000000):Aa (Dz s t):=by
 rw[Dz]
 have key:∀(m k:Nat),k≤s.size→s.size≤k+m→Aa (DN s t k):=by
  intro m
  induction m with
  |zero=>intro k h1 h2;rw[DN,Bk (by simp only[B7];omega) (by simp only[B7];omega),Z5 (by simp only[B7];omega)];exact .ret
  |succ m ih=>
   intro k h1 h2
   rw[DN,Bk (by simp only[B7];omega) (by simp only[B7];omega)]
   refine Aa.ite (fun h=> ?_) fun _=> .ret
   have h3:=of_decide_eq_true h
   simp only[B7]at h3
   refine(qa (by omega) (by simp only[B7];omega) (by simp only[B7];omega)).bnd fun _=>Aa.ite (fun _=> .ret) fun _=> ?_
   rw[Uv (by omega)]
   exact ih (k+1) (by omega) (by omega)
 exact key s.size 0 (by omega) (by omega)
theorem A5J (s:ByteArray):Aa (N3 s):=by
 rw[N3]
 refine Aa.ite (fun _=> .ret) fun h=> ?_
 have h3:s.size=3:=by simp only[neI,B7,bne_eq_false_iff_eq]at h;omega
 have a0:Aa (atS s 0):=(Wy (by omega) (by omega)).ends
 have a1:Aa (atS s 1):=(Wy (by omega) (by omega)).ends
 have a2:Aa (atS s 2):=(Wy (by omega) (by omega)).ends
 repeat' first
  |exact Aa.ret
  |refine Aa.ite (fun _=> ?_) fun _=> ?_
  |refine a0.bnd fun _=> ?_
  |refine a1.bnd fun _=> ?_
  |refine a2.bnd fun _=> ?_
theorem zE (n:Int):Aa (HV n):=by
 rw[HV]
 exact Aa.ite (fun _=> .ret) fun _=>Aa.ite (fun _=> .ret) fun _=>Aa.ite (fun _=> .ret) fun _=> .ret
theorem qb (a b:A5):Aa (J2 a b):=by
 rw[J2];exact Aa.ite (fun _=> .ret) fun _=>Aa.ite (fun _=> .ret) fun _=> .ret
theorem A1n (a:A5) (hs:a.sz≤4000000):Aa (GA a):=by
 rw[A5.sz_eq]at hs
 have j2:Aa (Ey a):=by rw[Ey];exact(WL _ (by omega)).bnd fun _=>Aa.ite (fun _=>(WL _ (by omega)).bnd fun _=>Aa.ite (fun _=> .ret) fun _=> .ret) fun _=> .ret
 rw[GA]
 exact(mD _ (by omega)).bnd fun _=>Aa.ite (fun _=>Aa.ite (fun _=> .ret) fun _=>(Wz _ (by omega)).bnd fun _=>Aa.ite (fun _=>Aa.ite (fun _=>Aa.ite (fun _=> .ret) fun _=>j2) fun _=>j2) fun _=> .ret) fun _=> .ret
theorem zF (n:A0) (hl:n.Attrs.length≤4000000) (hs:∀d∈n.Attrs,d.sz≤4000000):Aa (EE n):=by
 rw[EE]
 refine UT n.Attrs (fun i=>C1 i n) (fun k x hx ih=> ?_) ?_
 ·have:=mF hx
  show Aa (C1 k n)
  rw[C1,wG hx,Wx hx,Uv (by omega)]
  exact(A1n x (hs x (mE hx))).bnd fun _=>Aa.ite (fun _=>Aa.ite (fun h=>(zC hx h hl).bnd fun _=>(qb _ _).bnd fun _=>Aa.ite (fun _=>ih) fun _=> .ret) fun _=>ih) fun _=> .ret
 ·show Aa (C1 _ n)
  rw[C1,gz];exact .ret
theorem A5K (n:A0) (hs:n.sz≤1048576):Aa (Dc n):=by
 rw[A0.sz_eq]at hs
 have t1:=WL n.Text (by omega)
 have t2:=WL n.Uri (by omega)
 have p1:=Wz n.Local (by omega)
 have p2:=mD n.Pre (by omega)
 have d1:=zD n.Decls (by omega) (fun d hd=>by have:=Dh A2.sz hd;omega)
 have a1:=zF n (by omega) (fun d hd=>by have:=Dh A5.sz hd;omega)
 have b1:=A1m n
 have x1:=A5J n.Local
 have h1:Aa (Dz n.Text (⟨#[45,45]⟩)):=mG n.Text _ (by omega) ⟨by decide,by decide⟩
 have h2:Aa (Dz n.Text (⟨#[13]⟩)):=mG n.Text _ (by omega) ⟨by decide,by decide⟩
 have h3:Aa (Dz n.Text (⟨#[63,62]⟩)):=mG n.Text _ (by omega) ⟨by decide,by decide⟩
 have ne:C6 n.Text (⟨#[]⟩)=false→1≤n.Text.size:=fun h=>by
  rcases Nat.eq_zero_or_pos n.Text.size with e|e
  ·exfalso
   have:n.Text=⟨#[]⟩:=by
    have hh:n.Text.data= #[]:=Array.eq_empty_of_size_eq_zero e
    cases hn:n.Text;rw[hn]at hh;simp only at hh;rw[hh]
   rw[this,Ix]at h;cases h
  ·exact e
 have f0:C6 n.Text (⟨#[]⟩)=false→Aa (atS n.Text 0):=fun h=>by have:=ne h;exact(Wy (by omega) (by omega)).ends
 have f1:C6 n.Text (⟨#[]⟩)=false→Aa (atS n.Text (Cq (B7 n.Text) 1)):=fun h=>by
  have:=ne h
  rw[E7 (by simp only[B7];omega) (by simp only[B7];omega)]
  exact(Wy (by simp only[B7];omega) (by simp only[B7];omega)).ends
 rw[Dc]
 repeat' first
  |exact Aa.ret
  |exact a1
  |refine Aa.ite (fun _=> ?_) fun hq=> ?_
  |refine t1.bnd fun _=> ?_
  |refine t2.bnd fun _=> ?_
  |refine p1.bnd fun _=> ?_
  |refine p2.bnd fun _=> ?_
  |refine d1.bnd fun _=> ?_
  |refine b1.bnd fun _=> ?_
  |refine x1.bnd fun _=> ?_
  |refine h1.bnd fun _=> ?_
  |refine h2.bnd fun _=> ?_
  |refine h3.bnd fun _=> ?_
  |refine(zE _).bnd fun _=> ?_
  |refine(f0 (by assumption)).bnd fun _=> ?_
  |refine(f1 (by assumption)).bnd fun _=> ?_
theorem qc (N:Nat):∀(l:List A0),l.length+szs A0.sz l≤N→N≤1048576→∀deep,Aa (Bi l deep):=by
 induction N using Nat.strongRecOn with
 |_ N ih=>
  intro l hl hN deep
  rw[Bi]
  refine UT l (fun i=>Bd l deep i) (fun k x hx hk=> ?_) ?_
  ·have h1:=mF hx
   have h2:=Dh A0.sz (mE hx)
   have h3:x.Kids.length+szs A0.sz x.Kids<N:=by
    have:=A0.sz_eq x
    omega
   have j17:Aa (DO l deep k x):=by
    rw[DO,Uv (by omega)]
    exact Aa.ite (fun _=>Aa.ite (fun _=> .ret) fun _=>(ih _ h3 x.Kids (Nat.le_refl _) (by omega) _).bnd fun _=>Aa.ite (fun _=>hk) fun _=> .ret) fun _=>hk
   show Aa (Bd l deep k)
   rw[Bd,wG hx,Wx hx]
   exact(A5K x (by omega)).bnd fun _=>Aa.ite (fun _=>Aa.ite (fun _=>Aa.ite (fun h=>(zC hx h (by omega)).bnd fun _=>Aa.ite (fun _=> .ret) fun _=>j17) fun _=>j17) fun _=>j17) fun _=> .ret
  ·show Aa (Bd l deep _)
   rw[Bd,gz];exact .ret
theorem wJ {α ρ:Type} (l:List α) (F:Int→Int→Option ρ) (hF:∀(k:Nat) x a,l[k]? =some x→(∀b,Aa (F b ((k+1:Nat):Int)))→Aa (F a (k:Int))) (h0:∀a,Aa (F a ((l.length:Nat):Int))):∀a,Aa (F a 0):=by
 have key:∀(m k:Nat),k≤l.length→l.length≤k+m→∀a,Aa (F a k):=by
  intro m
  induction m with
  |zero=>intro k h1 h2 a;rw[show k=l.length by omega];exact h0 a
  |succ m ih=>
   intro k h1 h2 a
   by_cases e:k=l.length
   ·rw[e];exact h0 a
   ·exact hF k _ a (List.getElem?_eq_getElem (by omega)) (ih (k+1) (by omega) (by omega))
 exact key l.length 0 (by omega) (by omega)
theorem zG : ∀ n:A0,n.sz≤1048576→Aa (CX n):=by
 refine A0.ind' fun n ih hs=> ?_
 rw[A0.sz_eq]at hs
 rw[CX]
 refine wJ n.Kids (fun a i=>BM a i n) (fun k x a hx hk=> ?_) (fun a=> ?_) _
 ·have:=mF hx
  have h2:=Dh A0.sz (mE hx)
  show Aa (BM a k n)
  rw[BM,wG hx,Wx hx,Uv (by omega)]
  exact(ih x (mE hx) (by omega)).bnd fun _=>hk _
 ·show Aa (BM a _ n)
  rw[BM,gz];exact .ret
theorem wK (n:A0) (hs:n.sz≤1048575):Aa (FU n):=by
 have hz:=hs
 rw[A0.sz_eq]at hz
 rw[FU]
 refine(zG n (by omega)).bnd fun _=>Aa.ite (fun _=> .ret) fun _=>Aa.ite (fun _=>(qc 1048576 [n] (by rw[Kx];show 1+(n.sz+0)≤_;omega) (by omega) _).bnd fun _=> .ret) fun _=> ?_
 refine wJ n.Kids (fun a i=>BN a i n) (fun k x a hx hk=> ?_) (fun a=> ?_) _
 ·have:=mF hx
  have j33:∀b,Aa (DP b k n):=fun b=>by
   rw[DP,Wx hx,Uv (by omega)]
   exact Aa.ite (fun _=> .ret) fun _=>hk _
  show Aa (BN a k n)
  rw[BN,wG hx,Wx hx]
  simp only[if_true,A3]
  exact Aa.ite (fun _=>j33 _) fun _=>j33 _
 ·show Aa (BN a _ n)
  rw[BN,gz]
  have kk:=qc 1048576 n.Kids (by omega) (by omega) 0
  simp only[bf,if_false]
  repeat' first
   |exact Aa.ret
   |refine Aa.ite (fun _=> ?_) fun _=> ?_
   |refine kk.bnd fun _=> ?_
theorem qd (l:List A2) (p:ByteArray) (hl:l.length≤4000000) (B:Nat) (hB:∀d∈l,d.Uri.size≤B):Bz (C9 l p) fun r=>r.1.size≤B:=by
 rw[C9]
 have key:∀k:Nat,k≤l.length→Bz (CB l p ((k:Int)-1)) fun r=>r.1.size≤B:=by
  intro k
  induction k with
  |zero=>intro _;rw[CB,Ut (by omega)];exact Bz.ret (Nat.zero_le _)
  |succ k ih=>
   intro hk
   rw[CB,PV (by omega),show((k+1:Nat):Int)-1=(k:Int) by omega]
   refine(Bz.getI (by omega) (by omega)).bnd fun x hx=>Bz.ite (fun _=>Bz.ret (hB x hx.1)) fun _=> ?_
   rw[E7 (by omega) (by omega)]
   exact ih (by omega)
 rw[E7 (by simp only[AD];omega) (by simp only[AD];omega)]
 exact key l.length (Nat.le_refl _)
theorem mH (l:List A2) (p:ByteArray) (hl:l.length≤4000000):Aa (C9 l p):=by
 have:∃B,∀d∈l,d.Uri.size≤B:=⟨szs A2.sz l,fun d hd=>by have:=Dh A2.sz hd;rw[A2.sz_eq]at this;omega⟩
 obtain⟨B,hB⟩:=this
 exact(qd l p hl B hB).ends
theorem wL (l m:List A2) (hl:l.length+m.length≤4000000):Fn l m=some (l++m):=by
 rw[Fn,Hs (by omega) (by omega) (by omega),Hs (by omega) (by omega) (by omega)];rfl
theorem A1o : ∀ n:A0,n.sz≤1048576→∀l:List A2,l.length+n.sz≤4000000→Aa (CN n l):=by
 refine A0.ind' fun n ih hs l hl=> ?_
 have hz:=A0.sz_eq n
 rw[CN,wL _ _ (by omega)]
 have hlen:(l++n.Decls).length≤4000000:=by rw[List.length_append];omega
 have l45:Aa (Ay (l++n.Decls) 0 n):=by
  refine UT n.Kids (fun i=>Ay (l++n.Decls) i n) (fun k x hx hk=> ?_) ?_
  ·have:=mF hx
   have h2:=Dh A0.sz (mE hx)
   show Aa (Ay _ k n)
   rw[Ay,wG hx,Wx hx,Uv (by omega)]
   exact(ih x (mE hx) (by omega) _ (by rw[List.length_append];have:=A0.sz_eq n;omega)).bnd fun _=>Aa.ite (fun _=>hk) fun _=> .ret
  ·show Aa (Ay _ _ n)
   rw[Ay,gz];exact .ret
 have j4:Aa (Ch (l++n.Decls) n):=by
  rw[Ch]
  refine UT n.Attrs (fun i=>Bj (l++n.Decls) i n) (fun k x hx hk=> ?_) ?_
  ·have:=mF hx
   show Aa (Bj _ k n)
   rw[Bj,wG hx,Wx hx,Uv (by omega)]
   exact(mH _ _ hlen).bnd fun _=>Aa.ite (fun _=>Aa.ite (fun _=>Aa.ite (fun _=> .ret) fun _=>hk) fun _=> .ret) fun _=>hk
  ·show Aa (Bj _ _ n)
   rw[Bj,gz];exact l45
 rw[A3]
 exact Aa.ite (fun _=>(mH _ _ hlen).bnd fun _=>Aa.ite (fun _=>Aa.ite (fun _=> .ret) fun _=>j4) fun _=> .ret) fun _=>j4
theorem wM (n:A0) (hs:n.sz≤1048575):Aa (FV n):=by
 rw[FV]
 have h1:=wK n hs
 have h2:=A1o n (by omega) [] (by show 0+_≤_;omega)
 repeat' first
  |exact Aa.ret
  |refine Aa.ite (fun _=> ?_) fun _=> ?_
  |refine h1.bnd fun _=> ?_
  |refine h2.bnd fun _=> ?_
end TT
