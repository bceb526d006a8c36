import Derived.Test.YtpmnlfgdicmiiaaGreatDoorTP3Copy
import Derived.Test.YtpmnlfgdicmiiaaGreatDoorTP2SelOkA
import Derived.Test.YtpmnlfgdicmiiaaGreatDoorTP10Bare
import Derived.Test.YtpmnlfgdicmiiaaGreatDoorTP3Merge
set_option linter.unusedVariables false
set_option linter.unusedSimpArgs false
namespace TT
open Go
def ofQ (kind:Int):List A0→Nat
 | []=>0
 |x::l=>(if Ag x.Kind kind then 1 else 0)+ofQ kind l
theorem A5o (kind:Int):∀l:List A0,ofQ kind l≤l.length
 | []=>Nat.le_refl _
 |x::l=>by
  have:=A5o kind l
  simp only[ofQ,List.length_cons]
  split<;>omega
def skK (kind:Int):Int:=if Ag kind 2 then 3 else if Ag kind 3 then 4 else if Ag kind 4 then 5 else 2
def stK (kind nth:Int):AE:=AE.mk false (skK kind) (⟨#[]⟩) (⟨#[]⟩) [AH.mk 1 nth (⟨#[]⟩) (⟨#[]⟩) (⟨#[]⟩)]
theorem wo (kind:Int):M3 kind=some (skK kind):=by
 rw[M3,skK]
 split
 ·rfl
 ·split
  ·rfl
  ·split<;>rfl
theorem X4 (kind:Int) (l:List A0) (hl:l.length≤1048576):∀(rest pre:List A0) (n:Int),pre++rest=l→0≤n→n≤pre.length→Ci kind n l pre.length=some (n+ofQ kind rest)
 | [],pre,n,hp,h0,h1=>by rw[Ci,Cj hp];simp[ofQ]
 |x::rest,pre,n,hp,h0,h1=>by
  have hlen:pre.length+1≤l.length:=by rw[←hp];simp
  rw[Ci,Bx hp,BS hp,Bm hp (by rw[Aq];omega),Bk (by omega) (by omega)]
  have i1:=X4 kind l hl rest (pre++[x]) (n+1) (Bh hp) (by omega) (by simp;omega)
  have i2:=X4 kind l hl rest (pre++[x]) n (Bh hp) h0 (by simp;omega)
  simp only[if_true,A3,i1,i2,ofQ]
  split
  ·congr 1;simp;omega
  ·congr 1;simp
theorem zX (kind:Int) (l:List A0) (hl:l.length≤1048576):HZ l kind=some ((ofQ kind l:Nat):Int):=by
 rw[HZ,show Ci kind 0 l 0=some (0+((ofQ kind l:Nat):Int))from X4 kind l hl l [] 0 rfl (by omega) (by simp)]
 simp
theorem fp (up x:A0) (i:Nat) (hl:up.Kids.length≤1048576):∀(rest pre:List A0) (nth:Int),pre++rest=up.Kids→0≤nth→nth≤pre.length→CI i nth pre.length up x=some (stK x.Kind (nth+ofQ x.Kind (rest.take (i+1-pre.length))))
 | [],pre,nth,hp,h0,h1=>by
  rw[CI,Cj hp]
  simp only[bf,if_false,List.take_nil,ofQ,stK,skK]
  split
  ·simp
  ·split
   ·simp
   ·split<;>simp
 |y::rest,pre,nth,hp,h0,h1=>by
  have hlen:pre.length+1≤up.Kids.length:=by rw[←hp];simp
  rw[CI,Bx hp,BS hp,Bm hp (by rw[Aq];omega),Bk (by omega) (by omega)]
  have i1:=fp up x i hl rest (pre++[y]) (nth+1) (Bh hp) (by omega) (by simp;omega)
  have i2:=fp up x i hl rest (pre++[y]) nth (Bh hp) h0 (by simp;omega)
  simp only[if_true,A3,i1,i2]
  by_cases hle:pre.length≤i
  ·have e1:leI (pre.length:Int) i=true:=Ss (by omega)
   have e2:i+1-pre.length=(i+1-(pre++[y]).length)+1:=by simp;omega
   rw[e1,e2,List.take_succ_cons,ofQ]
   simp only[if_true]
   split
   ·congr 2;simp;omega
   ·congr 2;simp
  ·have e1:leI (pre.length:Int) i=false:=Z5 (by omega)
   have e2:i+1-pre.length=0:=by omega
   have e3:i+1-(pre++[y]).length=0:=by simp;omega
   rw[e1,e2,e3]
   simp only[List.take_zero,ofQ,bf,if_false,ite_self]
theorem jl {α:Type} {l:List α} {i:Int} {x:α} (h:getI l i=some x):0≤i∧i.toNat<l.length:=by
 unfold getI at h
 split at h
 ·rename_i h0
  exact⟨h0,(List.getElem?_eq_some_iff.1 h).1⟩
 ·cases h
def Lp (n:A0) (i:Int) (k:A0):AE:=stK k.Kind (ofQ k.Kind (n.Kids.take (i.toNat+1)):Nat)
theorem A8j (n k:A0) (i:Int) (hl:n.Kids.length≤1048576) (h:getI n.Kids i=some k):PF n i=some (Lp n i k):=by
 obtain⟨h0,h1⟩:=jl h
 have:=fp n k i.toNat hl n.Kids [] 0 rfl (by omega) (by simp)
 rw[show((i.toNat:Nat):Int)=i by omega]at this
 rw[PF,h]
 simp only[A3]
 rw[show CI i 0 0 n k=CI i 0 (([]:List A0).length:Int) n k from rfl,this]
 simp[Lp]
theorem A5p (n k:A0) (i:Int) (hl:n.Kids.length≤1048576) (h:getI n.Kids i=some k):slL n.Kids 0 (Af i 1)=some (n.Kids.take (i.toNat+1)):=by
 obtain⟨h0,h1⟩:=jl h
 rw[Bk (by omega) (by omega),slL,if_pos ⟨by omega,by omega,by omega⟩]
 simp only[Int.toNat_zero,List.drop_zero]
 congr 2
 omega
def Cn : A0→List Int→List AE
 |n,[]=>[]
 |n,i::p=>match getI n.Kids i with
  |some k=>Lp n i k::Cn k p
  |none=>[]
theorem iE : ∀ (p:List Int) (n:A0),(Cn n p).length≤p.length
 | [],n=>Nat.le_refl _
 |i::p,n=>by
  rw[Cn]
  cases getI n.Kids i with
  |none=>simp
  |some k=>have:=iE p k;simp;omega
theorem mg : ∀ (p:List Int) (n:A0),szs AE.sz (Cn n p)≤p.length
 | [],n=>Nat.le_refl _
 |i::p,n=>by
  rw[Cn]
  cases getI n.Kids i with
  |none=>simp[szs]
  |some k=>
   have:=mg p k
   have e:AE.sz (Lp n i k)=1:=rfl
   simp only[Kx,e,List.length_cons]
   omega
def emS : ByteArray:=⟨#[]⟩
theorem iF (path:List Int) (hl:path.length≤8):∀(rest pre:List Int) (n:A0) (out:List AE),pre++rest=path→(∃x,Em n rest=some x)→n.sz≤1048576→out.length=pre.length→Fp path pre.length out n=some (B8.mk emS (out++Cn n rest),true)
 | [],pre,n,out,hp,hx,hs,ho=>by rw[Fp,Cj hp];simp[Cn,emS]
 |i::rest,pre,n,out,hp,hx,hs,ho=>by
  obtain⟨x,hx⟩:=hx
  obtain⟨k,h1,h2⟩:=Option.bind_eq_some_iff.1 hx
  have hk:=eN (n:=n)
  have hlen:pre.length+1≤path.length:=by rw[←hp];simp
  rw[Fp,Bx hp,BS hp,Bm hp (by rw[Aq];omega)]
  have:=iF path hl rest (pre++[i]) k (out++[Lp n i k]) (Bh hp) ⟨x,h2⟩ (Nat.le_trans (m9 h1) hs) (by simp[ho])
  simp only[if_true,A3,A8j n k i (by omega) h1,Hs (show out.length+1≤4000000 by omega) (show 0<72 by omega) (show 72≤1000 by omega),h1,this,Cn,List.append_assoc,List.singleton_append]
theorem iG (path:List Int) (hl:path.length≤8):∀(rest pre:List Int) (n:A0) (out:List AE),pre++rest=path→(∃x,Em n rest=some x)→n.sz≤1048576→out.length=pre.length→Fo path pre.length n out=some (B8.mk emS (out++Cn n rest),true)
 | [],pre,n,out,hp,hx,hs,ho=>by rw[Fo,Cj hp];simp[Cn,emS]
 |i::rest,pre,n,out,hp,hx,hs,ho=>by
  obtain⟨x,hx⟩:=hx
  obtain⟨k,h1,h2⟩:=Option.bind_eq_some_iff.1 hx
  have hk:=eN (n:=n)
  have hlen:pre.length+1≤path.length:=by rw[←hp];simp
  rw[Fo,Bx hp,BS hp,Bm hp (by rw[Aq];omega)]
  have:=iG path hl rest (pre++[i]) k (out++[Lp n i k]) (Bh hp) ⟨x,h2⟩ (Nat.le_trans (m9 h1) hs) (by simp[ho])
  simp only[if_true,A3,h1,A5p n k i (by omega) h1,zX k.Kind (n.Kids.take (i.toNat+1)) (by simp;omega),wo,Hs (show out.length+1≤4000000 by omega) (show 0<72 by omega) (show 72≤1000 by omega),Cn]
  simp only[Lp,stK,List.append_assoc,List.singleton_append]at this ⊢
  exact this
def X5 (n:A0) (p:List Int):B8×Bool:=match Em n p with
 |some _=>if 1≤p.length∧p.length≤8 then(B8.mk emS (Cn n p),true)else(B8.mk emS [],false)
 |none=>(B8.mk emS [],false)
theorem qr (n:A0) (p:List Int) (lp:p.length≤1048576) (hs:n.sz≤1048576):Ki n p=some (X5 n p)∧Kh n p=some (X5 n p):=by
 have hin:CH (AD p) 1 8=some (decide (1≤p.length∧p.length≤8)):=by
  rw[CH]
  by_cases h1:1≤p.length
  ·by_cases h2:p.length≤8
   ·rw[PV (by simp only[AD];omega),Ss (by simp only[AD];omega)];simp[h1,h2]
   ·rw[PV (by simp only[AD];omega),Z5 (by simp only[AD];omega)];simp[h2]
  ·rw[Ut (by simp only[AD];omega)];simp[h1]
 have hin':HW (AD p) 1 8=some (decide (1≤p.length∧p.length≤8)):=by
  rw[←hin,CH,HW]
 rw[Ki,Kh,gy n p hs (by omega),Uu n p hs (by omega),X5]
 cases h:Em n p with
 |none=>exact⟨by simp only[Fk,h,A3];rfl,by simp only[Fk,h,A3];rfl⟩
 |some x=>
  by_cases hc:1≤p.length∧p.length≤8
  ·have h1:=iF p hc.2 p [] n [] rfl ⟨x,h⟩ hs rfl
   have h2:=iG p hc.2 p [] n [] rfl ⟨x,h⟩ hs rfl
   refine⟨?_, ?_⟩
   ·simp only[Fk,h,A3,if_true,hin,hc,and_self,decide_true]
    exact h1
   ·simp only[Fk,h,A3,if_true,hin',hc,and_self,decide_true]
    exact h2
  ·exact⟨by simp[Fk,h,A3,hin,hc,emS],by simp[Fk,h,A3,hin',hc,emS]⟩
theorem mh (n:A0) (p:List Int) (lp:p.length≤1048576) (hs:n.sz≤1048576):∃r:B8×Bool,Ki n p=some r∧Kh n p=some r∧r.1.sz≤16:=by
 obtain⟨h1,h2⟩:=qr n p lp hs
 refine⟨_,h1,h2, ?_⟩
 have he:B8.sz (B8.mk emS [])≤16:=by decide
 rw[X5]
 cases h:Em n p with
 |none=>exact he
 |some x=>
  by_cases hc:1≤p.length∧p.length≤8
  ·simp only[hc,and_self,if_true]
   have e1:=iE p n
   have e2:=mg p n
   have e3:emS.size=0:=rfl
   rw[B8.sz_eq]
   simp only[e3]
   omega
  ·simp only[hc,if_false]
   exact he
end TT
namespace TT
open Go
theorem zY (s:B8) (hs:s.sz≤1500000) (h8:8<s.Steps.length):N5 s=some false:=by
 have hz:=B8.sz_eq s
 obtain⟨v,v1,v2⟩:=tk s.Id (by omega)
 have key:∀rest pre:List AE,pre++rest=s.Steps→EG pre.length s=some false:=by
  intro rest
  induction rest with
  |nil=>
   intro pre hp
   rw[EG,Cj hp,v1]
   have hl:leI (AD s.Steps) 8=false:=Z5 (by simp only[AD];omega)
   simp only[bf,if_false,A3,hl,ite_self]
  |cons x rest ih=>
   intro pre hp
   have h1:=ih (pre++[x]) (Bh hp)
   obtain⟨b,b1,b2⟩:=wn x (Ag (pre.length:Int) (Cq (AD s.Steps) 1)) (by have:=Dh AE.sz (show x∈s.Steps by rw[←hp];simp);omega)
   rw[EG,Bx hp,BS hp,Bm hp (by rw[Aq];omega)]
   simp only[if_true,A3,b1,h1,ite_self]
 rw[N5];exact key s.Steps [] rfl
theorem A5q {α:Type} (sz:α→Nat) (a b:List α):szs sz (a++b)=szs sz a+szs sz b:=by simp[szs]
theorem wq (n:A0) (p:List Int) (a:A5) (lp:p.length≤1048576) (hs:n.sz≤1048576) (ha:a.sz≤1048576):∃r:B8×Bool,PH n p a=some r∧PG n p a=some r∧r.1.sz≤1100000:=by
 obtain⟨r,h1,h2,h3⟩:=mh n p lp hs
 have hz:=B8.sz_eq r.1
 have hza:=A5.sz_eq a
 have he:B8.sz (B8.mk (⟨#[]⟩) [])≤1100000:=by decide
 have hst:AE.sz (AE.mk false 6 a.Pre a.Local [])=a.Pre.size+a.Local.size:=by rw[AE.sz_eq];simp[szs]
 have hz':B8.sz (B8.mk r.1.Id (r.1.Steps++[AE.mk false 6 a.Pre a.Local []]))≤1100000:=by
  have h1:szs AE.sz [AE.mk false 6 a.Pre a.Local []]=a.Pre.size+a.Local.size:=by rw[Kx,hst];rfl
  rw[B8.sz_eq]
  simp only[A5q,h1,List.length_append,List.length_singleton]
  omega
 have hroom:=Hs (show r.1.Steps.length+1≤4000000 by omega) (show 0<72 by omega) (show 72≤1000 by omega)
 obtain⟨b,b1,b2⟩:=A2B _ (show B8.sz (B8.mk r.1.Id (r.1.Steps++[AE.mk false 6 a.Pre a.Local []]))≤1500000 by omega)
 rw[PH,PG,h1,h2]
 simp only[A3,hroom]
 cases hr:r.2 with
 |false=>exact⟨_,rfl,rfl,he⟩
 |true=>
  simp only[if_true]
  by_cases h8:r.1.Steps.length=8
  ·have hl:=zY (B8.mk r.1.Id (r.1.Steps++[AE.mk false 6 a.Pre a.Local []])) (by omega) (by simp;omega)
   rw[hl,WK (by simp only[AD];omega)]
   exact⟨_,rfl,rfl,he⟩
  ·rw[H0 (by simp only[AD];omega)]
   simp only[bf,if_false,b1,b2,A3]
   cases b
   ·exact⟨_,rfl,rfl,he⟩
   ·exact⟨_,rfl,rfl,hz'⟩
end TT
namespace TT
open Go
theorem wu (s:List AH) (hs:s.length≤maxLen):Hc s s=some true:=by
 have loop:∀rest pre:List AH,pre++rest=s→Cr s s pre.length=some true:=by
  intro rest
  induction rest with
  |nil=>intro pre h;rw[Cr,Cj h];rfl
  |cons x rest ih=>
   intro pre h
   rw[Cr,Bx h,BS h]
   simp only[if_true,A3,Z6,Ix,Bool.and_self]
   rw[Bm h hs]
   exact ih (pre++[x]) (Bh h)
 rw[Hc,lz]
 exact loop s [] rfl
theorem tl (s:B8) (hs:s.Steps.length≤maxLen) (hp:∀x∈s.Steps,x.Preds.length≤maxLen):JT s s=some true:=by
 have loop:∀rest pre:List AE,pre++rest=s.Steps→An s.Steps s.Steps pre.length=some true:=by
  intro rest
  induction rest with
  |nil=>intro pre h;rw[An,Cj h];rfl
  |cons x rest ih=>
   intro pre h
   have h1:Kn x x=some true:=by
    rw[Kn,A5G,Z6,Ix,Ix,wu _ (hp x (by rw[←h];simp))];rfl
   rw[An,Bx h,BS h]
   simp only[if_true,A3,h1]
   rw[Bm h hs]
   exact ih (pre++[x]) (Bh h)
 rw[JT,Ix,D7,lz]
 have h:An s.Steps s.Steps 0=some true:=loop s.Steps [] rfl
 rw[if_neg Bool.false_ne_true,h]
 rfl
theorem mi (s:B8) (hs:s.sz≤1100000):JT s s=some true:=by
 have hz:=B8.sz_eq s
 refine tl s (by rw[Aq];omega) fun x hx=> ?_
 have h1:=Dh AE.sz hx
 have h2:=AE.sz_eq x
 rw[Aq];omega
theorem fq (K:Int):∀l:List A0,ofQ K l=l.countP fun x=>Ag x.Kind K
 | []=>rfl
 |x::l=>by
  rw[ofQ,fq K l,List.countP_cons]
  omega
theorem ABG (K N:Int) (h:1≤K∧K≤4) (x:A0):pA (stK K N) x=Ag x.Kind K:=by
 have hc:K=1∨K=2∨K=3∨K=4:=by omega
 rcases hc with rfl|rfl|rfl|rfl<;>rfl
theorem A5r (K:Int):2≤skK K∧skK K≤5:=by
 rw[skK]
 split
 ·omega
 ·split
  ·omega
  ·split<;>omega
theorem A0C (s:AE):∀(l:List A0) (st i:Nat) (x:A0),l[i]? =some x→pA s x=true→∃k,(l.take (i+1)).countP (pA s)=k+1∧(cL s l st)[k]? =some ((st+i:Nat):Int)
 | [],st,i,x,h,hx=>by simp at h
 |y::l,st,0,x,h,hx=>by
  have e:y=x:=by simpa using h
  subst e
  exact⟨0,by rw[List.take_succ_cons,List.countP_cons,hx];rfl,by rw[cL,hx];rfl⟩
 |y::l,st,i+1,x,h,hx=>by
  obtain⟨k,k1,k2⟩:=A0C s l (st+1) i x (by simpa using h) hx
  rw[List.take_succ_cons,List.countP_cons,k1,cL]
  cases hy:pA s y with
  |true=>
   refine⟨k+1,by simp, ?_⟩
   simp only[if_true,List.getElem?_cons_succ,k2]
   congr 2;omega
  |false=>
   refine⟨k,by simp, ?_⟩
   simp only[bf,if_false,k2]
   congr 2;omega
theorem A8k (f:Ah) (n x:A0) (i:Int) (hx:getI n.Kids i=some x) (hk:1≤x.Kind∧x.Kind≤4) (hl:n.Kids.length≤1000000):BJ f n (Lp n i x)=some [i]:=by
 obtain⟨h0,h1⟩:=jl hx
 have hg:n.Kids[i.toNat]? =some x:=by
  unfold getI at hx
  rw[if_pos h0]at hx
  exact hx
 have hf:∀y,pA (Lp n i x) y=Ag y.Kind x.Kind:=fun y=>ABG _ _ hk y
 obtain⟨k,k1,k2⟩:=A0C (Lp n i x) n.Kids 0 i.toNat x hg (by rw[hf];exact Z6 _)
 have hN:ofQ x.Kind (n.Kids.take (i.toNat+1))=k+1:=by
  rw[fq,←k1]
  congr 1
  funext y
  rw[hf]
 refine A5e f n (Lp n i x) (H0 (by have:=A5r x.Kind;show skK x.Kind≠1;omega)) rfl (p:=AH.mk 1 (ofQ x.Kind (n.Kids.take (i.toNat+1)):Nat) (⟨#[]⟩) (⟨#[]⟩) (⟨#[]⟩)) rfl rfl (k:=k) (by rw[hN]) ?_ hl
 rw[k2]
 congr 1;omega
theorem A8l (t:A0) (h:Dm) (p:List Int) (n x:A0) (i:Int) (ht:t.sz≤3000) (hp:p.length≤100) (hn:Em t p=some n) (hx:getI n.Kids i=some x) (hk:1≤x.Kind∧x.Kind≤4):
  E0 (Ah.mk t h []) [p] (Lp n i x)=some [p++[i]]:=by
 have hns:=ZW p hn
 have hkl:n.Kids.length≤n.sz:=by rw[A0.sz_eq];omega
 obtain⟨r,h1,h2⟩:=A5h (Ah.mk t h []) p (Lp n i x) hn (show t.sz≤_ by omega) (by omega) (below:=[[]]) (show if false=true then _ else([[]]:List (List Int))=[[]] by simp) (fun b hb=>by rw[List.mem_singleton.1 hb];simp) (by simp) (fun _=>[i])
  (fun b hb=>by
    rw[List.mem_singleton.1 hb]
    exact⟨n,rfl,A8k _ n x i hx hk (by omega)⟩) (by simp)
 have hr:r=[p++[i]]:=by
  have:=h1.2
  simp only[List.flatMap_cons,List.flatMap_nil,List.map_cons,List.map_nil,List.append_nil]at this
  exact List.perm_singleton.1 this
 rw[h2,hr]
 exact pC [p++[i]] (by simp) (by simp) (fun q hq=>by rw[List.mem_singleton.1 hq];simp;omega)
theorem qt : ∀ (p:List Int) {n x y:A0} {k:Int},Em n p=some x→getI x.Kids k=some y→Em n (p++[k])=some y
 | [],n,x,y,k,h,hk=>by
  cases h
  show(getI _ _).bind _=_
  rw[hk];rfl
 |i::p,n,x,y,k,h,hk=>by
  obtain⟨z,h1,h2⟩:=Option.bind_eq_some_iff.1 h
  show(getI _ _).bind _=_
  rw[h1]
  exact qt p h2 hk
theorem A0D (t:A0) (h:Dm) (s:B8) (ht:t.sz≤3000) (hs:s.Steps.length≤8):∀(rest pre:List Int) (n:A0) (ss:List AE),Em t pre=some n→(∃x,Em n rest=some x)→KdT n→s.Steps=ss++Cn n rest→ss.length=pre.length→pre.length+rest.length≤8→
  EH t h [] [pre] s pre.length=some ([Am.mk (pre++rest) 0 0],true)
 | [],pre,n,ss,hn,hx,hk,he,hl,h8=>by
  have e:s.Steps.length=pre.length:=by rw[he,Cn,List.append_nil,hl]
  rw[←e,A29 t h [] s [pre] (by simp),List.append_nil]
  rfl
 |i::rest,pre,n,ss,hn,hx,hk,he,hl,h8=>by
  obtain⟨x,hx⟩:=hx
  obtain⟨y,h1,h2⟩:=Option.bind_eq_some_iff.1 hx
  have hky:=hk.kid (eM h1)
  have e:s.Steps=(ss++[Lp n i y])++Cn y rest:=by rw[he,Cn,h1,List.append_assoc];rfl
  have hg:s.Steps[pre.length]? =some (Lp n i y):=by
   rw[e,←hl]
   simp
  rw[List.length_cons]at h8
  rw[A28 t h [] s [pre] pre.length hg (A5r y.Kind) (by omega),A8l t h pre n y i ht (by omega) hn h1 hky.1.1,A3]
  have ih:=A0D t h s ht hs rest (pre++[i]) y (ss++[Lp n i y]) (qt pre hn h1) ⟨x,h2⟩ hky.2 e (by simp[hl]) (by simp;omega)
  rw[List.length_append,List.length_singleton]at ih
  rw[ih,List.append_assoc]
  rfl
theorem A2C (K N:Int) (last:Bool) (hN:1≤N∧N≤999):Kk (stK K N) last=some true:=by
 have hk:=A5r K
 have e1:Ag (skK K) 1=false:=H0 (by omega)
 have hp:GC (AH.mk 1 N JZ JZ JZ) (skK K)=some true:=by
  have j4:∀b,Gi false b (AH.mk 1 N JZ JZ JZ)=some true:=fun b=>by
   rw[Gi,HW]
   show(if true then _ else _)=_
   rw[if_pos rfl,PV hN.1,if_pos rfl,Ss hN.2]
   show some (C6 JZ JZ)=_
   rw[fo]
  rw[GC]
  show(if UV JZ JZ then _ else Gj (skK K) (UV JZ JZ) _)=_
  rw[zT,if_neg Bool.false_ne_true,Gj,e1,if_neg Bool.false_ne_true]
  exact j4 _
 have hc:As [AH.mk 1 N JZ JZ JZ] (stK K N)=some (false,stK K N):=by
  have h1:I6 (AH.mk 1 N JZ JZ JZ) (stK K N)=some (false,stK K N):=by
   rw[I6]
   show(GC _ (skK K)>>=_)=_
   rw[hp];rfl
  rw[As,CJ,AU]
  show((I6 (AH.mk 1 N JZ JZ JZ) (stK K N)>>=fun r1=>if r1.1 then some (0,r1.2)else AU [AH.mk 1 N JZ JZ JZ] (Af 0 1) r1.2)>>=_)=_
  rw[h1]
  simp only[A3,bf,if_false]
  rw[AU]
  rfl
 have j22t:CE false (false,stK K N) true false=some true:=by
  rw[CE]
  show(if C6 JZ JZ then some (C6 JZ JZ)else some false)=some true
  rw[fo];rfl
 have j10:Ed false false (false,stK K N)=some true:=by
  rw[Ed]
  show(if Ag (skK K) 1 then _ else if Ag (skK K) 2 then CE false (false,stK K N) true false else if Ag (skK K) 3 then CE false (false,stK K N) true false else CE false (false,stK K N) (Ag (skK K) 4) false)=_
  rw[e1,if_neg Bool.false_ne_true,j22t]
  cases h2:Ag (skK K) 2 with
  |true=>rfl
  |false=>
   cases h3:Ag (skK K) 3 with
   |true=>rfl
   |false=>
    simp only[bf,if_false]
    cases h4:Ag (skK K) 4 with
    |true=>exact j22t
    |false=>
     have a2:=zS h2
     have a3:=zS h3
     have a4:=zS h4
     have e5:Ag (skK K) 5=true:=WK (by omega)
     rw[CE]
     show(if Ag (skK K) 5 then if C6 JZ JZ then if C6 JZ JZ then some true else _ else some false else _)=_
     rw[e5,fo];rfl
 rw[Kk]
 show(As [AH.mk 1 N JZ JZ JZ] (stK K N)>>=_)=_
 rw[hc]
 simp only[A3,bf,if_false]
 cases last with
 |true=>exact j10
 |false=>exact j10
def ACP (l:List AE):Prop:=∀x∈l,∃K N:Int,x=stK K N∧(1≤K∧K≤4)∧1≤N∧N≤14
theorem qu (s:B8) (hi:s.Id=JZ) (h1:1≤s.Steps.length) (h8:s.Steps.length≤8) (hw:ACP s.Steps):I7 s=some true:=by
 have loop:∀rest pre:List AE,pre++rest=s.Steps→EF s pre.length=some true:=by
  intro rest
  induction rest with
  |nil=>
   intro pre h
   rw[EF,Cj h,if_neg Bool.false_ne_true,hi,A5j]
   simp only[A3,if_true]
   rw[Ss (by simp only[AD];omega),if_pos rfl,Rf (by simp only[AD];omega)];rfl
  |cons x rest ih=>
   intro pre h
   obtain⟨K,N,rfl,hK,hN⟩:=hw x (by rw[←h];simp)
   rw[EF,Bx h,BS h]
   simp only[if_true,A3]
   rw[A2C K N _ (by omega)]
   simp only[if_true,A3]
   rw[Bm h (by rw[Aq];omega)]
   exact ih (pre++[_]) (Bh h)
 rw[I7]
 exact loop s.Steps [] rfl
theorem mj {x y:ByteArray} (h:x.size+y.size≤1000000):I1 x y=some (x++y):=by unfold I1;rw[if_pos (by omega)]
theorem A8m (N:Int) (h1:1≤N) (h2:N≤14):∃r,strconv_Itoa N=some r∧1≤r.size∧r.size≤2:=by
 refine⟨ka N,by rw[strconv_Itoa,if_pos ⟨by omega,by omega⟩], ?_⟩
 have e:(ka N).size=(Lib.decDigits N.toNat).length:=by
  rw[ka,Lib.itoa,if_neg (by omega)]
  show(Lib.decDigits N.toNat).toArray.size=_
  rw[List.size_toArray]
 rw[e,Lib.decDigits]
 by_cases h:N.toNat<10
 ·rw[dif_pos h];simp
 ·rw[dif_neg h,Lib.decDigits,dif_pos (by omega)];simp
def wv (K:Int):Nat:=if K=1 then 5 else 28
theorem A2D (s:B8) (K N:Int) (out:ByteArray) (x12:Int) (hK:1≤K∧K≤4) (hN:1≤N∧N≤14) (ho:out.size≤1000):
  ∃T:ByteArray,1≤T.size∧T.size≤out.size+wv K∧DX out s x12 false (stK K N)=F8 T s (Af x12 1):=by
 obtain⟨d,d1,d2,d3⟩:=A8m N hN.1 hN.2
 have hst:∃c:ByteArray,Jo (AE.mk false (skK K) JZ JZ [AH.mk 1 N JZ JZ JZ])=some c∧1≤c.size∧c.size+4≤wv K:=by
  have hc:K=1∨K=2∨K=3∨K=4:=by omega
  rw[Jo]
  rcases hc with rfl|rfl|rfl|rfl
  ·exact⟨_,rfl,by decide,by decide⟩
  ·exact⟨_,rfl,by decide,by decide⟩
  ·exact⟨_,rfl,by decide,by decide⟩
  ·show∃c:ByteArray,(if C6 JZ JZ then some (⟨#[112,114,111,99,101,115,115,105,110,103,45,105,110,115,116,114,117,99,116,105,111,110,40,41]⟩:ByteArray)else _)=some c∧_
   rw[fo,if_pos rfl]
   exact⟨_,rfl,by decide,by decide⟩
 obtain⟨c,c1,c2,c3⟩:=hst
 have hb:wv K≤28:=by rw[wv];split<;>omega
 have z1:(⟨#[91]⟩:ByteArray).size=1:=rfl
 have z2:(⟨#[93]⟩:ByteArray).size=1:=rfl
 have hpt:Jp (AH.mk 1 N JZ JZ JZ)=some ((⟨#[91]⟩:ByteArray)++d++(⟨#[93]⟩:ByteArray)):=by
  rw[Jp]
  show(if true then strconv_Itoa N>>=_ else _)=_
  rw[if_pos rfl,d1,A3,mj (by omega),A3,mj (by rw[ByteArray.size_append];omega)]
  rfl
 have hsz:((⟨#[91]⟩:ByteArray)++d++(⟨#[93]⟩:ByteArray)).size=d.size+2:=by rw[ByteArray.size_append,ByteArray.size_append];omega
 refine⟨out++c++((⟨#[91]⟩:ByteArray)++d++(⟨#[93]⟩:ByteArray)),by rw[ByteArray.size_append,ByteArray.size_append];omega,by rw[ByteArray.size_append,ByteArray.size_append];omega, ?_⟩
 rw[DX]
 show(Jo (AE.mk false (skK K) JZ JZ [AH.mk 1 N JZ JZ JZ])>>=_)=_
 rw[c1,A3,mj (by omega),A3,Iq]
 show(Jp (AH.mk 1 N JZ JZ JZ)>>=_)=_
 rw[hpt,A3,mj (by rw[hsz,ByteArray.size_append];omega),A3,Iq]
 rfl
def zZ : List AE→Prop
 | []=>True
 |x::l=>(∃K N:Int,x=stK K N∧(1≤K∧K≤4)∧(1≤N∧N≤14)∧(l≠[]→K=1))∧zZ l
theorem zZ.way : ∀ {l:List AE},zZ l→ACP l
 | [],h=>fun x hx=>by cases hx
 |y::l,h=>fun x hx=>by
  obtain⟨⟨K,N,e,h1,h2,_⟩,h3⟩:=h
  rcases List.mem_cons.1 hx with rfl|hx
  ·exact⟨K,N,e,h1,h2⟩
  ·exact zZ.way h3 x hx
theorem qv (s:B8) (hi:s.Id=JZ) (h8:s.Steps.length≤8):∀(rest pre:List AE) (out:ByteArray),pre++rest=s.Steps→zZ rest→out.size+(if rest=[]then 0 else 6*rest.length+23)≤200→(rest≠[]∨1≤out.size)→∃r:ByteArray,F8 out s pre.length=some r∧1≤r.size
 | [],pre,out,h,hw,ho,h1=>by
  refine⟨out, ?_,h1.resolve_left fun e=>e rfl⟩
  rw[F8,Cj h,if_neg Bool.false_ne_true,WJ (by simp only[B7];simp at ho;omega)];rfl
 |x::rest,pre,out,h,hw,ho,h1=>by
  obtain⟨⟨K,N,rfl,hK,hN,hE⟩,hw'⟩:=hw
  simp only[List.cons_ne_nil,if_false,List.length_cons]at ho
  have hlen:pre.length+(rest.length+1)=s.Steps.length:=by rw[←h];simp
  have hn:=Bm h (by rw[Aq];omega)
  have fin:∀o:ByteArray,o.size≤out.size+1→∃r:ByteArray,DX o s pre.length false (stK K N)=some r∧1≤r.size:=fun o h2=>by
   obtain⟨T,t1,t2,t3⟩:=A2D s K N o pre.length hK hN (by omega)
   have hb:T.size+(if rest=[]then 0 else 6*rest.length+23)≤200:=by
    by_cases e:rest=[]
    ·have:wv K≤28:=by rw[wv];split<;>omega
     rw[if_pos e];omega
    ·have:wv K=5:=by rw[wv,if_pos (hE e)]
     rw[if_neg e];omega
   obtain⟨r,r1,r2⟩:=qv s hi h8 rest (pre++[stK K N]) T (Bh h) hw' hb (.inr t1)
   exact⟨r,by rw[t3,hn,r1],r2⟩
  have z1:(⟨#[47]⟩:ByteArray).size=1:=rfl
  rw[F8,Bx h,if_pos rfl,BS h,A3]
  show∃r:ByteArray,(if false then _ else if Pj (pre.length:Int) 0 then _ else if UV s.Id JZ then _ else _)=some r∧_
  rw[hi,zT]
  simp only[bf,if_false]
  cases hg:Pj (pre.length:Int) 0 with
  |true=>
   rw[if_pos rfl,mj (by omega),A3]
   exact fin _ (by rw[ByteArray.size_append];omega)
  |false=>
   rw[if_neg Bool.false_ne_true]
   exact fin out (by omega)
theorem A5s (s:B8) (hi:s.Id=JZ) (h1:1≤s.Steps.length) (h8:s.Steps.length≤8) (hw:zZ s.Steps):∃r:ByteArray,LU s=some r∧1≤r.size:=by
 have hne:s.Steps≠[]:=fun e=>by rw[e]at h1;simp at h1
 obtain⟨r,r1,r2⟩:=qv s hi h8 s.Steps [] JZ rfl hw (by rw[if_neg hne];show 0+_≤_;omega) (.inl hne)
 refine⟨r, ?_,r2⟩
 rw[LU,qu s hi h1 h8 hw.way,A3,if_pos rfl,hi,zT,if_neg Bool.false_ne_true,Ir]
 exact r1
theorem A0E {x:A0}:∀{l:List A0},x∈l→nds x≤Lo l
 |y::l,h=>by
  rw[Lo]
  rcases List.mem_cons.1 h with rfl|h
  ·omega
  ·have:=A0E h;omega
theorem ww : ∀ l:List A0,l.length≤Lo l
 | []=>Nat.zero_le _
 |y::l=>by
  have:=ww l
  rw[Lo,List.length_cons,mI];omega
theorem A5t : ∀ (p:List Int) (n:A0),(∃x,Em n p=some x)→KdT n→nds n≤15→zZ (Cn n p)∧(Cn n p).length=p.length
 | [],n,hx,hk,hn=>⟨trivial,rfl⟩
 |i::p,n,hx,hk,hn=>by
  obtain⟨x,hx⟩:=hx
  obtain⟨y,h1,h2⟩:=Option.bind_eq_some_iff.1 hx
  have hm:=eM h1
  have hky:=hk.kid hm
  have h3:=A0E hm
  have h4:=ww n.Kids
  have h5:=mI n
  obtain⟨w1,w2⟩:=A5t p y ⟨x,h2⟩ hky.2 (by omega)
  obtain⟨g0,g1⟩:=jl h1
  have hN1:1≤ofQ y.Kind (n.Kids.take (i.toNat+1)):=by
   rw[fq]
   refine List.countP_pos_iff.2 ⟨y, ?_,Z6 _⟩
   have hg:n.Kids[i.toNat]? =some y:=by
    unfold getI at h1
    rw[if_pos g0]at h1
    exact h1
   exact List.mem_iff_getElem?.2 ⟨i.toNat,by rw[List.getElem?_take_of_lt (by omega)];exact hg⟩
  have hN2:ofQ y.Kind (n.Kids.take (i.toNat+1))≤14:=by
   have:=A5o y.Kind (n.Kids.take (i.toNat+1))
   simp only[List.length_take]at this
   omega
  rw[Cn,h1]
  refine⟨⟨⟨y.Kind,_,rfl,hky.1.1,⟨by omega,by omega⟩,fun hne=> ?_⟩,w1⟩,by simp[w2]⟩
  by_cases e:y.Kind=1
  ·exact e
  ·have hnil:=hky.1.2 e
   cases p with
   |nil=>exact absurd rfl hne
   |cons j p=>
    obtain⟨z,z1,_⟩:=Option.bind_eq_some_iff.1 h2
    rw[hnil]at z1
    have:=eM z1
    cases this
end TT
