import Derived.Test.YtpmnlfgdicmiiaaGreatDoorTP3Copy
set_option linter.unusedVariables false
set_option linter.unusedSimpArgs false
namespace TT
open Go
def Iw : A0→List Int→Option A0
 |n,[]=>some n
 |n,i::p=>(getI n.Kids i).bind fun k=>Iw k p
theorem om {α:Type} {l:List α} {i:Int} {x:α} (h:getI l i=some x):x∈l:=by
 unfold getI at h
 split at h
 ·exact List.mem_of_getElem? h
 ·cases h
theorem zi {n k:A0} {i:Int} (h:getI n.Kids i=some k):k.sz≤n.sz:=by
 rw[A0.sz_eq n]
 have:=Dq A0.sz (om h)
 omega
theorem Zd : ∀ (p:List Int) {n x:A0},Iw n p=some x→x.sz≤n.sz
 | [],n,x,h=>by simp only[Iw,Option.some.injEq]at h;rw[h];exact Nat.le_refl _
 |i::p,n,x,h=>by
  obtain⟨k,h1,h2⟩:=Option.bind_eq_some_iff.1 h
  exact Nat.le_trans (Zd p h2) (zi h1)
theorem zj {n:A0}:n.Kids.length≤n.sz:=by
 rw[A0.sz_eq n];omega
theorem uz {α:Type} {l:List α} {i:Int} (h:l.length≤4000000):(if UV i 0 then some (U1 i (CH (AD l) 1))else some false)=some (getI l i).isSome:=by
 have e:CH (AD l) 1=(l.length:Int)-1:=DC (by simp only[AD];omega) (by simp only[AD];omega)
 rw[e]
 unfold getI
 by_cases h0:0≤i
 ·rw[RW h0,if_pos rfl,if_pos h0]
  by_cases h1:i≤(l.length:Int)-1
  ·rw[VH h1]
   have:i.toNat<l.length:=by omega
   simp[this]
  ·rw[aT h1]
   have:l[i.toNat]? =none:=List.getElem?_eq_none (by omega)
   rw[this];rfl
 ·rw[Tz h0,if_neg h0];rfl
theorem A2m {α:Type} {l:List α} {i:Int} (h:l.length≤4000000):J9 i 0 (CH (AD l) 1)=some (getI l i).isSome:=by
 rw[J9];exact uz h
def zk : A0:=A0.mk 0 (⟨#[]⟩) (⟨#[]⟩) (⟨#[]⟩) [] [] [] (⟨#[]⟩)
def Vi (n:A0) (p:List Int):A0×Bool:=match Iw n p with
 |some x=>(x,true)
 |none=>(zk,false)
theorem aU (path:List Int) (hl:path.length≤2000000):∀(rest pre:List Int) (n:A0),pre++rest=path→n.sz≤1048576→FQ path pre.length n=some (Vi n rest)
 | [],pre,n,hp,hs=>by rw[FQ,EO hp,uy n hs];rfl
 |i::rest,pre,n,hp,hs=>by
  have hk:=zj (n:=n)
  rw[FQ,DD hp,BY hp,Ck hp (by rw[B4];omega)]
  simp only[if_true,A6,A2m (show n.Kids.length≤4000000 by omega)]
  cases hg:getI n.Kids i with
  |none=>simp only[Option.isSome_none,Bool.false_eq_true,if_false,Vi,Iw,hg,Option.bind_none,zk]
  |some k=>
   have:=aU path hl rest (pre++[i]) k (Cl hp) (Nat.le_trans (zi hg) hs)
   simp only[Option.isSome_some,if_true,A6,this,Vi,Iw,hg,Option.bind_some]
theorem aV (n:A0) (path:List Int) (hs:n.sz≤1048576) (hl:path.length≤2000000):HJ n path=some (Vi n path):=by
 rw[HJ];exact aU path hl path [] n rfl hs
end TT
