import Derived.Test.YtpmnlfgdicmiiaaGreatDoorTP0
import Derived.Test.YtpmnlfgdicmiiaaGreatDoorTP1
set_option linter.unusedVariables false
set_option linter.unusedSimpArgs false
namespace TT
open Go
theorem qX : ∀ n:A0,n.sz≤1048576→HS n=some n:=by
 refine A0.ind' fun n ih hs=> ?_
 rw[A0.sz_eq]at hs
 have h:=qW (fun out i=>Lz n.Kids out i) n.Kids HS 144 (fun out i=>by rw[Lz]) (by omega) (by omega) (by omega) (fun x hx=>ih x hx (by have:=Dh A0.sz hx;omega))
 rw[HS,U5,h,Hs (by omega) (by omega) (by omega),Hs (by omega) (by omega) (by omega)]
 simp only[A3,List.nil_append,fG]
end TT
namespace TT
open Go
theorem A1i : ∀ n:A0,n.sz≤1048576→FW n=some n:=by
 refine A0.ind' fun n ih hs=> ?_
 rw[A0.sz_eq]at hs
 have h:=qW (fun out i=>Gf out n.Kids i) n.Kids FW 144 (fun out i=>by rw[Gf]) (by omega) (by omega) (by omega) (fun x hx=>ih x hx (by have:=Dh A0.sz hx;omega))
 rw[FW,HX,HY,Mh,h,Hs (by omega) (by omega) (by omega),Hs (by omega) (by omega) (by omega)]
 simp only[A3,fG]
end TT
namespace TT
open Go
def Em : A0→List Int→Option A0
 |n,[]=>some n
 |n,i::p=>(getI n.Kids i).bind fun k=>Em k p
theorem eM {α:Type} {l:List α} {i:Int} {x:α} (h:getI l i=some x):x∈l:=by
 unfold getI at h
 split at h
 ·exact List.mem_of_getElem? h
 ·cases h
theorem m9 {n k:A0} {i:Int} (h:getI n.Kids i=some k):k.sz≤n.sz:=by
 rw[A0.sz_eq n]
 have:=Dh A0.sz (eM h)
 omega
theorem ZW : ∀ (p:List Int) {n x:A0},Em n p=some x→x.sz≤n.sz
 | [],n,x,h=>by simp only[Em,oi]at h;rw[h];exact Nat.le_refl _
 |i::p,n,x,h=>by
  obtain⟨k,h1,h2⟩:=Option.bind_eq_some_iff.1 h
  exact Nat.le_trans (ZW p h2) (m9 h1)
theorem eN {n:A0}:n.Kids.length≤n.sz:=by
 rw[A0.sz_eq n];omega
theorem qY {α:Type} {l:List α} {i:Int} (h:l.length≤4000000):(if geI i 0 then some (leI i (Cq (AD l) 1))else some false)=some (getI l i).isSome:=by
 have e:Cq (AD l) 1=(l.length:Int)-1:=E7 (by simp only[AD];omega) (by simp only[AD];omega)
 rw[e]
 unfold getI
 by_cases h0:0≤i
 ·rw[PV h0,if_pos rfl,if_pos h0]
  by_cases h1:i≤(l.length:Int)-1
  ·rw[Ss h1]
   have:i.toNat<l.length:=by omega
   simp[this]
  ·rw[Z5 h1]
   have:l[i.toNat]? =none:=List.getElem?_eq_none (by omega)
   rw[this];rfl
 ·rw[Ut h0,if_neg h0];rfl
theorem A8P {α:Type} {l:List α} {i:Int} (h:l.length≤4000000):CH i 0 (Cq (AD l) 1)=some (getI l i).isSome:=by
 rw[CH];exact qY h
theorem A8Q {α:Type} {l:List α} {i:Int} (h:l.length≤4000000):HW i 0 (Cq (AD l) 1)=some (getI l i).isSome:=by
 rw[HW];exact qY h
def zA : A0:=A0.mk 0 (⟨#[]⟩) (⟨#[]⟩) (⟨#[]⟩) [] [] [] (⟨#[]⟩)
def Fk (n:A0) (p:List Int):A0×Bool:=match Em n p with
 |some x=>(x,true)
 |none=>(zA,false)
theorem gv (path:List Int) (hl:path.length≤2000000):∀(rest pre:List Int) (n:A0),pre++rest=path→n.sz≤1048576→Gh path pre.length n=some (Fk n rest)
 | [],pre,n,hp,hs=>by rw[Gh,Cj hp,qX n hs];rfl
 |i::rest,pre,n,hp,hs=>by
  have hk:=eN (n:=n)
  rw[Gh,Bx hp,BS hp,Bm hp (by rw[Aq];omega)]
  simp only[if_true,A3,A8P (show n.Kids.length≤4000000 by omega)]
  cases hg:getI n.Kids i with
  |none=>simp only[Option.isSome_none,bf,if_false,Fk,Em,hg,Option.bind_none,zA]
  |some k=>
   have:=gv path hl rest (pre++[i]) k (Bh hp) (Nat.le_trans (m9 hg) hs)
   simp only[Option.isSome_some,if_true,A3,this,Fk,Em,hg,Option.bind_some]
theorem gw (path:List Int) (hl:path.length≤2000000):∀(rest pre:List Int) (n:A0),pre++rest=path→n.sz≤1048576→Gg path pre.length n=some (Fk n rest)
 | [],pre,n,hp,hs=>by rw[Gg,Cj hp,A1i n hs];rfl
 |i::rest,pre,n,hp,hs=>by
  have hk:=eN (n:=n)
  rw[Gg,Bx hp,BS hp,Bm hp (by rw[Aq];omega)]
  simp only[if_true,A3,A8Q (show n.Kids.length≤4000000 by omega)]
  cases hg:getI n.Kids i with
  |none=>simp only[Option.isSome_none,bf,if_false,Fk,Em,hg,Option.bind_none,zA]
  |some k=>
   have:=gw path hl rest (pre++[i]) k (Bh hp) (Nat.le_trans (m9 hg) hs)
   simp only[Option.isSome_some,if_true,A3,this,Fk,Em,hg,Option.bind_some]
theorem gy (n:A0) (path:List Int) (hs:n.sz≤1048576) (hl:path.length≤2000000):NS n path=some (Fk n path):=by
 rw[NS];exact gv path hl path [] n rfl hs
theorem Uu (n:A0) (path:List Int) (hs:n.sz≤1048576) (hl:path.length≤2000000):GB n path=some (Fk n path):=by
 rw[GB];exact gw path hl path [] n rfl hs
end TT
