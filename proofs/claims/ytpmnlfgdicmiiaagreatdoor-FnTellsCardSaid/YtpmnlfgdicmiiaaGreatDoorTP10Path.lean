import Derived.Test.YtpmnlfgdicmiiaaGreatDoorTP3Copy
import Derived.Test.YtpmnlfgdicmiiaaGreatDoorTP3Same
import Derived.Test.YtpmnlfgdicmiiaaGreatDoorTP7Sort
set_option linter.unusedVariables false
set_option linter.unusedSimpArgs false
namespace TT
open Go
theorem A09 (a b:List Int) (ha:a.length≤2000000) (hl:a.length=b.length):∀(ra pa rb pb:List Int),pa++ra=a→pb++rb=b→pa.length=pb.length→CP a b pa.length=some (decide (ra=rb))
 | [],pa,rb,pb,hpa,hb,he=>by
  have:rb=[]:=by
   have h1:=congrArg List.length hb;have h2:=congrArg List.length hpa
   simp only[List.length_append,List.length_nil]at h1 h2
   exact List.eq_nil_of_length_eq_zero (by omega)
  rw[CP,Cj hpa,this];rfl
 |x::ra,pa,[],pb,hpa,hb,he=>by
  have h1:=congrArg List.length hb;have h2:=congrArg List.length hpa
  simp only[List.length_append,List.length_nil,List.length_cons]at h1 h2
  omega
 |x::ra,pa,y::rb,pb,hpa,hb,he=>by
  have ih:=A09 a b ha hl ra (pa++[x]) rb (pb++[y]) (Bh hpa) (Bh hb) (by simp[he])
  have hg:=BS hb
  rw[←he]at hg
  rw[CP,Bx hpa,BS hpa,hg,Bm hpa (by rw[Aq];omega),ih]
  simp only[if_true,A3]
  by_cases h:x=y
  ·subst h
   rw[lz]
   simp
  ·have:neI x y=true:=by rw[Z7,H0 h];rfl
   rw[this]
   simp[h]
theorem mZ (a b:List Int) (ha:a.length≤2000000):GE a b=some (decide (a=b)):=by
 by_cases hl:a.length=b.length
 ·have h2:=A09 a b ha hl a [] b [] rfl rfl rfl
  have h2':CP a b 0=_:=h2
  have e:Ag (AD a) (AD b)=true:=WK (by simp only[AD,hl])
  rw[GE,Io,h2',Z7,e]
  rfl
 ·have e:Ag (AD a) (AD b)=false:=H0 (by simp only[AD];omega)
  have hd:decide (a=b)=false:=decide_eq_false fun h=>hl (by rw[h])
  rw[GE,Io,Z7,e,hd]
  rfl
end TT
namespace TT
open Go
def pA (s:AE) (x:A0):Bool:=if Ag s.Kind 2 then Ag x.Kind 1 else if Ag s.Kind 3 then Ag x.Kind 2 else if Ag s.Kind 4 then Ag x.Kind 3 else Ag x.Kind 4
theorem A8f (f:Ah) (x:A0) (s:AE) (h1:Ag s.Kind 1=false) (hl:s.Local=⟨#[]⟩):Gn f x s=some (pA s x):=by
 rw[Gn,h1,pA,hl]
 simp only[bf,if_false]
 split
 ·rfl
 ·split
  ·rfl
  ·split
   ·rfl
   ·have e0:C6 (⟨#[]⟩) (⟨#[]⟩)=true:=RC.2 rfl
    cases Ag x.Kind 4<;>simp only[e0,if_true,bf,if_false]
def cL (s:AE):List A0→Nat→List Int
 | [],_=>[]
 |x::l,i=>if pA s x then(i:Int)::cL s l (i+1)else cL s l (i+1)
theorem wi (s:AE):∀(l:List A0) (i:Nat),(cL s l i).length=l.countP (pA s)
 | [],i=>rfl
 |x::l,i=>by
  have:=wi s l (i+1)
  rw[cL,List.countP_cons]
  split
  ·rw[List.length_cons,this]
  ·omega
theorem fl (f:Ah) (n:A0) (s:AE) (h1:Ag s.Kind 1=false) (hl:s.Local=⟨#[]⟩) (hk:n.Kids.length≤1000000):∀(rest pre:List A0) (out:List Int),pre++rest=n.Kids→out.length≤pre.length→
  C8 out n pre.length f s=Bg (out++cL s rest pre.length) s 0 f n
 | [],pre,out,hp,ho=>by rw[C8,Cj hp,cL,List.append_nil];rfl
 |x::rest,pre,out,hp,ho=>by
  have hlen:pre.length+1≤n.Kids.length:=by rw[←hp];simp
  rw[C8,Bx hp,BS hp,Bm hp (by rw[Aq];omega)]
  simp only[if_true,A3,A8f f x s h1 hl,cL]
  have e:(pre++[x]).length=pre.length+1:=by simp
  cases pA s x with
  |true=>
   have ih:=fl f n s h1 hl hk rest (pre++[x]) (out++[(pre.length:Int)]) (Bh hp) (by simp;omega)
   rw[Hs (by omega) (by omega) (by omega)]
   simp only[if_true,A3]
   rw[ih,e,List.append_assoc,List.singleton_append]
  |false=>
   have ih:=fl f n s h1 hl hk rest (pre++[x]) out (Bh hp) (by simp;omega)
   simp only[bf,if_false]
   rw[ih,e]
theorem A24 (f:Ah) (n:A0) (s:AE) (h1:Ag s.Kind 1=false) (hl:s.Local=⟨#[]⟩) (hk:n.Kids.length≤1000000):BJ f n s=Bg (cL s n.Kids 0) s 0 f n:=by
 rw[BJ]
 exact fl f n s h1 hl hk n.Kids [] [] rfl (Nat.le_refl _)
theorem A5e (f:Ah) (n:A0) (s:AE) (h1:Ag s.Kind 1=false) (hl:s.Local=⟨#[]⟩) {p:AH} (hp:s.Preds=[p]) (hpk:p.Kind=1) {k:Nat} (hpn:p.N=((k+1:Nat):Int)) {i:Int} (hi:(cL s n.Kids 0)[k]? =some i) (hk:n.Kids.length≤1000000):BJ f n s=some [i]:=by
 have hlt:k<(cL s n.Kids 0).length:=(List.getElem?_eq_some_iff.1 hi).1
 have hle:(cL s n.Kids 0).length≤1000000:=by rw[wi];exact Nat.le_trans List.countP_le_length hk
 rw[A24 f n s h1 hl hk,Bg,hp]
 have g:getI [p] 0=some p:=rfl
 have l1:H5 0 (AD [p])=true:=rfl
 have ne:neI p.Kind 1=false:=by rw[hpk];rfl
 rw[l1,g]
 simp only[if_true,A3,ne,bf,if_false]
 rw[hpn,Ss (by simp only[AD];omega)]
 have hs:slL (cL s n.Kids 0) (Cq ((k+1:Nat):Int) 1) ((k+1:Nat):Int)=some [i]:=by
  rw[show Cq ((k+1:Nat):Int) 1=(k:Int) by rw[E7 (by omega) (by omega)];omega,slL,if_pos ⟨by omega,by omega,by omega⟩]
  rw[Int.toNat_natCast,Int.toNat_natCast,show k+1-k=1 by omega]
  congr 1
  have:=List.getElem?_eq_some_iff.1 hi
  obtain⟨h2,h3⟩:=this
  rw[List.drop_eq_getElem_cons h2,List.take_succ_cons,List.take_zero,h3]
 simp only[if_true,A3,hs]
 rw[Bg,hp]
 rfl
theorem ACc (a b:List Int) (i:Int) (h:a.length+b.length≤1000000):Fh [a,b,[i]]=some (a++b++[i]):=by
 unfold Fh
 have h1:([i]:List Int).length=1:=rfl
 simp only[h1]
 rw[if_pos ⟨by omega,by omega⟩]
section
variable (f:Ah) (p:List Int) (dp:Bool) (s:AE) (n:A0) (below:List (List Int)) (hp:p.length≤10000) (hb:∀b∈below,b.length≤10000)
include hp
theorem A5f (b:List Int) (k:Int) (hbl:b.length≤10000) (ks:List Int):∀(rest pre:List Int) (out:List (List Int)),pre++rest=ks→out.length+rest.length≤1000000→ks.length≤1000000→
  Cc f out p b [p] 0 below k ks pre.length dp s (n,true)=C2 f (out++rest.map fun i=>p++b++[i]) p [p] 0 below (Af k 1) dp s (n,true)
 | [],pre,out,hq,ho,hk=>by rw[Cc,Cj hq,List.map_nil,List.append_nil];rfl
 |i::rest,pre,out,hq,ho,hk=>by
  rw[List.length_cons]at ho
  have ih:=A5f b k hbl ks rest (pre++[i]) (out++[p++b++[i]]) (Bh hq) (by simp;omega) hk
  have hlen:pre.length+1≤ks.length:=by rw[←hq];simp
  rw[Cc,Bx hq,BS hq,Bm hq (by rw[Aq];omega)]
  simp only[if_true,A3,ACc p b i (by omega)]
  rw[Hs (by omega) (by omega) (by omega)]
  simp only[A3]
  rw[ih,List.map_cons,List.append_assoc,List.singleton_append]
variable (K:A0→List Int)
include hb
theorem A5g (hs:n.sz≤1048576) (hK:∀b∈below,∃x,Em n b=some x∧BJ f x (AE.mk dp s.Kind s.Pre s.Local s.Preds)=some (K x)) (g:List Int→List Int) (hg:∀b x,b∈below→Em n b=some x→K x=g b) (hbl:below.length≤1000000):
  ∀(rest pre:List (List Int)) (out:List (List Int)),pre++rest=below→out.length+(rest.flatMap g).length≤1000000→
  C2 f out p [p] 0 below pre.length dp s (n,true)=Cs f (out++rest.flatMap fun b=>(g b).map fun i=>p++b++[i]) [p] (Af 0 1) dp s
 | [],pre,out,hq,ho=>by rw[C2,Cj hq,List.flatMap_nil,List.append_nil];rfl
 |b::rest,pre,out,hq,ho=>by
  have hm:b∈below:=by rw[←hq];simp
  obtain⟨x,h1,h2⟩:=hK b hm
  have h3:=hg b x hm h1
  rw[List.flatMap_cons,List.length_append]at ho
  have hlen:pre.length+1≤below.length:=by rw[←hq];simp
  have ih:=A5g hs hK g hg hbl rest (pre++[b]) (out++(g b).map fun i=>p++b++[i]) (Bh hq) (by rw[List.length_append,List.length_map];omega)
  have h48:=A5f f p dp s n below hp b (pre.length:Int) (hb b hm) (g b) (g b) [] out rfl (by omega) (by omega)
  have h48':Cc f out p b [p] 0 below (pre.length:Int) (g b) 0 dp s (n,true)=_:=h48
  have hn:=Bm hq (by rw[Aq];omega)
  rw[C2,Bx hq,BS hq]
  simp only[if_true,A3,Uu n b hs (by have:=hb b hm;omega),Fk,h1,h2,h3]
  rw[h48',hn,ih,List.flatMap_cons,List.append_assoc]
end
theorem A5h (f:Ah) (p:List Int) (s:AE) {n:A0} (hn:Em f.xt p=some n) (ht:f.xt.sz≤1048576) (hp:p.length≤10000) {below:List (List Int)} (hd:if s.Deep then RY n=some below else below=[[]]) (hb:∀b∈below,b.length≤10000) (hbl:below.length≤1000000)
  (g:List Int→List Int) (hK:∀b∈below,∃x,Em n b=some x∧BJ f x s=some (g b)) (ho:(below.flatMap g).length≤12):
  ∃r,Pl r (below.flatMap fun b=>(g b).map fun i=>p++b++[i])∧E0 f [p] s=B5 r:=by
 have hns:n.sz≤1048576:=Nat.le_trans (ZW p hn) ht
 have flen:∀l:List (List Int),(l.flatMap fun b=>(g b).map fun i=>p++b++[i]).length=(l.flatMap g).length:=by
  intro l
  induction l with
  |nil=>rfl
  |cons b l ih=>rw[List.flatMap_cons,List.flatMap_cons,List.length_append,List.length_append,List.length_map,ih]
 have hsm:Sml (below.flatMap fun b=>(g b).map fun i=>p++b++[i]):=fun q hq=>by
  obtain⟨b,h1,h2⟩:=List.mem_flatMap.1 hq
  obtain⟨i,_,h3⟩:=List.mem_map.1 h2
  have:=hb b h1
  rw[←h3];simp;omega
 obtain⟨r,h1,h2⟩:=ACF _ (by rw[flen];exact ho) hsm
 have hsame:cz r (below.flatMap fun b=>(g b).map fun i=>p++b++[i])=some ():=by unfold cz;rw[if_pos h2.1]
 refine⟨r,h2, ?_⟩
 have hKK:∀b∈below,∃x,Em n b=some x∧BJ f x (AE.mk s.Deep s.Kind s.Pre s.Local s.Preds)=some ((fun x=>(BJ f x s).getD []) x):=fun b hm=>by
  obtain⟨x,e1,e2⟩:=hK b hm
  exact⟨x,e1,by show BJ f x s=_;simp only[e2,Option.getD_some]⟩
 have h32:=A5g f p s.Deep s n below hp hb (fun x=>(BJ f x s).getD []) hns hKK g (fun b x hm hx=>by
  obtain⟨x',e1,e2⟩:=hK b hm
  rw[hx]at e1;cases e1
  simp only[e2,Option.getD_some]) hbl below [] [] rfl (by simp only[List.length_nil];omega)
 have h32':C2 f [] p [p] 0 below 0 s.Deep s (n,true)=_:=h32
 have fin:Cs f ([]++below.flatMap fun b=>(g b).map fun i=>p++b++[i]) [p] (Af 0 1) s.Deep s=B5 r:=by
  rw[Cs,show H5 (Af 0 1) (AD [p])=false from rfl,List.nil_append,h1]
  simp only[bf,if_false,A3,hsame]
  cases B5 r<;>rfl
 rw[E0,Cs,show H5 0 (AD [p])=true from rfl,show getI [p] 0=some p from rfl]
 simp only[if_true,A3,Uu f.xt p ht (by omega),Fk,hn]
 cases hdp:s.Deep with
 |true=>
  rw[hdp]at hd h32' fin
  simp only[if_true]at hd ⊢
  rw[hd]
  simp only[A3]
  rw[Cb,h32',fin]
 |false=>
  rw[hdp]at hd h32' fin
  simp only[bf,if_false]at hd ⊢
  rw[Cb,←hd,h32',fin]
theorem pC (r:List (List Int)) (hn:r.Nodup) (hl:r.length≤1000000) (hs:∀p∈r,p.length≤100000):B5 r=some r:=by
 have loop:∀m k:Nat,r.length-k≤m→1≤k→k≤r.length→Ak r k=some r:=by
  intro m
  induction m with
  |zero=>intro k h1 h2 h3;rw[Ak,Hr (by simp only[AD];omega)];rfl
  |succ m ih=>
   intro k h1 h2 h3
   by_cases e:k<r.length
   ·obtain⟨j,rfl⟩:∃j,k=j+1:=⟨k-1,by omega⟩
    have hne:r[j+1]≠r[j]:=fun h=>List.pairwise_iff_getElem.1 hn j (j+1) (by omega) e (by omega) h.symm
    have hsp:GE r[j+1] r[j]=some false:=by
     rw[mZ _ _ (by have:=hs _ (List.getElem_mem e);omega)]
     simp[hne]
    rw[Ak,Sq (by simp only[AD];omega),WQ e,zR (by omega),WQ (show j<r.length by omega),A8e (by omega)]
    simp only[if_true,A3,hsp,bf,if_false]
    exact ih (j+1+1) (by omega) (by omega) (by omega)
   ·rw[Ak,Hr (by simp only[AD];omega)];rfl
 rw[B5]
 by_cases e:r.length<2
 ·rw[Sq (by simp only[AD];omega)];rfl
 ·rw[Hr (by simp only[AD];omega)]
  exact loop r.length 1 (by omega) (Nat.le_refl _) (by omega)
end TT
