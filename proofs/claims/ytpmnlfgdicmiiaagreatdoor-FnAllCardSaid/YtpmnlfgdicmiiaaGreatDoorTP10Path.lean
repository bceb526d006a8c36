import Derived.Test.YtpmnlfgdicmiiaaGreatDoorTP2NodeAt
import Derived.Test.YtpmnlfgdicmiiaaGreatDoorTP3Same
import Derived.Test.YtpmnlfgdicmiiaaGreatDoorTP7Sort
set_option linter.unusedVariables false
set_option linter.unusedSimpArgs false
namespace TT
open Go
theorem sr (a b:List Int) (ha:a.length≤2000000) (hl:a.length=b.length):∀(ra pa rb pb:List Int),pa++ra=a→pb++rb=b→pa.length=pb.length→Bd a b pa.length=some (decide (ra=rb))
 | [],pa,rb,pb,hpa,hb,he=>by
  have:rb=[]:=by
   have h1:=congrArg List.length hb;have h2:=congrArg List.length hpa
   simp only[List.length_append,List.length_nil]at h1 h2
   exact List.eq_nil_of_length_eq_zero (by omega)
  rw[Bd,EO hpa,this];rfl
 |x::ra,pa,[],pb,hpa,hb,he=>by
  have h1:=congrArg List.length hb;have h2:=congrArg List.length hpa
  simp only[List.length_append,List.length_nil,List.length_cons]at h1 h2
  omega
 |x::ra,pa,y::rb,pb,hpa,hb,he=>by
  have ih:=sr a b ha hl ra (pa++[x]) rb (pb++[y]) (Cl hpa) (Cl hb) (by simp[he])
  have hg:=BY hb
  rw[←he]at hg
  rw[Bd,DD hpa,BY hpa,hg,Ck hpa (by rw[B4];omega),ih]
  simp only[if_true,A6]
  by_cases h:x=y
  ·subst h
   rw[zh]
   simp
  ·have:neI x y=true:=by rw[VJ,Og h];rfl
   rw[this]
   simp[h]
theorem jl : ∀ (p:List Int) {n x:A0},Iw n p=some x→p.length≤n.sz
 | [],n,x,h=>Nat.zero_le _
 |i::p,n,x,h=>by
  obtain⟨k,h1,h2⟩:=Option.bind_eq_some_iff.1 h
  have ih:=jl p h2
  have hm:=om h1
  have h3:=Dq A0.sz hm
  have h4:1≤n.Kids.length:=List.length_pos_of_mem hm
  rw[A0.sz_eq n,List.length_cons]
  omega
theorem s7 (a b:List Int) (ha:a.length≤2000000):GR a b=some (decide (a=b)):=by
 by_cases hl:a.length=b.length
 ·have h2:=sr a b ha hl a [] b [] rfl rfl rfl
  have h2':Bd a b 0=_:=h2
  have e:Af (AD a) (AD b)=true:=U0 (by simp only[AD,hl])
  rw[GR,H5,h2',VJ,e]
  rfl
 ·have e:Af (AD a) (AD b)=false:=Og (by simp only[AD];omega)
  have hd:decide (a=b)=false:=decide_eq_false fun h=>hl (by rw[h])
  rw[GR,H5,VJ,e,hd]
  rfl
end TT
namespace TT
open Go
def IS (s:AJ) (x:A0):Bool:=if Af s.Kind 2 then Af x.Kind 1 else if Af s.Kind 3 then Af x.Kind 2 else if Af s.Kind 4 then Af x.Kind 3 else Af x.Kind 4
theorem A32 (f:AP) (x:A0) (s:AJ) (h1:Af s.Kind 1=false) (hl:s.Local=⟨#[]⟩):FS f x s=some (IS s x):=by
 rw[FS,h1,IS,hl]
 simp only[Bool.false_eq_true,if_false]
 split
 ·rfl
 ·split
  ·rfl
  ·split
   ·rfl
   ·have e0:D5 (⟨#[]⟩) (⟨#[]⟩)=true:=TX.2 rfl
    cases Af x.Kind 4<;>simp only[e0,if_true,Bool.false_eq_true,if_false]
def Yx (s:AJ):List A0→Nat→List Int
 | [],_=>[]
 |x::l,i=>if IS s x then(i:Int)::Yx s l (i+1)else Yx s l (i+1)
theorem pV (s:AJ):∀(l:List A0) (i:Nat),(Yx s l i).length=l.countP (IS s)
 | [],i=>rfl
 |x::l,i=>by
  have:=pV s l (i+1)
  rw[Yx,List.countP_cons]
  split
  ·rw[List.length_cons,this]
  ·omega
theorem Zi (f:AP) (n:A0) (s:AJ) (h1:Af s.Kind 1=false) (hl:s.Local=⟨#[]⟩) (hk:n.Kids.length≤1000000):∀(rest pre:List A0) (out:List Int),pre++rest=n.Kids→out.length≤pre.length→
  BO out n pre.length f s=BI (out++Yx s rest pre.length) s 0 f n
 | [],pre,out,hp,ho=>by rw[BO,EO hp,Yx,List.append_nil];rfl
 |x::rest,pre,out,hp,ho=>by
  have hlen:pre.length+1≤n.Kids.length:=by rw[←hp];simp
  rw[BO,DD hp,BY hp,Ck hp (by rw[B4];omega)]
  simp only[if_true,A6,A32 f x s h1 hl,Yx]
  have e:(pre++[x]).length=pre.length+1:=by simp
  cases IS s x with
  |true=>
   have ih:=Zi f n s h1 hl hk rest (pre++[x]) (out++[(pre.length:Int)]) (Cl hp) (by simp;omega)
   rw[Gj (by omega) (by omega) (by omega)]
   simp only[if_true,A6]
   rw[ih,e,List.append_assoc,List.singleton_append]
  |false=>
   have ih:=Zi f n s h1 hl hk rest (pre++[x]) out (Cl hp) (by simp;omega)
   simp only[Bool.false_eq_true,if_false]
   rw[ih,e]
theorem vV (f:AP) (n:A0) (s:AJ) (h1:Af s.Kind 1=false) (hl:s.Local=⟨#[]⟩) (hk:n.Kids.length≤1000000):Ar f n s=BI (Yx s n.Kids 0) s 0 f n:=by
 rw[Ar]
 exact Zi f n s h1 hl hk n.Kids [] [] rfl (Nat.le_refl _)
theorem vW (f:AP) (n:A0) (s:AJ) (h1:Af s.Kind 1=false) (hl:s.Local=⟨#[]⟩) (hp:s.Preds=[]) (hk:n.Kids.length≤1000000):Ar f n s=some (Yx s n.Kids 0):=by
 rw[vV f n s h1 hl hk,BI,hp];rfl
theorem A6x (a b:List Int) (i:Int) (h:a.length+b.length≤1000000):Cj [a,b,[i]]=some (a++b++[i]):=by
 unfold Cj
 have h1:([i]:List Int).length=1:=rfl
 simp only[h1]
 rw[if_pos ⟨by omega,by omega⟩]
section
variable (f:AP) (p:List Int) (dp:Bool) (s:AJ) (n:A0) (below:List (List Int)) (hp:p.length≤10000) (hb:∀b∈below,b.length≤10000)
include hp
theorem A0A (b:List Int) (k:Int) (hbl:b.length≤10000) (ks:List Int):∀(rest pre:List Int) (out:List (List Int)),pre++rest=ks→out.length+rest.length≤1000000→ks.length≤1000000→
  Bo f out p b [p] 0 below k ks pre.length dp s (n,true)=BJ f (out++rest.map fun i=>p++b++[i]) p [p] 0 below (AV k 1) dp s (n,true)
 | [],pre,out,hq,ho,hk=>by rw[Bo,EO hq,List.map_nil,List.append_nil];rfl
 |i::rest,pre,out,hq,ho,hk=>by
  rw[List.length_cons]at ho
  have ih:=A0A b k hbl ks rest (pre++[i]) (out++[p++b++[i]]) (Cl hq) (by simp;omega) hk
  have hlen:pre.length+1≤ks.length:=by rw[←hq];simp
  rw[Bo,DD hq,BY hq,Ck hq (by rw[B4];omega)]
  simp only[if_true,A6,A6x p b i (by omega)]
  rw[Gj (by omega) (by omega) (by omega)]
  simp only[A6]
  rw[ih,List.map_cons,List.append_assoc,List.singleton_append]
variable (K:A0→List Int)
include hb
theorem A0B (hs:n.sz≤1048576) (hK:∀b∈below,∃x,Iw n b=some x∧Ar f x (AJ.mk dp s.Kind s.Pre s.Local s.Preds)=some (K x)) (g:List Int→List Int) (hg:∀b x,b∈below→Iw n b=some x→K x=g b) (hbl:below.length≤1000000):
  ∀(rest pre:List (List Int)) (out:List (List Int)),pre++rest=below→out.length+(rest.flatMap g).length≤1000000→
  BJ f out p [p] 0 below pre.length dp s (n,true)=C4 f (out++rest.flatMap fun b=>(g b).map fun i=>p++b++[i]) [p] (AV 0 1) dp s
 | [],pre,out,hq,ho=>by rw[BJ,EO hq,List.flatMap_nil,List.append_nil];rfl
 |b::rest,pre,out,hq,ho=>by
  have hm:b∈below:=by rw[←hq];simp
  obtain⟨x,h1,h2⟩:=hK b hm
  have h3:=hg b x hm h1
  rw[List.flatMap_cons,List.length_append]at ho
  have hlen:pre.length+1≤below.length:=by rw[←hq];simp
  have ih:=A0B hs hK g hg hbl rest (pre++[b]) (out++(g b).map fun i=>p++b++[i]) (Cl hq) (by rw[List.length_append,List.length_map];omega)
  have h48:=A0A f p dp s n below hp b (pre.length:Int) (hb b hm) (g b) (g b) [] out rfl (by omega) (by omega)
  have h48':Bo f out p b [p] 0 below (pre.length:Int) (g b) 0 dp s (n,true)=_:=h48
  have hn:=Ck hq (by rw[B4];omega)
  rw[BJ,DD hq,BY hq]
  simp only[if_true,A6,aV n b hs (by have:=hb b hm;omega),Vi,h1,h2,h3]
  rw[h48',hn,ih,List.flatMap_cons,List.append_assoc]
end
theorem A0C (f:AP) (p:List Int) (s:AJ) {n:A0} (hn:Iw f.xt p=some n) (ht:f.xt.sz≤1048576) (hp:p.length≤10000) {below:List (List Int)} (hd:if s.Deep then HH n=some below else below=[[]]) (hb:∀b∈below,b.length≤10000) (hbl:below.length≤1000000)
  (g:List Int→List Int) (hK:∀b∈below,∃x,Iw n b=some x∧Ar f x s=some (g b)) (ho:(below.flatMap g).length≤12):
  ∃r,Pl r (below.flatMap fun b=>(g b).map fun i=>p++b++[i])∧E0 f [p] s=AR r:=by
 have hns:n.sz≤1048576:=Nat.le_trans (Zd p hn) ht
 have flen:∀l:List (List Int),(l.flatMap fun b=>(g b).map fun i=>p++b++[i]).length=(l.flatMap g).length:=by
  intro l
  induction l with
  |nil=>rfl
  |cons b l ih=>rw[List.flatMap_cons,List.flatMap_cons,List.length_append,List.length_append,List.length_map,ih]
 have hsm:Sml (below.flatMap fun b=>(g b).map fun i=>p++b++[i]):=fun q hq=>by
  obtain⟨b,h1,h2⟩:=List.mem_flatMap.1 hq
  obtain⟨i,_,h3⟩:=List.mem_map.1 h2
  have:=hb b h1
  rw[←h3];simp;omega
 obtain⟨r,h1,h2⟩:=A6b _ (by rw[flen];exact ho) hsm
 have hsame:Y2 r (below.flatMap fun b=>(g b).map fun i=>p++b++[i])=some ():=by unfold Y2;rw[if_pos h2.1]
 refine⟨r,h2, ?_⟩
 have hKK:∀b∈below,∃x,Iw n b=some x∧Ar f x (AJ.mk s.Deep s.Kind s.Pre s.Local s.Preds)=some ((fun x=>(Ar f x s).getD []) x):=fun b hm=>by
  obtain⟨x,e1,e2⟩:=hK b hm
  exact⟨x,e1,by show Ar f x s=_;simp only[e2,Option.getD_some]⟩
 have h32:=A0B f p s.Deep s n below hp hb (fun x=>(Ar f x s).getD []) hns hKK g (fun b x hm hx=>by
  obtain⟨x',e1,e2⟩:=hK b hm
  rw[hx]at e1;cases e1
  simp only[e2,Option.getD_some]) hbl below [] [] rfl (by simp only[List.length_nil];omega)
 have h32':BJ f [] p [p] 0 below 0 s.Deep s (n,true)=_:=h32
 have fin:C4 f ([]++below.flatMap fun b=>(g b).map fun i=>p++b++[i]) [p] (AV 0 1) s.Deep s=AR r:=by
  rw[C4,show HC (AV 0 1) (AD [p])=false from rfl,List.nil_append,h1]
  simp only[Bool.false_eq_true,if_false,A6,hsame]
  cases AR r<;>rfl
 rw[E0,C4,show HC 0 (AD [p])=true from rfl,show getI [p] 0=some p from rfl]
 simp only[if_true,A6,aV f.xt p ht (by omega),Vi,hn]
 cases hdp:s.Deep with
 |true=>
  rw[hdp]at hd h32' fin
  simp only[if_true]at hd ⊢
  rw[hd]
  simp only[A6]
  rw[Bn,h32',fin]
 |false=>
  rw[hdp]at hd h32' fin
  simp only[Bool.false_eq_true,if_false]at hd ⊢
  rw[Bn,←hd,h32',fin]
theorem i8 (r:List (List Int)) (hn:r.Nodup) (hl:r.length≤1000000) (hs:∀p∈r,p.length≤100000):AR r=some r:=by
 have loop:∀m k:Nat,r.length-k≤m→1≤k→k≤r.length→AO r k=some r:=by
  intro m
  induction m with
  |zero=>intro k h1 h2 h3;rw[AO,GE (by simp only[AD];omega)];rfl
  |succ m ih=>
   intro k h1 h2 h3
   by_cases e:k<r.length
   ·obtain⟨j,rfl⟩:∃j,k=j+1:=⟨k-1,by omega⟩
    have hne:r[j+1]≠r[j]:=fun h=>List.pairwise_iff_getElem.1 hn j (j+1) (by omega) e (by omega) h.symm
    have hsp:GR r[j+1] r[j]=some false:=by
     rw[s7 _ _ (by have:=hs _ (List.getElem_mem e);omega)]
     simp[hne]
    rw[AO,R5 (by simp only[AD];omega),Sy e,rz (by omega),Sy (show j<r.length by omega),A31 (by omega)]
    simp only[if_true,A6,hsp,Bool.false_eq_true,if_false]
    exact ih (j+1+1) (by omega) (by omega) (by omega)
   ·rw[AO,GE (by simp only[AD];omega)];rfl
 rw[AR]
 by_cases e:r.length<2
 ·rw[R5 (by simp only[AD];omega)];rfl
 ·rw[GE (by simp only[AD];omega)]
  exact loop r.length 1 (by omega) (Nat.le_refl _) (by omega)
end TT
