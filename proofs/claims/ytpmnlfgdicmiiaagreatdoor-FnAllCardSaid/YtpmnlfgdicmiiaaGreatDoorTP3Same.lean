import Derived.Test.YtpmnlfgdicmiiaaGreatDoorTP3Cur
import Derived.Test.YtpmnlfgdicmiiaaGreatDoorTP2NodeAt
set_option linter.unusedVariables false
set_option linter.unusedSimpArgs false
namespace TT
open Go
end TT
namespace TT
open Go
mutual
def plP : A0→List Int→List (List Int)
 |⟨_,_,_,_,_,_,kids,_⟩,a=>a::plL kids a 0
def plL : List A0→List Int→Nat→List (List Int)
 | [],_,_=>[]
 |x::l,a,i=>plP x (a++[(i:Int)])++plL l a (i+1)
end
mutual
def Zh : A0→List A0
 |⟨k,p,l,u,d,a,kids,t⟩=>⟨k,p,l,u,d,a,kids,t⟩::H8 kids
def H8 : List A0→List A0
 | []=>[]
 |x::l=>Zh x++H8 l
end
theorem eo (n:A0) (a:List Int):plP n a=a::plL n.Kids a 0:=by cases n;rfl
theorem OH (n:A0):Zh n=n::H8 n.Kids:=by cases n;rfl
theorem pT : ∀ l:List A0,(∀k∈l,(Zh k).length≤1+k.sz)→(H8 l).length≤l.length+szs A0.sz l
 | [],_=>Nat.le_refl _
 |x::l,h=>by
  have h1:=h x (List.mem_cons_self ..)
  have h2:=pT l fun k hk=>h k (List.mem_cons_of_mem _ hk)
  rw[H8,List.length_append,Iv,List.length_cons];omega
theorem eq : ∀ n:A0,(Zh n).length≤1+n.sz:=by
 refine A0.ind' fun n ih=> ?_
 have:=pT n.Kids ih
 rw[OH,List.length_cons,A0.sz_eq];omega
theorem A30 (p:List Int) (i:Int) (h:p.length≤3000000):Cj [p,[i]]=some (p++[i]):=by
 unfold Cj
 have h1:([i]:List Int).length=1:=rfl
 simp only[h1]
 rw[if_pos ⟨by omega,by omega⟩]
theorem sn : ∀ (l:List A0) (a:List Int) (i:Nat),(∀k∈l,∀a,(plP k a).length=(Zh k).length)→(plL l a i).length=(H8 l).length
 | [],a,i,_=>rfl
 |x::l,a,i,h=>by
  rw[plL,H8,List.length_append,List.length_append,h x (List.mem_cons_self ..),sn l a (i+1) fun k hk=>h k (List.mem_cons_of_mem _ hk)]
theorem Tf : ∀ (n:A0) (a:List Int),(plP n a).length=(Zh n).length:=by
 refine A0.ind' fun n ih a=> ?_
 rw[eo,OH,List.length_cons,List.length_cons,sn n.Kids a 0 ih]
theorem pU : ∀ n:A0,n.sz≤1048576→∀(a:List Int) (out:List (List Int)),a.length+n.sz≤2500000→out.length+1+n.sz≤3000000→GP n a out=some (out++plP n a):=by
 refine A0.ind' fun n ih hs a out ha ho=> ?_
 have hz:=A0.sz_eq n
 have loop:∀(rest pre:List A0) (out:List (List Int)),pre++rest=n.Kids→out.length+rest.length+szs A0.sz rest≤3000000→F9 a out n pre.length=some (out++plL rest a pre.length):=by
  intro rest
  induction rest with
  |nil=>intro pre out hp _;rw[F9,EO hp,plL,List.append_nil];rfl
  |cons x rest ihr=>
   intro pre out hp hb
   rw[Iv,List.length_cons]at hb
   have hx:x∈n.Kids:=by rw[←hp];simp
   have hxs:=Dq A0.sz hx
   have hl1:1≤n.Kids.length:=List.length_pos_of_mem hx
   have h1:=ih x hx (by omega) (a++[(pre.length:Int)]) out (by simp only[List.length_append,List.length_singleton];omega) (by omega)
   have hpl:=Tf x (a++[(pre.length:Int)])
   have hpr:=eq x
   have h2:=ihr (pre++[x]) (out++plP x (a++[(pre.length:Int)])) (Cl hp) (by rw[List.length_append];omega)
   rw[F9,DD hp,BY hp,Ck hp (by rw[B4];omega),A30 _ _ (by omega)]
   simp only[if_true,A6,h1,h2]
   rw[plL,List.append_assoc,List.length_append,List.length_singleton]
 have:=loop n.Kids [] (out++[a]) rfl (by simp only[List.length_append,List.length_singleton];omega)
 have e:((([]:List A0).length:Nat):Int)=0:=rfl
 rw[e]at this
 rw[GP,H4,Gj (by omega) (by omega) (by omega)]
 simp only[A6]
 rw[Gj (by omega) (by omega) (by omega)]
 simp only[A6,this,eo,List.length_nil,List.append_assoc,List.singleton_append]
theorem ji (n:A0) (hs:n.sz≤1048576):HH n=some (plP n []):=by
 rw[HH,pU n hs [] [] (by simp only[List.length_nil];omega) (by simp only[List.length_nil];omega)];rfl
def At (n:A0) (a:List Int) (q:List Int) (x:A0):Prop:=∃p,q=a++p∧Iw n p=some x
theorem A07 : ∀ (n:A0) (a:List Int) (j:Nat) (q:List Int) (x:A0),(plP n a)[j]? =some q→(Zh n)[j]? =some x→At n a q x:=by
 refine A0.ind' fun n ih a j q x hq hx=> ?_
 rw[eo]at hq
 rw[OH]at hx
 cases j with
 |zero=>
  simp only[List.getElem?_cons_zero,Option.some.injEq]at hq hx
  subst hq;subst hx
  exact⟨[],by simp,rfl⟩
 |succ j=>
  rw[List.getElem?_cons_succ]at hq hx
  have key:∀(rest pre:List A0) (j:Nat),pre++rest=n.Kids→(plL rest a pre.length)[j]? =some q→(H8 rest)[j]? =some x→At n a q x:=by
   intro rest
   induction rest with
   |nil=>intro pre j hp hq hx;simp[H8]at hx
   |cons y rest ihr=>
    intro pre j hp hq hx
    rw[plL]at hq
    rw[H8]at hx
    have hl:=Tf y (a++[(pre.length:Int)])
    by_cases hj:j<(Zh y).length
    ·rw[List.getElem?_append_left (by omega)]at hq
     rw[List.getElem?_append_left hj]at hx
     obtain⟨p,e1,e2⟩:=ih y (by rw[←hp];simp) _ j q x hq hx
     refine⟨(pre.length:Int)::p,by rw[e1];simp, ?_⟩
     show(getI n.Kids (pre.length:Int)).bind _=_
     rw[BY hp];exact e2
    ·rw[List.getElem?_append_right (by omega),hl]at hq
     rw[List.getElem?_append_right (by omega)]at hx
     exact ihr (pre++[y]) _ (Cl hp) (by rw[List.length_append,List.length_singleton];exact hq) hx
  exact key n.Kids [] j rfl hq hx
theorem sq : ∀ (n:A0) (a:List Int) (q:List Int),q∈plP n a→∃p,q=a++p:=by
 refine A0.ind' fun n ih a q hq=> ?_
 rw[eo]at hq
 rcases List.mem_cons.1 hq with hq|hq
 ·exact⟨[],by simp[hq]⟩
 ·have key:∀(l:List A0) (i:Nat),(∀k∈l,k∈n.Kids)→q∈plL l a i→∃p,q=a++p:=by
   intro l
   induction l with
   |nil=>intro i _ h;simp[plL]at h
   |cons x l ihl=>
    intro i hm h
    rw[plL]at h
    rcases List.mem_append.1 h with h|h
    ·obtain⟨p,e⟩:=ih x (hm x (List.mem_cons_self ..)) _ _ h
     exact⟨(i:Int)::p,by rw[e];simp⟩
    ·exact ihl (i+1) (fun k hk=>hm k (List.mem_cons_of_mem _ hk)) h
  exact key n.Kids 0 (fun k h=>h) hq
theorem mL : ∀ (l:List A0) (a:List Int) (i:Nat) (q:List Int),q∈plL l a i→∃(j:Nat) (p:List Int),i≤j∧q=a++((j:Int)::p)
 | [],a,i,q,h=>by simp[plL]at h
 |x::l,a,i,q,h=>by
  rw[plL]at h
  rcases List.mem_append.1 h with h|h
  ·obtain⟨p,e⟩:=sq x _ q h
   exact⟨i,p,Nat.le_refl _,by rw[e];simp⟩
  ·obtain⟨j,p,h1,h2⟩:=mL l a (i+1) q h
   exact⟨j,p,by omega,h2⟩
theorem vT : ∀ (n:A0) (a:List Int),(plP n a).Nodup:=by
 refine A0.ind' fun n ih a=> ?_
 rw[eo,List.nodup_cons]
 constructor
 ·intro h
  obtain⟨j,p,_,e⟩:=mL _ _ _ _ h
  have:=congrArg List.length e
  simp at this
 ·have key:∀(l:List A0) (i:Nat),(∀k∈l,k∈n.Kids)→(plL l a i).Nodup:=by
   intro l
   induction l with
   |nil=>intro i _;exact List.nodup_nil
   |cons x l ihl=>
    intro i hm
    rw[plL,List.nodup_append]
    refine⟨ih x (hm x (List.mem_cons_self ..)) _,ihl (i+1) fun k hk=>hm k (List.mem_cons_of_mem _ hk),fun q hq q' hq' e=> ?_⟩
    subst e
    obtain⟨p,e1⟩:=sq x _ q hq
    obtain⟨j,p',h1,e2⟩:=mL l a (i+1) q hq'
    rw[e1,List.append_assoc]at e2
    have:=List.append_cancel_left e2
    simp at this
    omega
  exact key n.Kids 0 fun k h=>h
end TT
