import Derived.Test.YtpmnlfgdicmiiaaGreatDoorTP3Copy
import Derived.Test.YtpmnlfgdicmiiaaGreatDoorTP3Cur
set_option linter.unusedVariables false
set_option linter.unusedSimpArgs false
namespace TT
open Go
def wt (l:List A0):Nat:=l.length+szs A0.sz l
theorem Mk (x:A0) (l:List A0):wt (x::l)=1+x.sz+wt l:=by rw[wt,wt,Kx,List.length_cons];omega
theorem LY : ∀ a b:List A0,wt (a++b)=wt a+wt b
 | [],b=>by rw[List.nil_append];show _=0+_;omega
 |x::a,b=>by rw[List.cons_append,Mk,Mk,LY a b];omega
theorem fi (l:List A0):l.length≤wt l:=Nat.le_add_right _ _
def Z8 (y:A0) (s:ByteArray):A0:=A0.mk y.Kind y.Pre y.Local y.Uri y.Decls y.Attrs y.Kids s
theorem te (x:A0):x.Text.size≤x.sz:=by rw[A0.sz_eq x];omega
theorem wN (y x:A0):(Z8 y (y.Text++x.Text)).sz≤y.sz+x.sz:=by
 have:=te x
 rw[A0.sz_eq (Z8 _ _),A0.sz_eq y]
 simp only[Z8,ByteArray.size_append]
 omega
def WM (out:List A0) (x:A0):List A0:=
 if x.Kind=2 then(if x.Text=⟨#[]⟩then out else match out.getLast? with
  |some y=>if y.Kind=2 then out.dropLast++[Z8 y (y.Text++x.Text)]else out++[x]
  |none=>out++[x])else out++[x]
theorem A5L (out:List A0) (x:A0):wt (WM out x)≤wt out+(1+x.sz):=by
 have h1:wt (out++[x])=wt out+(1+x.sz):=by rw[LY,Mk];rfl
 unfold WM
 split
 ·split
  ·omega
  ·rcases List.eq_nil_or_concat out with rfl|⟨o,y,rfl⟩
   ·exact Nat.le_of_eq h1
   ·rw[List.concat_eq_append]at h1 ⊢
    simp only[List.getLast?_concat,List.dropLast_concat]
    split
    ·rw[LY,LY,Mk,Mk]
     have:=wN y x
     omega
    ·exact Nat.le_of_eq h1
 ·exact Nat.le_of_eq h1
theorem A01 {o:List A0} {y:A0} (h:o.length≤4000000):Cq (AD (o++[y])) 1=(o.length:Int):=by
 rw[E7 (by simp only[AD,List.length_append,List.length_singleton];omega) (by simp only[AD,List.length_append,List.length_singleton];omega)]
 simp only[AD,List.length_append,List.length_singleton];omega
theorem A5M (o:List A0) (y z:A0):(o++[y]).set (Int.toNat (o.length:Int)) z=o++[z]:=by simp
theorem A8S {x y:ByteArray} (h:x.size+y.size≤4000000):I1 x y=some (x++y):=by unfold I1;rw[if_pos (by omega)]
theorem A5N {x y:ByteArray} (h:x≠y):C6 x y=false:=by
 cases e:C6 x y with
 |false=>rfl
 |true=>exact absurd (RC.1 e) h
section
variable (l:List A0) (hl:l.length≤4000000)
include hl
theorem j7 {pre rest out:List A0} {x:A0} (hp:pre++x::rest=l) (hw:wt out+(1+x.sz)≤1048576):DM l out pre.length=DM l (WM out x) ((pre++[x]).length:Nat):=by
 have hol:=fi out
 have hcp:=qX x (by omega)
 have hr:room (out.length+1) 144=some ():=Hs (by omega) (by omega) (by omega)
 have hx:=te x
 rw[DM,Bx hp,BS hp,Bm hp (by rw[Aq];omega)]
 simp only[if_true,A3]
 have app:Gd l out pre.length false x=DM l (out++[x]) ((pre++[x]).length:Nat):=by
  rw[Gd,hcp,hr,Bm hp (by rw[Aq];omega)];rfl
 unfold WM
 by_cases h2:x.Kind=2
 ·rw[WK h2,if_pos h2]
  simp only[if_true]
  by_cases h3:x.Text=⟨#[]⟩
  ·rw[RC.2 h3,if_pos h3];rfl
  ·rw[A5N h3,if_neg h3]
   simp only[bf,if_false]
   rcases List.eq_nil_or_concat out with rfl|⟨o,y,rfl⟩
   ·rw[WJ (by simp[AD])]
    exact app
   ·rw[List.concat_eq_append]at app hr hw hol ⊢
    rw[LY,Mk]at hw
    have hy:=te y
    have hol':o.length≤4000000:=by rw[List.length_append]at hol;have:=fi o;omega
    rw[Rf (by simp only[AD,List.length_append,List.length_singleton];omega),A01 hol']
    simp only[if_true,BS (show o++y::[]=o++[y]from rfl),A3,List.getLast?_concat,List.dropLast_concat]
    by_cases h4:y.Kind=2
    ·rw[WK h4,if_pos h4,Gd,A01 hol']
     simp only[if_true,BS (show o++y::[]=o++[y]from rfl),A3,A8S (show y.Text.size+x.Text.size≤4000000 by omega),A5M,Bm hp (show l.length≤maxLen by rw[Aq];omega)]
     rfl
    ·rw[H0 h4,if_neg h4];exact app
 ·rw[H0 h2,if_neg h2]
  simp only[bf,if_false,hcp,hr,A3]
end
def X0 (l:List A0):List A0:=l.foldl WM []
theorem i6 (l:List A0) (hl:l.length≤4000000):∀rest pre out:List A0,pre++rest=l→wt out+wt rest≤1048576→
  DM l out pre.length=some (rest.foldl WM out)∧wt (rest.foldl WM out)≤wt out+wt rest
 | [],pre,out,hp,hw=>⟨by rw[DM,Cj hp];rfl,Nat.le_add_right _ _⟩
 |x::rest,pre,out,hp,hw=>by
  rw[Mk]at hw ⊢
  have h1:=A5L out x
  rw[j7 l hl hp (by omega)]
  obtain⟨g1,g3⟩:=i6 l hl rest (pre++[x]) (WM out x) (Bh hp) (by omega)
  exact⟨g1,by rw[List.foldl_cons];omega⟩
theorem zH (l:List A0) (h:wt l≤1048576):N2 l=some (X0 l)∧wt (X0 l)≤wt l:=by
 have:=fi l
 obtain⟨g1,g3⟩:=i6 l (by omega) l [] [] rfl (by show 0+_≤_;omega)
 exact⟨by rw[N2];exact g1,by have:wt []=0:=rfl;rw[this,Nat.zero_add]at g3;exact g3⟩
mutual
def nds : A0→Nat
 |⟨_,_,_,_,_,_,kids,_⟩=>1+Lo kids
def Lo : List A0→Nat
 | []=>0
 |x::l=>nds x+Lo l
end
theorem mI (n:A0):nds n=1+Lo n.Kids:=by cases n;rfl
theorem Eh : ∀ a b:List A0,Lo (a++b)=Lo a+Lo b
 | [],b=>by rw[List.nil_append];show _=0+_;omega
 |x::a,b=>by rw[List.cons_append,Lo,Lo,Eh a b];omega
theorem Ht (x:A0):Lo [x]=nds x:=by rw[Lo];rfl
theorem A1p (out:List A0) (x:A0):Lo (WM out x)≤Lo out+nds x:=by
 have h1:Lo (out++[x])=Lo out+nds x:=by rw[Eh,Ht]
 unfold WM
 split
 ·split
  ·omega
  ·rcases List.eq_nil_or_concat out with rfl|⟨o,y,rfl⟩
   ·exact Nat.le_of_eq h1
   ·rw[List.concat_eq_append]at h1 ⊢
    simp only[List.getLast?_concat,List.dropLast_concat]
    split
    ·rw[Eh,Eh,Ht,Ht]
     have:nds (Z8 y (y.Text++x.Text))=nds y:=by rw[mI,mI y];rfl
     omega
    ·exact Nat.le_of_eq h1
 ·exact Nat.le_of_eq h1
theorem zI (l:List A0):Lo (X0 l)≤Lo l:=by
 have:∀rest out:List A0,Lo (rest.foldl WM out)≤Lo out+Lo rest:=by
  intro rest
  induction rest with
  |nil=>intro out;exact Nat.le_add_right _ _
  |cons x rest ih=>
   intro out
   have h1:=A1p out x
   have h2:=ih (WM out x)
   rw[List.foldl_cons,Lo];omega
 have h:=this l []
 show Lo (l.foldl WM [])≤_
 have e:Lo []=0:=rfl
 omega
end TT
namespace TT
open Go
structure Dok (l:List A2) (n:Nat):Prop where
 len:l.length≤n
 each:∀d∈l,d.Pre.size≤1∧d.Uri.size≤5
theorem Dok.push {l:List A2} {n:Nat} (h:Dok l n) {d:A2} (hd:d.Pre.size≤1∧d.Uri.size≤5):Dok (l++[d]) (n+1):=
 ⟨by have:=h.len;simp;omega,fun x hx=>by rcases List.mem_append.1 hx with hx|hx;exact h.each x hx;simp at hx;rw[hx];exact hd⟩
theorem Dok.le {l:List A2} {n m:Nat} (h:Dok l n) (hm:n≤m):Dok l m:=⟨Nat.le_trans h.len hm,h.each⟩
theorem Dok.sz {l:List A2} {n:Nat} (h:Dok l n):szs A2.sz l≤6*l.length:=by
 have:∀l:List A2,(∀d∈l,d.Pre.size≤1∧d.Uri.size≤5)→szs A2.sz l≤6*l.length:=by
  intro l
  induction l with
  |nil=>intro _;exact Nat.le_refl _
  |cons x l ih=>
   intro h
   have h1:=h x (List.mem_cons_self ..)
   have h2:=ih fun d hd=>h d (List.mem_cons_of_mem _ hd)
   rw[Kx,A2.sz_eq,List.length_cons];omega
 exact this l h.each
theorem Va {l:List ByteArray} {n:Nat} {x:ByteArray} (h:x∈l) (hl:∀y∈l,y.size≤n):x.size≤n:=hl x h
theorem A1q (c:A7) (h:RD c):Bz (U3 c) fun r=>r.1.size≤5∧RD r.2:=by
 rw[U3]
 exact(Iy c h _ (by decide)).bnd fun r hr=>Bz.ret ⟨Va hr.1 (by decide),hr.2⟩
theorem zJ (c:A7) (h:RD c):Bz (RT c) fun r=>(r.1.Pre.size≤1∧r.1.Uri.size≤5)∧RD r.2:=by
 rw[RT]
 refine(Iy c h _ (by decide)).bnd fun r hr=>(A1q _ hr.2).bnd fun s hs=> ?_
 have hp:r.1.size≤1:=Va hr.1 (by decide)
 exact Bz.ite (fun _=>(NG _ hs.2 _).bnd fun t ht=>Bz.ite (fun _=>Bz.ret ⟨⟨hp,Nat.zero_le _⟩,ht⟩) fun _=>Bz.ret ⟨⟨hp,hs.1⟩,ht⟩) fun _=>Bz.ret ⟨⟨hp,hs.1⟩,hs.2⟩
theorem qe {α:Type} {l:List α} (h:Ag (AD l) 0=false) (hl:l.length≤4000000):Aa (getI l (Cq (AD l) 1)):=by
 have hn:(l.length:Int)≠0:=fun e=>by rw[WK (show AD l=0 from e)]at h;cases h
 rw[E7 (by simp only[AD];omega) (by simp only[AD];omega)]
 exact(Bz.getI (by simp only[AD];omega) (by simp only[AD];omega)).ends
theorem wO : ∀ (m:Nat) (l:List A2) (c:A7) (n:Nat),n+m≤200→RD c→Dok l n→Bz (DJ l (m:Nat) c) fun r=>Dok r.1 (n+m)∧RD r.2:=by
 intro m
 induction m with
 |zero=>intro l c n hn hc hl;rw[DJ,WJ (by omega)];exact Bz.ret ⟨hl,hc⟩
 |succ m ih=>
  intro l c n hn hc hl
  have hll:=hl.len
  rw[DJ,Rf (by omega),show Cq ((m+1:Nat):Int) 1=(m:Int) by rw[E7 (by omega) (by omega)];omega]
  simp only[if_true]
  refine(zJ c hc).bnd fun r hr=> ?_
  have a:Bz (DJ (l++[r.1]) (m:Nat) r.2) fun q=>Dok q.1 (n+(m+1))∧RD q.2:=(ih _ _ (n+1) (by omega) hr.2 (hl.push hr.1)).mono fun q hq=>⟨hq.1.le (by omega),hq.2⟩
  have b:Bz (DJ l (m:Nat) r.2) fun q=>Dok q.1 (n+(m+1))∧RD q.2:=(ih _ _ n (by omega) hr.2 hl).mono fun q hq=>⟨hq.1.le (by omega),hq.2⟩
  have rm:Bz (room (l.length+1) 32) fun _=>True:=Bz.room (by omega)
  exact Bz.ite (fun _=>rm.bnd fun _ _=>a) fun h0=>(qe h0 (by omega)).tot.bnd fun _ _=>Bz.ite (fun _=>rm.bnd fun _ _=>a) fun _=>b
theorem ZX {a n:Int} (h0:0≤a) (h:a<n∨a=0) (hn:0<n):∃m:Nat,a=m∧(m:Int)<n:=⟨a.toNat,by omega,by omega⟩
theorem zK (c:A7) (h:RD c):Bz (RU c) fun r=>Dok r.1 3∧RD r.2:=by
 rw[RU]
 refine(GK c h 4).bnd fun r hr=> ?_
 obtain⟨m,e,hm⟩:=ZX hr.1 hr.2.1 (by omega)
 rw[e]
 exact(wO m [] r.2 0 (by omega) hr.2.2 ⟨Nat.le_refl _,fun d hd=>by cases hd⟩).mono fun q hq=>⟨hq.1.le (by omega),hq.2⟩
theorem A1r (c:A7) (h:RD c):Bz (U4 c) fun r=>r.1.size≤5∧RD r.2:=by
 rw[U4]
 exact(Iy c h _ (by decide)).bnd fun r hr=>Bz.ret ⟨Va hr.1 (by decide),hr.2⟩
structure wP (r3:List A2) (k:Nat):Prop where
 dok:Dok r3 k
 few:k≤100000
theorem wP.space {r3:List A2} {k:Nat} (h:wP r3 k) (p:ByteArray):Bz (C9 r3 p) fun r=>r.1.size≤5:=
 qd r3 p (by have:=h.dok.len;have:=h.few;omega) 5 fun d hd=>(h.dok.each d hd).2
def Aok (l:List A5) (n:Nat):Prop:=l.length≤n∧∀a∈l,a.sz≤20
theorem Aok.push {l:List A5} {n:Nat} (h:Aok l n) {a:A5} (ha:a.sz≤20):Aok (l++[a]) (n+1):=
 ⟨by have:=h.1;simp;omega,fun x hx=>by rcases List.mem_append.1 hx with hx|hx;exact h.2 x hx;simp at hx;rw[hx];exact ha⟩
theorem Aok.szs {l:List A5} {n:Nat} (h:Aok l n):szs A5.sz l≤20*l.length:=by
 have:∀l:List A5,(∀d∈l,d.sz≤20)→TT.szs A5.sz l≤20*l.length:=by
  intro l
  induction l with
  |nil=>intro _;exact Nat.le_refl _
  |cons x l ih=>
   intro h
   have h1:=h x (List.mem_cons_self ..)
   have h2:=ih fun d hd=>h d (List.mem_cons_of_mem _ hd)
   rw[Kx,List.length_cons];omega
 exact this l h.2
def Eok (m:Nat) (x:A0×A7×Int):Prop:=RD x.2.1∧∃k:Nat,x.2.2=(k:Int)∧k≤m∧x.1.sz+1+200*k≤200*(m+1)∧nds x.1+k≤m+1
section
variable {in1 r3:List A2} {k:Nat} (he:wP r3 k)
include he
theorem A8T (m:Nat) (hm:m≤1000) (ih:∀m',m'<m→∀(c:A7) (r3:List A2) (k:Nat),wP r3 k→k+3*(m'+1)≤100000→RD c→Bz (Ij c r3 (m':Nat)) (Eok m')) (hk:k+3*m≤100000)
  (nPre:ByteArray) (r:ByteArray×A7) (u:ByteArray) (nD:List A2) (nA:List A5) (h1:nPre.size≤1) (h2:r.1.size≤4) (h3:u.size≤5) (h4:Dok nD 3) (h5:Aok nA 2):
  ∀(i m1:Nat) (c:A7) (ks:List A0),i≤10→m1≤m→RD c→wt ks+200*m1≤200*m→Lo ks+m1≤m→Bz (ED r3 (i:Nat) c (m1:Nat) nPre r u nD nA ks) (Eok m):=by
 have fin:∀(m1:Nat) (c:A7) (ks:List A0),m1≤m→RD c→wt ks+200*m1≤200*m→Lo ks+m1≤m→Bz (N2 ks>>=fun q=>some ((A0.mk 1 nPre r.1 u nD nA q (⟨#[]⟩)),c,(m1:Int))) (Eok m):=by
  intro m1 c ks hm1 hc hw hnd
  obtain⟨g1,g2⟩:=zH ks (by omega)
  rw[g1]
  refine Bz.ret ⟨hc,m1,rfl,hm1, ?_,by have:=zI ks;show nds (A0.mk 1 nPre r.1 u nD nA (X0 ks) (⟨#[]⟩))+_≤_;rw[nds];omega⟩
  have d1:=h4.sz;have d2:=h4.len;have a1:=h5.szs;have a2:=h5.1
  have hwt:wt (X0 ks)=(X0 ks).length+szs A0.sz (X0 ks):=rfl
  rw[A0.sz_eq]
  show nPre.size+(r.1.size+(u.size+((nD.length+szs A2.sz nD)+((nA.length+szs A5.sz nA)+(((X0 ks).length+szs A0.sz (X0 ks))+0)))))+1+200*m1≤_
  omega
 intro i
 induction i with
 |zero=>
  intro m1 c ks _ hm1 hc hw hnd
  rw[ED,WJ (by omega)]
  exact fin m1 c ks hm1 hc hw hnd
 |succ i ihi=>
  intro m1 c ks hi hm1 hc hw hnd
  have hlen:=fi ks
  rw[ED,Rf (by omega)]
  simp only[if_true]
  by_cases h0:m1=0
  ·rw[WJ (by omega)]
   exact fin m1 c ks hm1 hc hw hnd
  ·rw[Rf (by omega)]
   simp only[if_true]
   have e1:Cq ((i+1:Nat):Int) 1=(i:Int):=by rw[E7 (by omega) (by omega)];omega
   have e2:Cq (m1:Int) 1=((m1-1:Nat):Int):=by rw[E7 (by omega) (by omega)];omega
   have rm:Bz (room (ks.length+1) 144) fun _=>True:=Bz.room (by omega)
   have leaf:∀(c':A7) (x:A0),RD c'→x.sz≤20∧x.Kids=[]→Bz (ED r3 (i:Nat) c' ((m1-1:Nat):Int) nPre r u nD nA (ks++[x])) (Eok m):=fun c' x hc' ⟨hx,hk0⟩=>
    ihi (m1-1) c' _ (by omega) (by omega) hc' (by rw[LY,Mk];show _+(1+x.sz+0)+_≤_;omega) (by rw[Eh,Ht,mI,hk0];show _+(1+0)+_≤_;omega)
   have j81:∀(q:Int×A7) (b:Bool),RD q.2→Bz (M2 r3 ((i+1:Nat):Int) q b (m1:Int) nPre r u nD nA ks) (Eok m):=fun q b hq=>by
    rw[M2,e1,e2]
    refine Bz.ite (fun _=>(Iy _ hq _ (by decide)).bnd fun s hs=>rm.bnd fun _ _=>leaf _ _ hs.2 ?_) fun _=>Bz.ite (fun _=>(Iy _ hq _ (by decide)).bnd fun s hs=>rm.bnd fun _ _=>leaf _ _ hs.2 ?_) fun _=>Bz.ite (fun _=>(Iy _ hq _ (by decide)).bnd fun s hs=>rm.bnd fun _ _=>leaf _ _ hs.2 ?_) fun _=> ?_
    ·refine⟨?_,rfl⟩;have:=Va (n:=5) hs.1 (by decide);rw[A0.sz_eq];show 0+(0+(0+((0+0)+((0+0)+((0+0)+s.1.size)))))≤_;omega
    ·refine⟨?_,rfl⟩;have:=Va (n:=5) hs.1 (by decide);rw[A0.sz_eq];show 0+(0+(0+((0+0)+((0+0)+((0+0)+s.1.size)))))≤_;omega
    ·refine⟨?_,rfl⟩;have:=Va (n:=5) hs.1 (by decide);rw[A0.sz_eq];show 0+(1+(0+((0+0)+((0+0)+((0+0)+s.1.size)))))≤_;omega
    ·refine(ih (m1-1) (by omega) _ r3 k he (by omega) hq).bnd fun x hx=>rm.bnd fun _ _=> ?_
     obtain⟨x1,k',x2,x3,x4,x5⟩:=hx
     rw[x2]
     exact ihi k' _ _ (by omega) (by omega) x1 (by rw[LY,Mk];show _+(1+x.1.sz+0)+_≤_;omega) (by rw[Eh,Ht];omega)
   exact(GK c hc 6).bnd fun q hq=>Bz.ite (fun _=>j81 _ _ hq.2.2) fun _=>j81 _ _ hq.2.2
theorem A8U (m:Nat) (hm:m≤1000) (ih:∀m',m'<m→∀(c:A7) (r3:List A2) (k:Nat),wP r3 k→k+3*(m'+1)≤100000→RD c→Bz (Ij c r3 (m':Nat)) (Eok m')) (hk:k+3*m≤100000)
  (nPre:ByteArray) (r:ByteArray×A7) (u:ByteArray) (nD:List A2) (h1:nPre.size≤1) (h2:r.1.size≤4) (h3:u.size≤5) (h4:Dok nD 3):
  ∀(i n:Nat) (c:A7) (nA:List A5),n+i≤2→RD c→Aok nA n→Bz (G8 r3 (i:Nat) c (m:Nat) nPre r u nD nA) (Eok m):=by
 intro i
 induction i with
 |zero=>
  intro n c nA hn hc hA
  rw[G8,WJ (by omega)]
  simp only[bf,if_false]
  refine(GK c hc 4).bnd fun q hq=> ?_
  obtain⟨i,e,hi⟩:=ZX hq.1 hq.2.1 (by omega)
  rw[e]
  exact A8T he m hm ih hk nPre r u nD nA h1 h2 h3 h4 ⟨by have:=hA.1;omega,hA.2⟩ i m _ [] (by omega) (Nat.le_refl _) hq.2.2 (by show 0+_≤_;omega) (by show 0+_≤_;omega)
 |succ i ihi=>
  intro n c nA hn hc hA
  have e1:Cq ((i+1:Nat):Int) 1=(i:Int):=by rw[E7 (by omega) (by omega)];omega
  rw[G8,Rf (by omega)]
  simp only[if_true]
  have hlA:=hA.1
  have rm:Bz (room (nA.length+1) 64) fun _=>True:=Bz.room (by omega)
  have j49:∀(q:ByteArray×A7) (a:A5),RD q.2→a.sz≤20→Bz (Jm r3 ((i+1:Nat):Int) q (m:Nat) nPre r u nD nA a) (Eok m):=fun q a hq ha=>by
   have x1:=ihi (n+1) _ _ (by omega) hq (hA.push ha)
   have x2:=ihi n _ _ (by omega) hq hA
   rw[Jm,e1]
   exact Bz.ite (fun _=>rm.bnd fun _ _=>x1) fun h0=>(qe h0 (by omega)).tot.bnd fun _ _=>(qb _ _).tot.bnd fun _ _=>Bz.ite (fun _=>rm.bnd fun _ _=>x1) fun _=>x2
  refine(Iy c hc _ (by decide)).bnd fun a ha=>(A1r _ ha.2).bnd fun v hv=>(Iy _ hv.2 _ (by decide)).bnd fun p hp=>(he.space _).bnd fun w hw=> ?_
  have s1:=Va (n:=2) ha.1 (by decide)
  have s2:=Va (n:=1) hp.1 (by decide)
  have s3:=hv.1
  refine Bz.ite (fun _=>Bz.ite (fun _=>j49 _ _ hp.2 ?_) fun _=>j49 _ _ hp.2 ?_) fun _=>j49 _ _ hp.2 ?_
  ·rw[A5.sz_eq];show p.1.size+(a.1.size+(w.1.size+v.1.size))≤_;omega
  ·rw[A5.sz_eq];show 0+(a.1.size+(0+v.1.size))≤_;omega
  ·rw[A5.sz_eq];show 0+(a.1.size+(0+v.1.size))≤_;omega
end
theorem A5O : ∀ (m:Nat),m≤1000→∀(c:A7) (r3:List A2) (k:Nat),wP r3 k→k+3*(m+1)≤100000→RD c→Bz (Ij c r3 (m:Nat)) (Eok m):=by
 intro m
 induction m using Nat.strongRecOn with
 |_ m ih=>
  intro hm c in1 k he hk hc
  have ih':∀m',m'<m→∀(c:A7) (r3:List A2) (k:Nat),wP r3 k→k+3*(m'+1)≤100000→RD c→Bz (Ij c r3 (m':Nat)) (Eok m'):=fun m' h=>ih m' h (by omega)
  rw[Ij]
  refine(Iy c hc _ (by decide)).bnd fun r hr=> ?_
  have hr4:r.1.size≤4:=Va hr.1 (by decide)
  have j4:∀(c1:A7) (nD:List A2),RD c1→Dok nD 3→Bz (PE in1 c1 (m:Nat) r nD) (Eok m):=fun c1 nD hc1 hD=>by
   have hl:=he.dok.len;have hl2:=hD.len;have hf:=he.few
   rw[PE,wL _ _ (by omega)]
   have he2:wP (in1++nD) (k+3):=⟨⟨by rw[List.length_append];omega,fun d hd=>by rcases List.mem_append.1 hd with h|h;exact he.dok.each d h;exact hD.each d h⟩,by omega⟩
   have j20:∀(u:ByteArray) (c2:A7) (p:ByteArray),RD c2→u.size≤5→p.size≤1→Bz (M1 (in1++nD) u c2 (m:Nat) p r nD) (Eok m):=fun u c2 p hc2 hu hp=>by
    rw[M1]
    refine(GK c2 hc2 3).bnd fun q hq=> ?_
    obtain⟨i,e,hi⟩:=ZX hq.1 hq.2.1 (by omega)
    rw[e]
    exact A8U he2 m hm ih' (by omega) p r u nD hp hr4 hu hD i 0 _ [] (by omega) hq.2.2 ⟨Nat.le_refl _,fun d hd=>by cases hd⟩
   have j12:∀(c2:A7) (p:ByteArray),RD c2→p.size≤1→Bz (M0 (in1++nD) c2 (m:Nat) p r nD) (Eok m):=fun c2 p hc2 hp=>by
    rw[M0]
    exact(he2.space _).bnd fun w hw=>Bz.ite (fun _=>j20 _ _ _ hc2 hw hp) fun _=>(he2.space _).bnd fun w hw=>j20 _ _ _ hc2 hw (Nat.zero_le _)
   rw[A3]
   exact(NG _ hc1 _).bnd fun q hq=>Bz.ite (fun _=>(Iy _ hq _ (by decide)).bnd fun s hs=>j12 _ _ hs.2 (Va hs.1 (by decide))) fun _=>j12 _ _ hq (Nat.zero_le _)
  exact(NG _ hr.2 _).bnd fun q hq=>Bz.ite (fun _=>(zK _ hq).bnd fun d hd=>j4 _ _ hd.2 hd.1) fun _=>j4 _ _ hq ⟨Nat.zero_le _,fun d hd=>by cases hd⟩
end TT
namespace TT
open Go
theorem A8V : (A0.mk 3 (⟨#[]⟩) (⟨#[]⟩) (⟨#[]⟩) [] [] [] (⟨#[104]⟩)).sz=1:=by rw[A0.sz_eq];rfl
theorem A8W : (A0.mk 4 (⟨#[]⟩) (⟨#[116]⟩) (⟨#[]⟩) [] [] [] (⟨#[101,110,100]⟩)).sz=4:=by rw[A0.sz_eq];rfl
theorem A02 : (A0.mk 0 (⟨#[]⟩) (⟨#[]⟩) (⟨#[]⟩) [] [] [(A0.mk 1 (⟨#[]⟩) (⟨#[97]⟩) (⟨#[]⟩) [] [] [] (⟨#[]⟩))] (⟨#[]⟩)).sz=2:=by rw[A0.sz_eq,Kx,A0.sz_eq];rfl
theorem ABA (ks:List A0):(A0.mk 0 (⟨#[]⟩) (⟨#[]⟩) (⟨#[]⟩) [] [] ks (⟨#[]⟩)).sz=wt ks:=by rw[A0.sz_eq,wt];show 0+(0+(0+((0+0)+((0+0)+((ks.length+szs A0.sz ks)+0)))))=ks.length+szs A0.sz ks;omega
theorem i7 (P:A0→Prop) (hP:∀n,n.sz≤3000→nds n≤14→Lo n.Kids≤11+n.Kids.countP (fun k=> !Ag k.Kind 1)→FV n=some true→P n) (h0:P (A0.mk 0 (⟨#[]⟩) (⟨#[]⟩) (⟨#[]⟩) [] [] [(A0.mk 1 (⟨#[]⟩) (⟨#[97]⟩) (⟨#[]⟩) [] [] [] (⟨#[]⟩))] (⟨#[]⟩))) (c:A7) (h:RD c):Bz (J4 c) fun r=>r.1.sz≤3000∧RD r.2∧P r.1:=by
 have j16:∀(q:Bool×A7) (ks:List A0),RD q.2→wt ks≤3000→Lo ks≤13→Lo ks≤11+ks.countP (fun k=> !Ag k.Kind 1)→Bz (HA q ks) fun r=>r.1.sz≤3000∧RD r.2∧P r.1:=fun q ks hq hk hn hn2=>by
  have e:=ABA ks
  rw[HA]
  obtain⟨b,eb⟩:=wM (A0.mk 0 (⟨#[]⟩) (⟨#[]⟩) (⟨#[]⟩) [] [] ks (⟨#[]⟩)) (by omega)
  rw[eb]
  exact Bz.ite (fun hb=>Bz.ret ⟨Nat.le_trans (Nat.le_of_eq e) hk,hq,hP _ (Nat.le_trans (Nat.le_of_eq e) hk) (by rw[nds];omega) hn2 (by rw[eb,hb])⟩) fun _=>Bz.ret ⟨by show A0.sz _≤_;rw[A02];omega,hq,h0⟩
 have j6:∀(q:Bool×A7) (p:Int×A7) (m:Nat) (ks:List A0),RD q.2→p.1=(m:Int)→m≤7→wt ks≤10→Lo ks≤1→Lo ks≤ks.countP (fun k=> !Ag k.Kind 1)→Bz (Ik q p ks) fun r=>r.1.sz≤3000∧RD r.2∧P r.1:=fun q p m ks hq hp hm hk hn hn2=>by
  have hl:=fi ks
  rw[Ik,hp,show Af 3 (m:Int)=((m+3:Nat):Int) by rw[Bk (by omega) (by omega)];omega]
  refine(A5O (m+3) (by omega) q.2 [] 0 ⟨⟨Nat.le_refl _,fun d hd=>by cases hd⟩,by omega⟩ (by omega) hq).bnd fun x hx=> ?_
  obtain⟨x1,k,x2,x3,x4,x5⟩:=hx
  have w1:wt (ks++[x.1])≤2300:=by rw[LY,Mk];show _+(1+x.1.sz+0)≤_;omega
  have rm1:Bz (room (ks.length+1) 144) fun _=>True:=Bz.room (by omega)
  have rm2:Bz (room ((ks++[x.1]).length+1) 144) fun _=>True:=Bz.room (by have:=fi (ks++[x.1]);omega)
  refine rm1.bnd fun _ _=>(NG _ x1 _).bnd fun s hs=>Bz.ite (fun _=>rm2.bnd fun _ _=>j16 _ _ hs ?_ (by rw[Eh,Eh,Ht,Ht,nds];show _+(1+0)≤_;omega) (by rw[Eh,Eh,Ht,Ht,nds,List.countP_append,List.countP_append];show _+(1+0)≤_+(_+_+(0+1));omega)) fun _=>j16 _ _ hs (by omega) (by rw[Eh,Ht];omega) (by rw[Eh,Ht,List.countP_append];omega)
  rw[LY,Mk,A8W]
  show _+(1+4+0)≤_
  omega
 rw[J4]
 refine(GK c h 8).bnd fun p hp=> ?_
 obtain⟨m,e,hm⟩:=ZX hp.1 hp.2.1 (by omega)
 exact(NG _ hp.2.2 _).bnd fun q hq=>Bz.ite (fun _=>(Bz.room (by omega)).bnd fun _ _=>j6 _ _ m _ hq e (by omega) (by rw[List.nil_append,Mk,A8V];show 1+1+0≤_;omega) (by rw[List.nil_append,Ht,nds];exact Nat.le_refl _) (by rw[List.nil_append,Ht,nds];exact Nat.le_refl _)) fun _=>j6 _ _ m _ hq e (by omega) (by show 0≤_;omega) (by show 0≤_;omega) (by show 0≤_;omega)
theorem wQ (P:A0→Prop) (hP:∀n,n.sz≤3000→FV n=some true→P n) (h0:P (A0.mk 0 (⟨#[]⟩) (⟨#[]⟩) (⟨#[]⟩) [] [] [(A0.mk 1 (⟨#[]⟩) (⟨#[97]⟩) (⟨#[]⟩) [] [] [] (⟨#[]⟩))] (⟨#[]⟩))) (c:A7) (h:RD c):Bz (J4 c) fun r=>r.1.sz≤3000∧RD r.2∧P r.1:=i7 P (fun n hs _ _ ht=>hP n hs ht) h0 c h
theorem zL (c:A7) (h:RD c):Bz (J4 c) fun r=>r.1.sz≤3000∧RD r.2:=(wQ (fun _=>True) (fun _ _ _=>trivial) trivial c h).mono fun r hr=>⟨hr.1,hr.2.1⟩
end TT
namespace TT
open Go
theorem i8 (c:A7) (h:RD c) (n:A0) (hn:n.sz≤100000):Bz (LL c n) fun r=>r.1.length≤n.sz+1∧RD r.2:=by
 have j6:∀(p:List Int) (c:A7),RD c→p.length≤100000→Bz (HC p c) fun r=>r.1.length≤p.length+1∧RD r.2:=fun p c hc hp=>by
  have rm:Bz (room (p.length+1) 8) fun _=>True:=Bz.room (by omega)
  rw[HC]
  exact(NG _ hc _).bnd fun s hs=>Bz.ite (fun _=>(A1j _ hs _ (by decide)).bnd fun i hi=>rm.bnd fun _ _=>Bz.ret ⟨by simp,hi.2⟩) fun _=>Bz.ret ⟨by show p.length≤_;omega,hs⟩
 have key:∀x:A0,∀(p:List Int) (c:A7),RD c→p.length+x.sz≤100000→Bz (HD p c x) fun r=>r.1.length≤p.length+x.sz+1∧RD r.2:=by
  refine A0.ind' fun x ih p c hc hp=> ?_
  have hz:=A0.sz_eq x
  have rm:Bz (room (p.length+1) 8) fun _=>True:=Bz.room (by omega)
  rw[HD]
  refine Bz.ite (fun h0=>(NG _ hc _).bnd fun s hs=>Bz.ite (fun _=>(j6 _ _ hs (by omega)).mono fun r hr=>⟨by have:=hr.1;omega,hr.2⟩) fun _=> ?_) fun _=>(j6 _ _ hc (by omega)).mono fun r hr=>⟨by have:=hr.1;omega,hr.2⟩
  have h0':=of_decide_eq_true h0
  refine(GK _ hs _).bnd fun k hk=>rm.bnd fun _ _=>(Bz.getI hk.1 (by have:=hk.2.1;simp only[AD]at this h0';omega)).bnd fun y hy=> ?_
  have hys:=Dh A0.sz hy.1
  have hyl:1≤x.Kids.length:=List.length_pos_of_mem hy.1
  exact(ih y hy.1 _ _ hk.2.2 (by simp only[List.length_append,List.length_singleton];omega)).mono fun r hr=>⟨by have:=hr.1;simp only[List.length_append,List.length_singleton]at this;omega,hr.2⟩
 rw[LL]
 exact(key n [] c h (by simpa using hn)).mono fun r hr=>⟨by have:=hr.1;simpa using this,hr.2⟩
end TT
