import Derived.Test.YtpmnlfgdicmiiaaGreatDoorTP3Copy
import Derived.Test.YtpmnlfgdicmiiaaGreatDoorTP3Cur
set_option linter.unusedVariables false
set_option linter.unusedSimpArgs false
namespace TT
open Go
def wt (l:List A0):Nat:=l.length+szs A0.sz l
theorem KN (x:A0) (l:List A0):wt (x::l)=1+x.sz+wt l:=by rw[wt,wt,Iv,List.length_cons];omega
theorem JJ : ∀ a b:List A0,wt (a++b)=wt a+wt b
 | [],b=>by rw[List.nil_append];show _=0+_;omega
 |x::a,b=>by rw[List.cons_append,KN,KN,JJ a b];omega
theorem Ze (l:List A0):l.length≤wt l:=Nat.le_add_right _ _
def VK (y:A0) (s:ByteArray):A0:=A0.mk y.Kind y.Pre y.Local y.Uri y.Decls y.Attrs y.Kids s
theorem mG (x:A0):x.Text.size≤x.sz:=by rw[A0.sz_eq x];omega
theorem pA (y x:A0):(VK y (y.Text++x.Text)).sz≤y.sz+x.sz:=by
 have:=mG x
 rw[A0.sz_eq (VK _ _),A0.sz_eq y]
 simp only[VK,ByteArray.size_append]
 omega
def Su (out:List A0) (x:A0):List A0:=
 if x.Kind=2 then(if x.Text=⟨#[]⟩then out else match out.getLast? with
  |some y=>if y.Kind=2 then out.dropLast++[VK y (y.Text++x.Text)]else out++[x]
  |none=>out++[x])else out++[x]
theorem zo (out:List A0) (x:A0):wt (Su out x)≤wt out+(1+x.sz):=by
 have h1:wt (out++[x])=wt out+(1+x.sz):=by rw[JJ,KN];rfl
 unfold Su
 split
 ·split
  ·omega
  ·rcases List.eq_nil_or_concat out with rfl|⟨o,y,rfl⟩
   ·exact Nat.le_of_eq h1
   ·rw[List.concat_eq_append]at h1 ⊢
    simp only[List.getLast?_concat,List.dropLast_concat]
    split
    ·rw[JJ,JJ,KN,KN]
     have:=pA y x
     omega
    ·exact Nat.le_of_eq h1
 ·exact Nat.le_of_eq h1
theorem sa {o:List A0} {y:A0} (h:o.length≤4000000):CH (AD (o++[y])) 1=(o.length:Int):=by
 rw[DC (by simp only[AD,List.length_append,List.length_singleton];omega) (by simp only[AD,List.length_append,List.length_singleton];omega)]
 simp only[AD,List.length_append,List.length_singleton];omega
theorem zp (o:List A0) (y z:A0):(o++[y]).set (Int.toNat (o.length:Int)) z=o++[z]:=by simp
theorem A2o {x y:ByteArray} (h:x.size+y.size≤4000000):nT x y=some (x++y):=by unfold nT;rw[if_pos (by omega)]
theorem A6X {x y:ByteArray} (h:x≠y):D5 x y=false:=by
 cases e:D5 x y with
 |false=>rfl
 |true=>exact absurd (TX.1 e) h
section
variable (l:List A0) (hl:l.length≤4000000)
include hl
theorem bL {pre rest out:List A0} {x:A0} (hp:pre++x::rest=l) (hw:wt out+(1+x.sz)≤1048576):CQ l out pre.length=CQ l (Su out x) ((pre++[x]).length:Nat):=by
 have hol:=Ze out
 have hcp:=uw x (by omega)
 have hr:room (out.length+1) 144=some ():=Gj (by omega) (by omega) (by omega)
 have hx:=mG x
 rw[CQ,DD hp,BY hp,Ck hp (by rw[B4];omega)]
 simp only[if_true,A6]
 have app:FM l out pre.length false x=CQ l (out++[x]) ((pre++[x]).length:Nat):=by
  rw[FM,hcp,hr,Ck hp (by rw[B4];omega)];rfl
 unfold Su
 by_cases h2:x.Kind=2
 ·rw[U0 h2,if_pos h2]
  simp only[if_true]
  by_cases h3:x.Text=⟨#[]⟩
  ·rw[TX.2 h3,if_pos h3];rfl
  ·rw[A6X h3,if_neg h3]
   simp only[Bool.false_eq_true,if_false]
   rcases List.eq_nil_or_concat out with rfl|⟨o,y,rfl⟩
   ·rw[VI (by simp[AD])]
    exact app
   ·rw[List.concat_eq_append]at app hr hw hol ⊢
    rw[JJ,KN]at hw
    have hy:=mG y
    have hol':o.length≤4000000:=by rw[List.length_append]at hol;have:=Ze o;omega
    rw[RX (by simp only[AD,List.length_append,List.length_singleton];omega),sa hol']
    simp only[if_true,BY (show o++y::[]=o++[y]from rfl),A6,List.getLast?_concat,List.dropLast_concat]
    by_cases h4:y.Kind=2
    ·rw[U0 h4,if_pos h4,FM,sa hol']
     simp only[if_true,BY (show o++y::[]=o++[y]from rfl),A6,A2o (show y.Text.size+x.Text.size≤4000000 by omega),zp,Ck hp (show l.length≤maxLen by rw[B4];omega)]
     rfl
    ·rw[Og h4,if_neg h4];exact app
 ·rw[Og h2,if_neg h2]
  simp only[Bool.false_eq_true,if_false,hcp,hr,A6]
end
def Tc (l:List A0):List A0:=l.foldl Su []
theorem aZ (l:List A0) (hl:l.length≤4000000):∀rest pre out:List A0,pre++rest=l→wt out+wt rest≤1048576→
  CQ l out pre.length=some (rest.foldl Su out)∧wt (rest.foldl Su out)≤wt out+wt rest
 | [],pre,out,hp,hw=>⟨by rw[CQ,EO hp];rfl,Nat.le_add_right _ _⟩
 |x::rest,pre,out,hp,hw=>by
  rw[KN]at hw ⊢
  have h1:=zo out x
  rw[bL l hl hp (by omega)]
  obtain⟨g1,g3⟩:=aZ l hl rest (pre++[x]) (Su out x) (Cl hp) (by omega)
  exact⟨g1,by rw[List.foldl_cons];omega⟩
theorem rj (l:List A0) (h:wt l≤1048576):KZ l=some (Tc l)∧wt (Tc l)≤wt l:=by
 have:=Ze l
 obtain⟨g1,g3⟩:=aZ l (by omega) l [] [] rfl (by show 0+_≤_;omega)
 exact⟨by rw[KZ];exact g1,by have:wt []=0:=rfl;rw[this,Nat.zero_add]at g3;exact g3⟩
mutual
def nds : A0→Nat
 |⟨_,_,_,_,_,_,kids,_⟩=>1+IA kids
def IA : List A0→Nat
 | []=>0
 |x::l=>nds x+IA l
end
theorem Xa (n:A0):nds n=1+IA n.Kids:=by cases n;rfl
theorem Dk : ∀ a b:List A0,IA (a++b)=IA a+IA b
 | [],b=>by rw[List.nil_append];show _=0+_;omega
 |x::a,b=>by rw[List.cons_append,IA,IA,Dk a b];omega
theorem FW (x:A0):IA [x]=nds x:=by rw[IA];rfl
theorem vF (out:List A0) (x:A0):IA (Su out x)≤IA out+nds x:=by
 have h1:IA (out++[x])=IA out+nds x:=by rw[Dk,FW]
 unfold Su
 split
 ·split
  ·omega
  ·rcases List.eq_nil_or_concat out with rfl|⟨o,y,rfl⟩
   ·exact Nat.le_of_eq h1
   ·rw[List.concat_eq_append]at h1 ⊢
    simp only[List.getLast?_concat,List.dropLast_concat]
    split
    ·rw[Dk,Dk,FW,FW]
     have:nds (VK y (y.Text++x.Text))=nds y:=by rw[Xa,Xa y];rfl
     omega
    ·exact Nat.le_of_eq h1
 ·exact Nat.le_of_eq h1
theorem rl (l:List A0):IA (Tc l)≤IA l:=by
 have:∀rest out:List A0,IA (rest.foldl Su out)≤IA out+IA rest:=by
  intro rest
  induction rest with
  |nil=>intro out;exact Nat.le_add_right _ _
  |cons x rest ih=>
   intro out
   have h1:=vF out x
   have h2:=ih (Su out x)
   rw[List.foldl_cons,IA];omega
 have h:=this l []
 show IA (l.foldl Su [])≤_
 have e:IA []=0:=rfl
 omega
end TT
namespace TT
open Go
structure Dok (l:List A1) (n:Nat):Prop where
 len:l.length≤n
 each:∀d∈l,d.Pre.size≤1∧d.Uri.size≤5
theorem Dok.push {l:List A1} {n:Nat} (h:Dok l n) {d:A1} (hd:d.Pre.size≤1∧d.Uri.size≤5):Dok (l++[d]) (n+1):=
 ⟨by have:=h.len;simp;omega,fun x hx=>by rcases List.mem_append.1 hx with hx|hx;exact h.each x hx;simp at hx;rw[hx];exact hd⟩
theorem Dok.le {l:List A1} {n m:Nat} (h:Dok l n) (hm:n≤m):Dok l m:=⟨Nat.le_trans h.len hm,h.each⟩
theorem Dok.sz {l:List A1} {n:Nat} (h:Dok l n):szs A1.sz l≤6*l.length:=by
 have:∀l:List A1,(∀d∈l,d.Pre.size≤1∧d.Uri.size≤5)→szs A1.sz l≤6*l.length:=by
  intro l
  induction l with
  |nil=>intro _;exact Nat.le_refl _
  |cons x l ih=>
   intro h
   have h1:=h x (List.mem_cons_self ..)
   have h2:=ih fun d hd=>h d (List.mem_cons_of_mem _ hd)
   rw[Iv,A1.sz_eq,List.length_cons];omega
 exact this l h.each
theorem SB {l:List ByteArray} {n:Nat} {x:ByteArray} (h:x∈l) (hl:∀y∈l,y.size≤n):x.size≤n:=hl x h
theorem vG (c:A5) (h:SI c):Bu (Qi c) fun r=>r.1.size≤5∧SI r.2:=by
 rw[Qi]
 exact(I3 c h _ (by decide)).bnd fun r hr=>Bu.ret ⟨SB hr.1 (by decide),hr.2⟩
theorem rn (c:A5) (h:SI c):Bu (OU c) fun r=>(r.1.Pre.size≤1∧r.1.Uri.size≤5)∧SI r.2:=by
 rw[OU]
 refine(I3 c h _ (by decide)).bnd fun r hr=>(vG _ hr.2).bnd fun s hs=> ?_
 have hp:r.1.size≤1:=SB hr.1 (by decide)
 exact Bu.ite (fun _=>(R6 _ hs.2 _).bnd fun t ht=>Bu.ite (fun _=>Bu.ret ⟨⟨hp,Nat.zero_le _⟩,ht⟩) fun _=>Bu.ret ⟨⟨hp,hs.1⟩,ht⟩) fun _=>Bu.ret ⟨⟨hp,hs.1⟩,hs.2⟩
theorem jZ {α:Type} {l:List α} (h:Af (AD l) 0=false) (hl:l.length≤4000000):AK (getI l (CH (AD l) 1)):=by
 have hn:(l.length:Int)≠0:=fun e=>by rw[U0 (show AD l=0 from e)]at h;cases h
 rw[DC (by simp only[AD];omega) (by simp only[AD];omega)]
 exact(Bu.getI (by simp only[AD];omega) (by simp only[AD];omega)).ends
theorem pC : ∀ (m:Nat) (l:List A1) (c:A5) (n:Nat),n+m≤200→SI c→Dok l n→Bu (CO l (m:Nat) c) fun r=>Dok r.1 (n+m)∧SI r.2:=by
 intro m
 induction m with
 |zero=>intro l c n hn hc hl;rw[CO,VI (by omega)];exact Bu.ret ⟨hl,hc⟩
 |succ m ih=>
  intro l c n hn hc hl
  have hll:=hl.len
  rw[CO,RX (by omega),show CH ((m+1:Nat):Int) 1=(m:Int) by rw[DC (by omega) (by omega)];omega]
  simp only[if_true]
  refine(rn c hc).bnd fun r hr=> ?_
  have a:Bu (CO (l++[r.1]) (m:Nat) r.2) fun q=>Dok q.1 (n+(m+1))∧SI q.2:=(ih _ _ (n+1) (by omega) hr.2 (hl.push hr.1)).mono fun q hq=>⟨hq.1.le (by omega),hq.2⟩
  have b:Bu (CO l (m:Nat) r.2) fun q=>Dok q.1 (n+(m+1))∧SI q.2:=(ih _ _ n (by omega) hr.2 hl).mono fun q hq=>⟨hq.1.le (by omega),hq.2⟩
  have rm:Bu (room (l.length+1) 32) fun _=>True:=Bu.room (by omega)
  exact Bu.ite (fun _=>rm.bnd fun _ _=>a) fun h0=>(jZ h0 (by omega)).tot.bnd fun _ _=>Bu.ite (fun _=>rm.bnd fun _ _=>a) fun _=>b
theorem Vj {a n:Int} (h0:0≤a) (h:a<n∨a=0) (hn:0<n):∃m:Nat,a=m∧(m:Int)<n:=⟨a.toNat,by omega,by omega⟩
theorem ro (c:A5) (h:SI c):Bu (OV c) fun r=>Dok r.1 3∧SI r.2:=by
 rw[OV]
 refine(Ix c h 4).bnd fun r hr=> ?_
 obtain⟨m,e,hm⟩:=Vj hr.1 hr.2.1 (by omega)
 rw[e]
 exact(pC m [] r.2 0 (by omega) hr.2.2 ⟨Nat.le_refl _,fun d hd=>by cases hd⟩).mono fun q hq=>⟨hq.1.le (by omega),hq.2⟩
theorem vH (c:A5) (h:SI c):Bu (Qj c) fun r=>r.1.size≤5∧SI r.2:=by
 rw[Qj]
 exact(I3 c h _ (by decide)).bnd fun r hr=>Bu.ret ⟨SB hr.1 (by decide),hr.2⟩
structure pD (r3:List A1) (k:Nat):Prop where
 dok:Dok r3 k
 few:k≤100000
theorem pD.space {r3:List A1} {k:Nat} (h:pD r3 k) (p:ByteArray):Bu (BP r3 p) fun r=>r.1.size≤5:=
 jY r3 p (by have:=h.dok.len;have:=h.few;omega) 5 fun d hd=>(h.dok.each d hd).2
def Aok (l:List A3) (n:Nat):Prop:=l.length≤n∧∀a∈l,a.sz≤20
theorem Aok.push {l:List A3} {n:Nat} (h:Aok l n) {a:A3} (ha:a.sz≤20):Aok (l++[a]) (n+1):=
 ⟨by have:=h.1;simp;omega,fun x hx=>by rcases List.mem_append.1 hx with hx|hx;exact h.2 x hx;simp at hx;rw[hx];exact ha⟩
theorem Aok.szs {l:List A3} {n:Nat} (h:Aok l n):szs A3.sz l≤20*l.length:=by
 have:∀l:List A3,(∀d∈l,d.sz≤20)→TT.szs A3.sz l≤20*l.length:=by
  intro l
  induction l with
  |nil=>intro _;exact Nat.le_refl _
  |cons x l ih=>
   intro h
   have h1:=h x (List.mem_cons_self ..)
   have h2:=ih fun d hd=>h d (List.mem_cons_of_mem _ hd)
   rw[Iv,List.length_cons];omega
 exact this l h.2
def Eok (m:Nat) (x:A0×A5×Int):Prop:=SI x.2.1∧∃k:Nat,x.2.2=(k:Int)∧k≤m∧x.1.sz+1+200*k≤200*(m+1)∧nds x.1+k≤m+1
section
variable {in1 r3:List A1} {k:Nat} (he:pD r3 k)
include he
theorem A2p (m:Nat) (hm:m≤1000) (ih:∀m',m'<m→∀(c:A5) (r3:List A1) (k:Nat),pD r3 k→k+3*(m'+1)≤100000→SI c→Bu (H0 c r3 (m':Nat)) (Eok m')) (hk:k+3*m≤100000)
  (nPre:ByteArray) (r:ByteArray×A5) (u:ByteArray) (nD:List A1) (nA:List A3) (h1:nPre.size≤1) (h2:r.1.size≤4) (h3:u.size≤5) (h4:Dok nD 3) (h5:Aok nA 2):
  ∀(i m1:Nat) (c:A5) (ks:List A0),i≤10→m1≤m→SI c→wt ks+200*m1≤200*m→IA ks+m1≤m→Bu (DI r3 (i:Nat) c (m1:Nat) nPre r u nD nA ks) (Eok m):=by
 have fin:∀(m1:Nat) (c:A5) (ks:List A0),m1≤m→SI c→wt ks+200*m1≤200*m→IA ks+m1≤m→Bu (KZ ks>>=fun q=>some ((A0.mk 1 nPre r.1 u nD nA q (⟨#[]⟩)),c,(m1:Int))) (Eok m):=by
  intro m1 c ks hm1 hc hw hnd
  obtain⟨g1,g2⟩:=rj ks (by omega)
  rw[g1]
  refine Bu.ret ⟨hc,m1,rfl,hm1, ?_,by have:=rl ks;show nds (A0.mk 1 nPre r.1 u nD nA (Tc ks) (⟨#[]⟩))+_≤_;rw[nds];omega⟩
  have d1:=h4.sz;have d2:=h4.len;have a1:=h5.szs;have a2:=h5.1
  have hwt:wt (Tc ks)=(Tc ks).length+szs A0.sz (Tc ks):=rfl
  rw[A0.sz_eq]
  show nPre.size+(r.1.size+(u.size+((nD.length+szs A1.sz nD)+((nA.length+szs A3.sz nA)+(((Tc ks).length+szs A0.sz (Tc ks))+0)))))+1+200*m1≤_
  omega
 intro i
 induction i with
 |zero=>
  intro m1 c ks _ hm1 hc hw hnd
  rw[DI,VI (by omega)]
  exact fin m1 c ks hm1 hc hw hnd
 |succ i ihi=>
  intro m1 c ks hi hm1 hc hw hnd
  have hlen:=Ze ks
  rw[DI,RX (by omega)]
  simp only[if_true]
  by_cases h0:m1=0
  ·rw[VI (by omega)]
   exact fin m1 c ks hm1 hc hw hnd
  ·rw[RX (by omega)]
   simp only[if_true]
   have e1:CH ((i+1:Nat):Int) 1=(i:Int):=by rw[DC (by omega) (by omega)];omega
   have e2:CH (m1:Int) 1=((m1-1:Nat):Int):=by rw[DC (by omega) (by omega)];omega
   have rm:Bu (room (ks.length+1) 144) fun _=>True:=Bu.room (by omega)
   have leaf:∀(c':A5) (x:A0),SI c'→x.sz≤20∧x.Kids=[]→Bu (DI r3 (i:Nat) c' ((m1-1:Nat):Int) nPre r u nD nA (ks++[x])) (Eok m):=fun c' x hc' ⟨hx,hk0⟩=>
    ihi (m1-1) c' _ (by omega) (by omega) hc' (by rw[JJ,KN];show _+(1+x.sz+0)+_≤_;omega) (by rw[Dk,FW,Xa,hk0];show _+(1+0)+_≤_;omega)
   have j81:∀(q:Int×A5) (b:Bool),SI q.2→Bu (Jg r3 ((i+1:Nat):Int) q b (m1:Int) nPre r u nD nA ks) (Eok m):=fun q b hq=>by
    rw[Jg,e1,e2]
    refine Bu.ite (fun _=>(I3 _ hq _ (by decide)).bnd fun s hs=>rm.bnd fun _ _=>leaf _ _ hs.2 ?_) fun _=>Bu.ite (fun _=>(I3 _ hq _ (by decide)).bnd fun s hs=>rm.bnd fun _ _=>leaf _ _ hs.2 ?_) fun _=>Bu.ite (fun _=>(I3 _ hq _ (by decide)).bnd fun s hs=>rm.bnd fun _ _=>leaf _ _ hs.2 ?_) fun _=> ?_
    ·refine⟨?_,rfl⟩;have:=SB (n:=5) hs.1 (by decide);rw[A0.sz_eq];show 0+(0+(0+((0+0)+((0+0)+((0+0)+s.1.size)))))≤_;omega
    ·refine⟨?_,rfl⟩;have:=SB (n:=5) hs.1 (by decide);rw[A0.sz_eq];show 0+(0+(0+((0+0)+((0+0)+((0+0)+s.1.size)))))≤_;omega
    ·refine⟨?_,rfl⟩;have:=SB (n:=5) hs.1 (by decide);rw[A0.sz_eq];show 0+(1+(0+((0+0)+((0+0)+((0+0)+s.1.size)))))≤_;omega
    ·refine(ih (m1-1) (by omega) _ r3 k he (by omega) hq).bnd fun x hx=>rm.bnd fun _ _=> ?_
     obtain⟨x1,k',x2,x3,x4,x5⟩:=hx
     rw[x2]
     exact ihi k' _ _ (by omega) (by omega) x1 (by rw[JJ,KN];show _+(1+x.1.sz+0)+_≤_;omega) (by rw[Dk,FW];omega)
   exact(Ix c hc 6).bnd fun q hq=>Bu.ite (fun _=>j81 _ _ hq.2.2) fun _=>j81 _ _ hq.2.2
theorem A2q (m:Nat) (hm:m≤1000) (ih:∀m',m'<m→∀(c:A5) (r3:List A1) (k:Nat),pD r3 k→k+3*(m'+1)≤100000→SI c→Bu (H0 c r3 (m':Nat)) (Eok m')) (hk:k+3*m≤100000)
  (nPre:ByteArray) (r:ByteArray×A5) (u:ByteArray) (nD:List A1) (h1:nPre.size≤1) (h2:r.1.size≤4) (h3:u.size≤5) (h4:Dok nD 3):
  ∀(i n:Nat) (c:A5) (nA:List A3),n+i≤2→SI c→Aok nA n→Bu (Es r3 (i:Nat) c (m:Nat) nPre r u nD nA) (Eok m):=by
 intro i
 induction i with
 |zero=>
  intro n c nA hn hc hA
  rw[Es,VI (by omega)]
  simp only[Bool.false_eq_true,if_false]
  refine(Ix c hc 4).bnd fun q hq=> ?_
  obtain⟨i,e,hi⟩:=Vj hq.1 hq.2.1 (by omega)
  rw[e]
  exact A2p he m hm ih hk nPre r u nD nA h1 h2 h3 h4 ⟨by have:=hA.1;omega,hA.2⟩ i m _ [] (by omega) (Nat.le_refl _) hq.2.2 (by show 0+_≤_;omega) (by show 0+_≤_;omega)
 |succ i ihi=>
  intro n c nA hn hc hA
  have e1:CH ((i+1:Nat):Int) 1=(i:Int):=by rw[DC (by omega) (by omega)];omega
  rw[Es,RX (by omega)]
  simp only[if_true]
  have hlA:=hA.1
  have rm:Bu (room (nA.length+1) 64) fun _=>True:=Bu.room (by omega)
  have j49:∀(q:ByteArray×A5) (a:A3),SI q.2→a.sz≤20→Bu (Hy r3 ((i+1:Nat):Int) q (m:Nat) nPre r u nD nA a) (Eok m):=fun q a hq ha=>by
   have x1:=ihi (n+1) _ _ (by omega) hq (hA.push ha)
   have x2:=ihi n _ _ (by omega) hq hA
   rw[Hy,e1]
   exact Bu.ite (fun _=>rm.bnd fun _ _=>x1) fun h0=>(jZ h0 (by omega)).tot.bnd fun _ _=>(jW _ _).tot.bnd fun _ _=>Bu.ite (fun _=>rm.bnd fun _ _=>x1) fun _=>x2
  refine(I3 c hc _ (by decide)).bnd fun a ha=>(vH _ ha.2).bnd fun v hv=>(I3 _ hv.2 _ (by decide)).bnd fun p hp=>(he.space _).bnd fun w hw=> ?_
  have s1:=SB (n:=2) ha.1 (by decide)
  have s2:=SB (n:=1) hp.1 (by decide)
  have s3:=hv.1
  refine Bu.ite (fun _=>Bu.ite (fun _=>j49 _ _ hp.2 ?_) fun _=>j49 _ _ hp.2 ?_) fun _=>j49 _ _ hp.2 ?_
  ·rw[A3.sz_eq];show p.1.size+(a.1.size+(w.1.size+v.1.size))≤_;omega
  ·rw[A3.sz_eq];show 0+(a.1.size+(0+v.1.size))≤_;omega
  ·rw[A3.sz_eq];show 0+(a.1.size+(0+v.1.size))≤_;omega
end
theorem zq : ∀ (m:Nat),m≤1000→∀(c:A5) (r3:List A1) (k:Nat),pD r3 k→k+3*(m+1)≤100000→SI c→Bu (H0 c r3 (m:Nat)) (Eok m):=by
 intro m
 induction m using Nat.strongRecOn with
 |_ m ih=>
  intro hm c in1 k he hk hc
  have ih':∀m',m'<m→∀(c:A5) (r3:List A1) (k:Nat),pD r3 k→k+3*(m'+1)≤100000→SI c→Bu (H0 c r3 (m':Nat)) (Eok m'):=fun m' h=>ih m' h (by omega)
  rw[H0]
  refine(I3 c hc _ (by decide)).bnd fun r hr=> ?_
  have hr4:r.1.size≤4:=SB hr.1 (by decide)
  have j4:∀(c1:A5) (nD:List A1),SI c1→Dok nD 3→Bu (MV in1 c1 (m:Nat) r nD) (Eok m):=fun c1 nD hc1 hD=>by
   have hl:=he.dok.len;have hl2:=hD.len;have hf:=he.few
   rw[MV,p8 _ _ (by omega)]
   have he2:pD (in1++nD) (k+3):=⟨⟨by rw[List.length_append];omega,fun d hd=>by rcases List.mem_append.1 hd with h|h;exact he.dok.each d h;exact hD.each d h⟩,by omega⟩
   have j20:∀(u:ByteArray) (c2:A5) (p:ByteArray),SI c2→u.size≤5→p.size≤1→Bu (Jf (in1++nD) u c2 (m:Nat) p r nD) (Eok m):=fun u c2 p hc2 hu hp=>by
    rw[Jf]
    refine(Ix c2 hc2 3).bnd fun q hq=> ?_
    obtain⟨i,e,hi⟩:=Vj hq.1 hq.2.1 (by omega)
    rw[e]
    exact A2q he2 m hm ih' (by omega) p r u nD hp hr4 hu hD i 0 _ [] (by omega) hq.2.2 ⟨Nat.le_refl _,fun d hd=>by cases hd⟩
   have j12:∀(c2:A5) (p:ByteArray),SI c2→p.size≤1→Bu (Je (in1++nD) c2 (m:Nat) p r nD) (Eok m):=fun c2 p hc2 hp=>by
    rw[Je]
    exact(he2.space _).bnd fun w hw=>Bu.ite (fun _=>j20 _ _ _ hc2 hw hp) fun _=>(he2.space _).bnd fun w hw=>j20 _ _ _ hc2 hw (Nat.zero_le _)
   rw[A6]
   exact(R6 _ hc1 _).bnd fun q hq=>Bu.ite (fun _=>(I3 _ hq _ (by decide)).bnd fun s hs=>j12 _ _ hs.2 (SB hs.1 (by decide))) fun _=>j12 _ _ hq (Nat.zero_le _)
  exact(R6 _ hr.2 _).bnd fun q hq=>Bu.ite (fun _=>(ro _ hq).bnd fun d hd=>j4 _ _ hd.2 hd.1) fun _=>j4 _ _ hq ⟨Nat.zero_le _,fun d hd=>by cases hd⟩
end TT
namespace TT
open Go
theorem A2r : (A0.mk 3 (⟨#[]⟩) (⟨#[]⟩) (⟨#[]⟩) [] [] [] (⟨#[104]⟩)).sz=1:=by rw[A0.sz_eq];rfl
theorem A2s : (A0.mk 4 (⟨#[]⟩) (⟨#[116]⟩) (⟨#[]⟩) [] [] [] (⟨#[101,110,100]⟩)).sz=4:=by rw[A0.sz_eq];rfl
theorem sd : (A0.mk 0 (⟨#[]⟩) (⟨#[]⟩) (⟨#[]⟩) [] [] [(A0.mk 1 (⟨#[]⟩) (⟨#[97]⟩) (⟨#[]⟩) [] [] [] (⟨#[]⟩))] (⟨#[]⟩)).sz=2:=by rw[A0.sz_eq,Iv,A0.sz_eq];rfl
theorem A5U (ks:List A0):(A0.mk 0 (⟨#[]⟩) (⟨#[]⟩) (⟨#[]⟩) [] [] ks (⟨#[]⟩)).sz=wt ks:=by rw[A0.sz_eq,wt];show 0+(0+(0+((0+0)+((0+0)+((ks.length+szs A0.sz ks)+0)))))=ks.length+szs A0.sz ks;omega
theorem pE (P:A0→Prop) (hP:∀n,n.sz≤3000→nds n≤14→IA n.Kids≤11+n.Kids.countP (fun k=> !Af k.Kind 1)→Ev n=some true→P n) (h0:P (A0.mk 0 (⟨#[]⟩) (⟨#[]⟩) (⟨#[]⟩) [] [] [(A0.mk 1 (⟨#[]⟩) (⟨#[97]⟩) (⟨#[]⟩) [] [] [] (⟨#[]⟩))] (⟨#[]⟩))) (c:A5) (h:SI c):Bu (OW c) fun r=>r.1.sz≤3000∧SI r.2∧P r.1:=by
 have j16:∀(q:Bool×A5) (ks:List A0),SI q.2→wt ks≤3000→IA ks≤13→IA ks≤11+ks.countP (fun k=> !Af k.Kind 1)→Bu (Fk q ks) fun r=>r.1.sz≤3000∧SI r.2∧P r.1:=fun q ks hq hk hn hn2=>by
  have e:=A5U ks
  rw[Fk]
  obtain⟨b,eb⟩:=p9 (A0.mk 0 (⟨#[]⟩) (⟨#[]⟩) (⟨#[]⟩) [] [] ks (⟨#[]⟩)) (by omega)
  rw[eb]
  exact Bu.ite (fun hb=>Bu.ret ⟨Nat.le_trans (Nat.le_of_eq e) hk,hq,hP _ (Nat.le_trans (Nat.le_of_eq e) hk) (by rw[nds];omega) hn2 (by rw[eb,hb])⟩) fun _=>Bu.ret ⟨by show A0.sz _≤_;rw[sd];omega,hq,h0⟩
 have j6:∀(q:Bool×A5) (p:Int×A5) (m:Nat) (ks:List A0),SI q.2→p.1=(m:Int)→m≤7→wt ks≤10→IA ks≤1→IA ks≤ks.countP (fun k=> !Af k.Kind 1)→Bu (H1 q p ks) fun r=>r.1.sz≤3000∧SI r.2∧P r.1:=fun q p m ks hq hp hm hk hn hn2=>by
  have hl:=Ze ks
  rw[H1,hp,show AV 3 (m:Int)=((m+3:Nat):Int) by rw[BK (by omega) (by omega)];omega]
  refine(zq (m+3) (by omega) q.2 [] 0 ⟨⟨Nat.le_refl _,fun d hd=>by cases hd⟩,by omega⟩ (by omega) hq).bnd fun x hx=> ?_
  obtain⟨x1,k,x2,x3,x4,x5⟩:=hx
  have w1:wt (ks++[x.1])≤2300:=by rw[JJ,KN];show _+(1+x.1.sz+0)≤_;omega
  have rm1:Bu (room (ks.length+1) 144) fun _=>True:=Bu.room (by omega)
  have rm2:Bu (room ((ks++[x.1]).length+1) 144) fun _=>True:=Bu.room (by have:=Ze (ks++[x.1]);omega)
  refine rm1.bnd fun _ _=>(R6 _ x1 _).bnd fun s hs=>Bu.ite (fun _=>rm2.bnd fun _ _=>j16 _ _ hs ?_ (by rw[Dk,Dk,FW,FW,nds];show _+(1+0)≤_;omega) (by rw[Dk,Dk,FW,FW,nds,List.countP_append,List.countP_append];show _+(1+0)≤_+(_+_+(0+1));omega)) fun _=>j16 _ _ hs (by omega) (by rw[Dk,FW];omega) (by rw[Dk,FW,List.countP_append];omega)
  rw[JJ,KN,A2s]
  show _+(1+4+0)≤_
  omega
 rw[OW]
 refine(Ix c h 8).bnd fun p hp=> ?_
 obtain⟨m,e,hm⟩:=Vj hp.1 hp.2.1 (by omega)
 exact(R6 _ hp.2.2 _).bnd fun q hq=>Bu.ite (fun _=>(Bu.room (by omega)).bnd fun _ _=>j6 _ _ m _ hq e (by omega) (by rw[List.nil_append,KN,A2r];show 1+1+0≤_;omega) (by rw[List.nil_append,FW,nds];exact Nat.le_refl _) (by rw[List.nil_append,FW,nds];exact Nat.le_refl _)) fun _=>j6 _ _ m _ hq e (by omega) (by show 0≤_;omega) (by show 0≤_;omega) (by show 0≤_;omega)
end TT
