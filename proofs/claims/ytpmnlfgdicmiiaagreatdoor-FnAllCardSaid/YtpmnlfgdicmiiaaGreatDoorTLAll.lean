import Derived.Test.YtpmnlfgdicmiiaaGreatDoorTP10Bare
set_option linter.unusedVariables false
set_option linter.unusedSimpArgs false
namespace TT
open Go
abbrev sK (K:Int):AJ:=kst true K []
abbrev pY (K:Int):Eh:=Eh.mk noS [sK K]
theorem A36 (K:Int) (h:2≤K∧K≤5):NH (pY K)=some true:=by
 obtain⟨e1,e6,e7⟩:=A0F K h
 have g:getI [sK K] 0=some (sK K):=rfl
 have c0:An [] (sK K)=some (false,sK K):=by
  rw[An,CZ,BB];rfl
 have j22:By false (false,sK K) true true=some true:=by
  rw[By]
  show(if D5 noS noS then some (D5 noS noS)else some false)=some true
  rw[s9];rfl
 have st:Ky (sK K) true=some true:=by
  rw[Ky]
  show(An [] (sK K)>>=_)=_
  rw[c0]
  show EZ false true (false,sK K)=some true
  rw[EZ]
  show(if Af K 1 then _ else _)=_
  rw[e1]
  simp only[Bool.false_eq_true,if_false]
  show(if Af K 2 then By false (false,sK K) true true else if Af K 3 then By false (false,sK K) true true else By false (false,sK K) (Af K 4) true)=_
  rw[j22]
  split
  ·rfl
  ·split
   ·rfl
   ·cases h4:Af K 4 with
    |true=>exact j22
    |false=>
     have e5:Af K 5=true:=by
      rename_i h2 h3
      have a2:K≠2:=fun e=>h2 (U0 e)
      have a3:K≠3:=fun e=>h3 (U0 e)
      have a4:=A5a h4
      exact U0 (by omega)
     rw[By]
     show(if Af K 5 then if D5 noS noS then if D5 noS noS then some true else _ else some false else _)=_
     rw[e5,s9];rfl
 rw[NH,GO]
 show(getI [sK K] 0>>=fun x2=>Ky x2 (Af 0 (CH (AD [sK K]) 1))>>=fun r2=>if r2 then GO (pY K) (AV 0 1)else some false)=_
 rw[g,A6,show Af 0 (CH (AD [sK K]) 1)=true from rfl,st]
 simp only[A6,if_true]
 rw[GO]
 show(Ip noS>>=_)=_
 rw[A0E];rfl
theorem sy (s:AJ):∀(l:List A0) (i:Nat),∀x∈Yx s l i,(i:Int)≤x
 | [],i,x,h=>by cases h
 |y::l,i,x,h=>by
  rw[Yx]at h
  have ih:=sy s l (i+1)
  split at h
  ·rcases List.mem_cons.1 h with rfl|h
   ·exact Int.le_refl _
   ·have:=ih x h;omega
  ·have:=ih x h;omega
theorem Xe (s:AJ):∀(l:List A0) (i:Nat),(Yx s l i).Nodup
 | [],i=>List.nodup_nil
 |y::l,i=>by
  rw[Yx]
  split
  ·rw[List.nodup_cons]
   exact⟨fun h=>by have:=sy s l (i+1) _ h;omega,Xe s l (i+1)⟩
  ·exact Xe s l (i+1)
section
variable (t:A0) (ht:t.sz≤3000) (hB:VP t=true) (hn:nds t≤14) (hc:IA t.Kids≤11+t.Kids.countP fun k=> !Af k.Kind 1)
def gK (K:Int) (b:List Int):List Int:=match Iw t b with
 |some x=>Yx (sK K) x.Kids 0
 |none=>[]
theorem Zj (b:List Int) (hb:b∈plP t []):∃x,Iw t b=some x∧x.sz≤t.sz∧b.length≤t.sz:=by
 obtain⟨j,hj,e⟩:=List.mem_iff_getElem.1 hb
 have hlen:=Tf t []
 have hx:(Zh t)[j]? =some (Zh t)[j]:=List.getElem?_eq_getElem (by omega)
 obtain⟨p',e1,e2⟩:=A07 t [] j b _ (by rw[←e];exact List.getElem?_eq_getElem hj) hx
 rw[List.nil_append]at e1
 subst e1
 exact⟨_,e2,Zd _ e2,jl b e2⟩
theorem A0H (K:Int):((plP t []).flatMap (gK t K)).length=(H8 t.Kids).countP (IS (sK K)):=by
 have hlen:=Tf t []
 have e:(plP t []).map (fun b=>(gK t K b).length)=(Zh t).map fun x=>x.Kids.countP (IS (sK K)):=by
  refine List.ext_getElem (by simp only[List.length_map];exact hlen) fun j h1 h2=> ?_
  simp only[List.length_map]at h1 h2
  simp only[List.getElem_map]
  obtain⟨p',e1,e2⟩:=A07 t [] j _ _ (List.getElem?_eq_getElem h1) (List.getElem?_eq_getElem h2)
  rw[List.nil_append]at e1
  rw[gK,e1,e2]
  exact pV _ _ _
 rw[List.length_flatMap,e,vZ (IS (sK K)) (fun x=>x.Kids.countP (IS (sK K))) (fun _=>rfl) t]
include ht hB hn hc in
theorem Sz (K:Int) (hK:2≤K∧K≤5):(H8 t.Kids).countP (IS (sK K))≤12:=by
 obtain⟨_,h1⟩:=su t (by omega) hB
 have hp:=A34 t
 rw[OH,List.length_cons]at hp
 have key:∀(q:A0→Bool) (l:List A0),(H8 l).countP q+l.countP (fun k=> !q k)≤(H8 l).length:=by
  intro q l
  induction l with
  |nil=>exact Nat.le_refl _
  |cons x l ih=>
   rw[H8,List.countP_append,List.length_append,List.countP_cons,OH,List.countP_cons,List.length_cons]
   have:=List.countP_le_length (p:=q) (l:=H8 x.Kids)
   cases q x<;>simp<;>omega
 have hk:=key (IS (sK K)) t.Kids
 have hl:IA t.Kids=(H8 t.Kids).length:=by rw[Xa]at hp;omega
 by_cases h2:K=2
 ·have e:∀k:A0,IS (sK K) k=Af k.Kind 1:=fun k=>by rw[h2];rfl
  have e2:t.Kids.countP (fun k=> !IS (sK K) k)=t.Kids.countP fun k=> !Af k.Kind 1:=by congr 1;funext k;rw[e]
  rw[Xa]at hn
  omega
 ·have e2:t.Kids.countP (fun k=>Af k.Kind 1)≤t.Kids.countP fun k=> !IS (sK K) k:=by
   refine List.countP_mono_left fun k _ hk1=> ?_
   have hk1:=Xd hk1
   show(!(if Af K 2 then Af k.Kind 1 else if Af K 3 then Af k.Kind 2 else if Af K 4 then Af k.Kind 3 else Af k.Kind 4))=true
   rw[hk1,Og h2]
   simp only[Bool.false_eq_true,if_false]
   split
   ·rfl
   ·split<;>rfl
  rw[Xa]at hn
  omega
include ht hB hn hc in
theorem A5b (h:D2) (K:Int) (hK:2≤K∧K≤5):∃r,NJ t h (pY K) []=some (r,true)∧r.length=(H8 t.Kids).countP (IS (sK K)):=by
 have hcnt:=Sz t ht hB hn hc K hK
 have hfl:=A0H t K
 have hlen:=Tf t []
 have hpre:=eq t
 have hT:Io t=some true:=by rw[(ru t (by omega)).2,hB]
 have h0:Iw (AP.mk t h []).xt []=some t:=rfl
 obtain⟨r,h1,h2⟩:=A0C (AP.mk t h []) [] (sK K) h0 (show t.sz≤_ by omega) (by simp) (below:=plP t []) (by show(if true=true then _ else _);simp only[if_true];exact ji t (by omega))
  (fun b hb=>by obtain⟨_,_,_,e⟩:=Zj t b hb;omega) (by omega) (gK t K)
  (fun b hb=>by
    obtain⟨x,e1,e2,e3⟩:=Zj t b hb
    have hxl:x.Kids.length≤x.sz:=by rw[A0.sz_eq];omega
    refine⟨x,e1, ?_⟩
    rw[vW _ x (sK K) (A0F K hK).1 rfl rfl (by omega),gK,e1])
  (by rw[hfl];exact hcnt)
 have hnd:((plP t []).flatMap fun b=>(gK t K b).map fun i=>[]++b++[i]).Nodup:=by
  rw[List.Nodup,List.pairwise_flatMap]
  refine⟨fun b hb=> ?_, ?_⟩
  ·rw[List.pairwise_map]
   have hg:(gK t K b).Nodup:=by
    rw[gK]
    cases Iw t b with
    |none=>exact List.nodup_nil
    |some x=>exact Xe _ _ _
   refine List.Pairwise.imp (fun{a c} hac he=>hac ?_) hg
   simpa using he
  ·refine List.Pairwise.imp (fun{a c} hac=> ?_) (vT t [])
   intro x hx y hy he
   obtain⟨i,_,rfl⟩:=List.mem_map.1 hx
   obtain⟨j,_,rfl⟩:=List.mem_map.1 hy
   rw[List.nil_append,List.nil_append]at he
   exact hac (List.append_inj_left' he rfl)
 have hlr:r.length=(H8 t.Kids).countP (IS (sK K)):=by
  rw[h1.1,←hfl]
  have:∀l:List (List Int),(l.flatMap fun b=>(gK t K b).map fun i=>[]++b++[i]).length=(l.flatMap (gK t K)).length:=by
   intro l
   induction l with
   |nil=>rfl
   |cons b l ih=>rw[List.flatMap_cons,List.flatMap_cons,List.length_append,List.length_append,List.length_map,ih]
  exact this _
 have hcp:AR r=some r:=i8 r (h1.2.nodup_iff.2 hnd) (by omega) (fun p hp=>by
  have hp':=h1.2.mem_iff.1 hp
  obtain⟨b,hb,hp'⟩:=List.mem_flatMap.1 hp'
  obtain⟨i,_,rfl⟩:=List.mem_map.1 hp'
  obtain⟨_,_,_,e⟩:=Zj t b hb
  simp;omega)
 refine⟨r.map fun p=>AS.mk p 0 0, ?_,by rw[List.length_map];exact hlr⟩
 rw[A0G t h (pY K) hT (A36 K hK) (vc (pY K) (by simp) (fun x hx=>by rw[List.mem_singleton.1 hx];exact⟨rfl,by simp[kst],fun p hp=>by cases hp⟩)) rfl]
 have st:=ve t h [] (pY K) [[]] 0 (x:=sK K) rfl hK (by simp)
 have st':DK t h [] [[]] (pY K) 0=_:=st
 rw[st',h2,hcp]
 exact vf t h [] (pY K) r (by omega)
include ht hB in
theorem A37 : (H8 t.Kids).countP (IS (sK 2))+(H8 t.Kids).countP (IS (sK 3))+(H8 t.Kids).countP (IS (sK 4))+(H8 t.Kids).countP (IS (sK 5))+1=(plP t []).length:=by
 have hk:=A35 t (su t (by omega) hB).1
 rw[Tf,OH,List.length_cons]
 have:∀l:List A0,(∀x∈l,1≤x.Kind∧x.Kind≤4)→l.countP (IS (sK 2))+l.countP (IS (sK 3))+l.countP (IS (sK 4))+l.countP (IS (sK 5))=l.length:=by
  intro l
  induction l with
  |nil=>intro _;rfl
  |cons x l ih=>
   intro h
   have ih:=ih fun y hy=>h y (List.mem_cons_of_mem _ hy)
   have hx:=h x (List.mem_cons_self ..)
   simp only[List.countP_cons,List.length_cons]
   have e2:IS (sK 2) x=Af x.Kind 1:=rfl
   have e3:IS (sK 3) x=Af x.Kind 2:=rfl
   have e4:IS (sK 4) x=Af x.Kind 3:=rfl
   have e5:IS (sK 5) x=Af x.Kind 4:=rfl
   rw[e2,e3,e4,e5]
   have hc:x.Kind=1∨x.Kind=2∨x.Kind=3∨x.Kind=4:=by omega
   rcases hc with hc|hc|hc|hc<;>rw[hc]<;>simp[Af]<;>omega
 have:=this _ hk
 omega
end
theorem mM (code:List Int) (hl:code.length≤1048576):Bu (Jh code) fun r=>r.sz≤3000∧VP r=true∧nds r≤14∧IA r.Kids≤11+r.Kids.countP fun k=> !Af k.Kind 1:=by
 rw[Jh]
 refine(v8 code hl).bnd fun c hc=>(pE (fun n=>VP n=true∧nds n≤14∧IA n.Kids≤11+n.Kids.countP fun k=> !Af k.Kind 1) (fun n hn h1 h2 h=> ?_) ⟨vX,by rw[nds,FW,nds];show 1+(1+0)≤14;omega,by show IA [_]≤_;rw[FW,nds];show 1+0≤11+_;omega⟩ c hc).bnd fun r hr=>Bu.ret ⟨hr.1,hr.2.2⟩
 have:=(ru n (by omega)).1
 rw[h]at this
 exact⟨(Option.some.inj this).symm,h1,h2⟩
theorem A38 (t:A0) (ht:t.sz≤3000) (hB:VP t=true) (hn:nds t≤14) (hc:IA t.Kids≤11+t.Kids.countP fun k=> !Af k.Kind 1):Cs 0 0 t=some true:=by
 have hlen:=Tf t []
 have hpre:=eq t
 have hs:=A37 t ht hB
 have step:∀(i n:Nat) (K:Int),getI ([2,3,4,5]:List Int) i=some K→2≤K∧K≤5→i<4→n≤100→Cs n i t=Cs ((n+(H8 t.Kids).countP (IS (sK K)):Nat):Int) ((i+1:Nat):Int) t:=by
  intro i n K hg hK hi hn'
  obtain⟨r,h1,h2⟩:=A5b t ht hB hn hc (D2.mk noS [] []) K hK
  have hcl:=Sz t ht hB hn hc K hK
  rw[Cs,R5 (by omega),hg]
  simp only[if_true,A6]
  rw[show NJ t (D2.mk (⟨#[]⟩) [] []) (Eh.mk (⟨#[]⟩) [(AJ.mk true K (⟨#[]⟩) (⟨#[]⟩) [])]) []=some (r,true)from h1]
  simp only[A6,if_true]
  rw[BK (by simp only[AD];omega) (by simp only[AD];omega),BK (by omega) (by omega),show(n:Int)+AD r=((n+(H8 t.Kids).countP (IS (sK K)):Nat):Int) by simp only[AD];omega,show(i:Int)+1=((i+1:Nat):Int) by omega]
 have c2:=Sz t ht hB hn hc 2 (by omega)
 have c3:=Sz t ht hB hn hc 3 (by omega)
 have c4:=Sz t ht hB hn hc 4 (by omega)
 have c5:=Sz t ht hB hn hc 5 (by omega)
 have s0:=step 0 0 2 rfl (by omega) (by omega) (by omega)
 have s1:=step 1 (0+(H8 t.Kids).countP (IS (sK 2))) 3 rfl (by omega) (by omega) (by omega)
 have s2:=step 2 (0+(H8 t.Kids).countP (IS (sK 2))+(H8 t.Kids).countP (IS (sK 3))) 4 rfl (by omega) (by omega) (by omega)
 have s3:=step 3 (0+(H8 t.Kids).countP (IS (sK 2))+(H8 t.Kids).countP (IS (sK 3))+(H8 t.Kids).countP (IS (sK 4))) 5 rfl (by omega) (by omega) (by omega)
 have s0':Cs 0 0 t=_:=s0
 rw[s0',s1,s2,s3,Cs,GE (by omega),ji t (by omega)]
 simp only[Bool.false_eq_true,if_false,A6]
 rw[U0]
 rw[DC (by simp only[AD];omega) (by simp only[AD];omega)]
 simp only[AD];omega
theorem law_FnAll (code:List Int) (hl:code.length≤maxLen) (hc:∀y∈code,0≤y∧y<256):TL code=some true:=by
 rw[TL,YI]
 by_cases hb:code.length≤1048576
 case neg=>rw[RX (by simp only[AD];omega)];rfl
 rw[VI (by simp only[AD];omega)]
 obtain⟨t,e,ht,hB,h1,h2⟩:=mM code hb
 simp only[A6,Bool.false_eq_true,if_false,e]
 exact A38 t ht hB h1 h2
end TT
