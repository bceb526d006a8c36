import Derived.Test.YtpmnlfgdicmiiaaGreatDoorTP12SelFor
import Derived.Test.YtpmnlfgdicmiiaaGreatDoorTP10Bare
set_option linter.unusedVariables false
set_option linter.unusedSimpArgs false
namespace TT
open Go
theorem ml (code:List Int) (hl:code.length≤1048576):Bz (Jh code) fun r=>(r.1.sz≤3000∧bK r.1=true∧nds r.1≤14)∧r.2.length≤3001:=by
 rw[Jh]
 refine(qZ code hl).bnd fun c hc=>(i7 (fun n=>bK n=true∧nds n≤14) (fun n hn h1 h2 h=> ?_) ⟨A25,by rw[nds,Ht,nds];show 1+(1+0)≤14;omega⟩ c hc).bnd fun r hr=>(i8 _ hr.2.1 _ (by have:=hr.1;omega)).bnd fun p hp=>Bz.ret ⟨⟨hr.1,hr.2.2⟩,by have:=hp.1;have:=hr.1;show p.1.length≤_;omega⟩
 have:=(zQ n (by omega)).1
 rw[h]at this
 exact⟨(Option.some.inj this).symm,h1⟩
theorem A5u (n:A0) (p:List Int):(Fk n p).1.sz≤n.sz:=by
 rw[Fk]
 cases h:Em n p with
 |none=>exact Nat.zero_le _
 |some x=>exact ZW p h
theorem j9 (code:List Int) (hl:code.length≤1048576):Bz (Il code) fun r=>r.1.sz≤3000∧r.2.1.length≤3001∧r.2.2.sz≤3000:=by
 rw[Il]
 refine(qZ code hl).bnd fun c hc=>(zL c hc).bnd fun r hr=>(i8 _ hr.2 _ (by have:=hr.1;omega)).bnd fun p hp=> ?_
 have hr1:=hr.1
 have hp1:=hp.1
 have hR:=A5u r.1 p.1
 rw[gy r.1 p.1 (by omega) (by omega),A3]
 refine(Iy _ hp.2 _ (by decide)).bnd fun s hs=>Bz.ite (fun h0=> ?_) fun _=>Bz.ret ⟨hr1,by show p.1.length≤_;omega, ?_⟩
 ·have h0':=of_decide_eq_true h0
  refine(GK _ hs.2 _).bnd fun k hk=>(Bz.getI hk.1 (by have:=hk.2.1;simp only[AD]at this h0';omega)).bnd fun a ha=>Bz.ret ⟨hr1,by show p.1.length≤_;omega, ?_⟩
  have h1:=Dh A5.sz ha.1
  have h2:=A0.sz_eq (Fk r.1 p.1).1
  show a.sz≤3000
  omega
 ·have h1:s.1.size≤3:=by
   have:=hs.1
   simp only[List.mem_cons,List.not_mem_nil,or_false]at this
   rcases this with h|h|h<;>rw[h]<;>decide
  show 0+(s.1.size+(0+1))≤3000
  omega
theorem A2E (t:A0) (p:List Int) (ht:t.sz≤3000) (hB:bK t=true) (hn:nds t≤14) (hp:p.length≤3001) (x:A0) (hx:Em t p=some x) (h1:1≤p.length) (h8:p.length≤8) (h:Dm):
  Te t h (B8.mk emS (Cn t p)) []=some ([Am.mk p 0 0],true)∧∃r:ByteArray,LU (B8.mk emS (Cn t p))=some r∧1≤r.size:=by
 obtain⟨hk,_⟩:=A8h t (by omega) hB
 obtain⟨w1,w2⟩:=A5t p t ⟨x,hx⟩ hk (by omega)
 have hT:Kq t=some true:=by rw[(zQ t (by omega)).2,hB]
 have hS:=qu (B8.mk emS (Cn t p)) rfl (by show 1≤(Cn t p).length;omega) (by show(Cn t p).length≤8;omega) w1.way
 refine⟨?_,A5s (B8.mk emS (Cn t p)) rfl (by show 1≤(Cn t p).length;omega) (by show(Cn t p).length≤8;omega) w1⟩
 rw[A5k t h _ hT hS (A27 _ (by show(Cn t p).length≤_;omega) (fun y hy=>by
  obtain⟨K,N,rfl,_,_⟩:=w1.way y hy
  exact⟨rfl,by show 1≤_;omega,fun q hq=>by rw[List.mem_singleton.1 hq]⟩)) rfl]
 exact A0D t h (B8.mk emS (Cn t p)) ht (by show(Cn t p).length≤8;omega) p [] t [] rfl ⟨x,hx⟩ hk rfl rfl (by simp;omega)
theorem law_FnTells (code:List Int) (hl:code.length≤maxLen) (hc:∀y∈code,0≤y∧y<256):TU code=some true:=by
 rw[TU,dM]
 by_cases hb:code.length≤1048576
 case neg=>rw[Rf (by simp only[AD];omega)];rfl
 rw[WJ (by simp only[AD];omega)]
 obtain⟨⟨t,p⟩,e,⟨ht,hB,hn⟩,hp⟩:=ml code hb
 obtain⟨⟨t2,p2,a2⟩,e2,ht2,hp2,ha2⟩:=j9 code hb
 simp only at ht hB hn hp ht2 hp2 ha2
 obtain⟨f1,f2⟩:=qr t p (by omega) (by omega)
 obtain⟨r5,g1,g2,g3⟩:=wq t2 p2 a2 (by omega) (by omega) (by omega)
 obtain⟨r0,k1,k2,k3⟩:=mh t p (by omega) (by omega)
 have er:r0=X5 t p:=by rw[f1]at k1;exact(Option.some.inj k1).symm
 have s1:=mi (X5 t p).1 (by rw[←er];omega)
 have s2:=mi r5.1 g3
 simp only[A3,bf,if_false,e,e2,f1,f2,g1,g2,A5H,s1,s2,if_true]
 rw[Uu t p (by omega) (by omega),A3,X5,Fk]
 cases hx:Em t p with
 |none=>rfl
 |some x=>
  simp only
  by_cases hc:1≤p.length∧p.length≤8
  ·obtain⟨q1,r,q2,q3⟩:=A2E t p ht hB hn hp x hx hc.1 hc.2 (Dm.mk (⟨#[]⟩) [] [])
   simp only[hc,and_self,if_true]
   rw[q1]
   simp only[A3,if_true]
   rw[show Ag (AD [Am.mk p 0 0]) 1=true from rfl,if_pos rfl,show getI [Am.mk p 0 0] 0=some (Am.mk p 0 0)from rfl,A3]
   simp only[mZ p p (by omega),A3,decide_true,if_true]
   rw[show Ag (0:Int) 0=true from rfl,if_pos rfl,q2,A3]
   have hne:C6 r (⟨#[]⟩)=false:=by
    cases h:C6 r (⟨#[]⟩)with
    |false=>rfl
    |true=>
     rw[RC.1 h]at q3
     exact absurd q3 (by decide)
   rw[Wv,hne];rfl
  ·simp only[hc,if_false,bf,if_true]
   by_cases h0:p.length=0
   ·rw[WK (by simp only[AD];omega)];rfl
   ·rw[H0 (by simp only[AD];omega),Rf (by simp only[AD];omega)];rfl
end TT
