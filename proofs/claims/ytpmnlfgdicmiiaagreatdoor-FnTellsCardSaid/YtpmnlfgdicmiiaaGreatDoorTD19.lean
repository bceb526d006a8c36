import Derived.Test.YtpmnlfgdicmiiaaGreatDoorTD13
set_option linter.unusedVariables false
set_option linter.unusedSimpArgs false
namespace TT
open Go
section
variable {P:Program} {c:Ctx} {w w':World} {B B' B2:Nat→Prop} {ρ ρ':Id→HG} {Sf:Id→Nat→Prop} {X:Nat→Prop} {r r' r0:R} {a:Act} {o:Oper} {id0:Id}
theorem gS {α:Type} {call:Ai} {d:Nat} {x:α×R} {v:V} {u:Value} {k:T→M α} (hrun:(IF v k).run call d r=some x) (hI:E5 c w B ρ Sf X r) (hv:A6 w B ρ r v u) (hB:∀b,B b→B2 b) (hR:v.isOwned=true→∀id b,Sf id b→B2 b):
  ∃t,(k t).run call d r=some x∧EV w B2 t u∧u.oneCell'=true:=by
 cases v with
 |t c=>simp only[IF]at hrun;simp only[A6]at hv;exact⟨c,hrun,EV.mono hB hv.1,hv.2⟩
 |nil=>
  simp only[IF]at hrun
  simp only[A6]at hv
  subst hv
  exact⟨_,hrun,by simp only[EV];exact⟨none,0,rfl,Nat.le_refl _,by simp, .inl trivial⟩,rfl⟩
 |ref id n=>
  simp only[IF,GO,M.run]at hrun
  simp only[A6]at hv
  cases he:Ac r id with
  |dead=>rw[he]at hrun;simp[M.run]at hrun
  |mem rows stt fx=>
   rw[he]at hrun
   simp only at hrun
   split at hrun
   ·rename_i hl
    have hu:=(hv.2.2 rows stt fx he).2 hl
    have hf:=Fb.frz (B:=B) (B':=B2) hB (t:= .sl true rows) (u:=u) (S:=Sf id) (hR rfl id) (FM.2 ⟨_,_,by rw[hl];exact hu,(hI.mem he).1⟩)
    simp only[TT.frz]at hf
    exact⟨_,hrun,hf,by rw[hu];rfl⟩
   ·simp[M.run]at hrun
 |sub id p i k' n st=>
  simp only[IF,GO,M.run]at hrun
  simp only[A6]at hv
  cases he:Ac r id with
  |dead=>rw[he]at hrun;simp[M.run]at hrun
  |mem rows stt fx=>
   rw[he]at hrun
   simp only at hrun
   split at hrun
   ·rename_i hs
    cases hg:CR rows p i k' with
    |none=>rw[hg]at hrun;simp[M.run]at hrun
    |some t=>
     rw[hg]at hrun
     cases t with
     |v y=>simp[M.run]at hrun
     |hole=>simp[M.run]at hrun
     |pp _=>simp[M.run]at hrun
     |fn _ _=>simp[M.run]at hrun
     |sl ow rs=>cases ow with
      |false=>simp[M.run]at hrun
      |true=>
       simp only at hrun
       split at hrun
       ·rename_i hlen
        obtain⟨b',o',m1,m2⟩:=((hv.2.2 rows stt fx he).2 hs).2 rs hg hlen
        obtain⟨b,o,cur,e,u',S1,S2,l1,l2,l3,l4,l5,l6,l7,_⟩:=H1.lens p (hI.mem he).1 hg
        obtain⟨rfl,rfl⟩:=Bb.unique p l1 m1
        rw[l2.cell _,l3]at m2
        simp only[oi]at m2
        subst m2
        have hf:=Fb.frz (B:=B) (B':=B2) hB (t:= .sl true rs) (u:=u') (S:=S1) (fun b hb=>hR rfl id b (l6.left hb)) l5
        simp only[TT.frz]at hf
        exact⟨_,hrun,hf,l4⟩
       ·simp[M.run]at hrun
   ·simp[M.run]at hrun
 |_=>simp[IF,GO,M.run]at hrun
theorem cg {α:Type} {call:Ai} {d:Nat} {x:α×R}:∀{vs:List V} {us:List Value} {k:List T→M α},(RF vs k).run call d r=some x→E5 c w B ρ Sf X r→AJ w B ρ r vs us→(∀b,B b→B2 b)→(vs.any V.isOwned=true→∀id b,Sf id b→B2 b)→
  ∃ts,(k ts).run call d r=some x∧BC w B2 (ts.map NH.t) us (fun _=>False) []
 | [],us,k,hrun,hI,hv,hB,hR=>by
  simp only[AJ]at hv
  exact⟨[],hrun,by simp only[List.map_nil,BC];exact⟨hv,fun _ h=>h,trivial⟩⟩
 |v::vs,us,k,hrun,hI,hv,hB,hR=>by
  simp only[RF]at hrun
  simp only[AJ]at hv
  obtain⟨u,us',rfl,h1,h2⟩:=hv
  obtain⟨t,g1,g2,g3⟩:=gS hrun hI h1 hB (fun h=>hR (by simp[h]))
  obtain⟨ts,g4,g5⟩:=cg g1 hI h2 hB (fun h=>hR (by simp only[List.any_cons,h,Bool.or_true]))
  refine⟨t::ts,g4, ?_⟩
  simp only[List.map_cons,BC]
  exact⟨u,us',fun _=>False,fun _=>False,[],[],rfl,by simp only[Bo];exact⟨g2,g3,fun _ h=>h,trivial⟩,g5,⟨fun b=>by simp,fun b (h:False)=>h.elim⟩,rfl⟩
theorem xI {α:Type} {call:Ai} {d:Nat} {x:α×R} {pa:PA} {u:Value} {S:Nat→Prop} {ls:List Hy} {k:NH→M α} (hrun:(WU pa k).run call d r=some x) (hI:E5 c w B ρ Sf X r) (hp:RJ w B ρ r pa u S ls) (hB:∀b,B b→B2 b) (hR:pa.reads=true→∀id b,Sf id b→B2 b):
  ∃a,(k a).run call d r=some x∧Bo w B2 a u S ls:=by
 cases pa with
 |a a=>exact⟨a,hrun,Bo.mono hB hp⟩
 |v v=>
  obtain⟨hv,hS,rfl⟩:=hp
  have one:(IF v fun t=>k (.t t)).run call d r=some x→(v.isOwned=true→∀id b,Sf id b→B2 b)→∃a,(k a).run call d r=some x∧Bo w B2 a u S []:=by
   intro hrun hR
   obtain⟨t,g1,g2,g3⟩:=gS hrun hI hv hB hR
   exact⟨_,g1,by simp only[Bo];exact⟨g2,g3,hS,trivial⟩⟩
  cases v with
  |agg cs=>
   simp only[WU]at hrun
   simp only[A6]at hv
   obtain⟨us,rfl,hv⟩:=hv
   obtain⟨ts,g1,g2⟩:=cg hrun hI hv hB (fun h=>hR (by simpa [PA.reads] using h))
   have:S=fun _=>False:=funext fun b=>propext ⟨fun h=>hS b h,fun h=>h.elim⟩
   exact⟨_,g1,by simp only[Bo];rw[this];exact⟨us,rfl,g2⟩⟩
  |_=>exact one (by simpa only[WU] using hrun) (fun h=>hR (by simpa [PA.reads] using h))
theorem gT {α:Type} {call:Ai} {d:Nat} {x:α×R}:∀{pas:List PA} {us:List Value} {S:Nat→Prop} {ls:List Hy} {k:List NH→M α},(Sv pas k).run call d r=some x→E5 c w B ρ Sf X r→GP w B ρ r pas us S ls→(∀b,B b→B2 b)→(pas.any PA.reads=true→∀id b,Sf id b→B2 b)→
  ∃as,(k as).run call d r=some x∧BC w B2 as us S ls
 | [],us,S,ls,k,hrun,hI,hv,hB,hR=>⟨[],hrun,by simpa only[GP,BC] using hv⟩
 |v::vs,us,S,ls,k,hrun,hI,hv,hB,hR=>by
  simp only[Sv]at hrun
  simp only[GP]at hv
  obtain⟨u,us',S1,S2,l1,l2,h1,h2,h3,h4,h5⟩:=hv
  obtain⟨a,g1,g2⟩:=xI hrun hI h2 hB (fun h=>hR (by simp[h]))
  obtain⟨as,g4,g5⟩:=gT g1 hI h3 hB (fun h=>hR (by simp only[List.any_cons,h,Bool.or_true]))
  refine⟨a::as,g4, ?_⟩
  simp only[BC]
  exact⟨u,us',S1,S2,l1,l2,h1,g2,g5,h4,h5⟩
theorem Xw.world (hI:E5 c w B ρ Sf X r) (hs:∀id,Fx (Sf id) w w') {b:Ep} {l:Hy} (h:Xw c w ρ r0 r b l):Xw c w' ρ r0 r b l:=by
 cases b with
 |root id st fx rows0=>exact h
 |none=>trivial
 |cell id p i k=>
  refine⟨h.1,fun rows stt fx hg=> ?_⟩
  obtain⟨h1,b,o,h2,h3⟩:=h.2 rows stt fx hg
  have hm:=(hI.mem hg).1
  obtain⟨b',o',cur,e,u',S1,S2,l1,l2,l3,l4,l5,l6,l7,_⟩:=H1.lens p hm h1
  obtain⟨rfl,rfl⟩:=Bb.unique p l1 h2
  exact⟨h1,b',o',Bb.same (S:=Sf id) p hm (hs id) l1,by rw[Et (hs id b' (l6.right l7))];exact h3⟩
theorem En.world (hI:E5 c w B ρ Sf X r) (hs:∀id,Fx (Sf id) w w'):∀{bs:List Ep} {ls:List Hy},En c w ρ r0 r bs ls→En c w' ρ r0 r bs ls
 | [],ls,h=>h
 |b::bs,ls,h=>by
  simp only[En]at h ⊢
  obtain⟨l,ls',h1,h2,h3⟩:=h
  exact⟨l,ls',h1,h2.world hI hs,h3.world hI hs⟩
theorem A2S {ids:List Id} {id:Id} {rows:Rows} {st:Nat} {fx:Bool} (h:Chg ids r0 r) (ht:Au r id) {rows1:Rows} {stt1:Nat} {fx1:Bool} (h1:Ac r0 id= .mem rows1 stt1 fx1) (hl:rows.map (·.length)=rows1.map (·.length)) (hs:stt1<st):Chg ids r0 (C3 r id (.mem rows st fx)):=by
 intro id' rows2 stt2 fx2 hg ht0
 by_cases e:id=id'
 ·subst e
  rw[AR ht]at hg
  cases hg
  exact⟨rows1,stt1,fx1,h1,hl, .inl hs⟩
 ·rw[AX e]at hg
  exact h id' rows2 stt2 fx2 hg ht0
theorem RL {α:Type} {call:Ai} {d:Nat} {x:α×R} {m:M α} {Y:Nat→Prop} {ids:List Id}:∀{bs:List Ep} {ls:List Hy} {os:List (Option Rows)} {Sf:Id→Nat→Prop} {Sa:Nat→Prop} {r:R},(FC bs os m).run call d r=some x→E5 c w B ρ Sf (fun b=>Y b∨Sa b) r→BT w B ls os Sa→
  En c w ρ r0 r bs ls→Da (Bf bs)=true→(∀b,Y b→¬Sa b)→Chg ids r0 r→(∀t,(r.getD t []).length=(r0.getD t []).length)→r.length=r0.length→
  ∃Sf' r',m.run call d r'=some x∧E5 c w B ρ Sf' Y r'∧Chg ids r0 r'∧(∀t,(r'.getD t []).length=(r0.getD t []).length)∧r'.length=r0.length
 | [],ls,os,Sf,Sa,r,hrun,hI,ha,hb,hn,hd,hc,hl,hz=>by
  simp only[En]at hb
  subst hb
  simp only[BT]at ha
  obtain⟨rfl,he⟩:=ha
  simp only[FC]at hrun
  exact⟨Sf,r,hrun,hI.congrX (fun b=>⟨fun h=>h.resolve_right (he b), .inl⟩),hc,hl,hz⟩
 |bk::bs,ls0,os0,Sf,Sa,r,hrun,hI,ha,hb,hn,hd,hc,hl,hz=>by
  simp only[En]at hb
  obtain⟨l,ls,rfl,hb1,hb2⟩:=hb
  simp only[BT]at ha
  obtain⟨ov,os,S1,S2,rfl,ha1,ha2,hsp⟩:=ha
  have skip:Emp S1→Da (Bf bs)=true→(FC bs os m).run call d r=some x→∃Sf' r',m.run call d r'=some x∧E5 c w B ρ Sf' Y r'∧Chg ids r0 r'∧(∀t,(r'.getD t []).length=(r0.getD t []).length)∧r'.length=r0.length:=by
   intro he hn' hrun
   exact RL hrun (hI.congrX (fun b=>⟨fun h=>h.imp (fun h=>h) (fun h=>((hsp.1 b).1 h).resolve_left (he b)),fun h=>h.imp (fun h=>h) (fun h=>hsp.right h)⟩)) ha2 hb2 hn' (fun b hy h=>hd b hy (hsp.right h)) hc hl hz
  cases bk with
  |none=>
   simp only[FC]at hrun
   have hI':=hI
   cases ov with
   |none=>exact skip ha1 hn hrun
   |some rows=>
    refine RL (Sf:=Sf) hrun ?_ ha2 hb2 hn (fun b hy h=>hd b hy (hsp.right h)) hc hl hz
    exact hI.world (fun _ _ _=>rfl) (Nat.le_refl _) rfl rfl rfl (fun _ h=>h) (fun _ h=> .inl h) hI.inB (fun b h=> .inl (h.imp (fun h=>h) (fun h=>hsp.right h))) (fun b h=>hI.inX b (h.imp (fun h=>h) (fun h=>hsp.right h))) (fun b h=>hI.xb b (h.imp (fun h=>h) (fun h=>hsp.right h)))
  |root id st fx rows0=>
   have hn2:Da (Bf bs)=true∧id∉Bf bs:=by
    simp only[Bf,Da,bz,Bool.not_eq_true']at hn
    exact⟨hn.2,by simpa using hn.1⟩
   obtain⟨hl1,ht0,⟨rows1,stt1,fx1,e1,e2,e3⟩,hfx⟩:=hb1
   have hth:Au r id:=by unfold Au;rw[hl];exact ht0
   simp only[FC,M.run]at hrun
   split at hrun
   ·rename_i he
    cases ov with
    |none=>exact skip ha1 hn2.1 hrun
    |some rows=>
     simp only at hrun
     split at hrun
     ·rename_i hlen
      simp only[M.run]at hrun
      obtain⟨ha3,ha4⟩:=ha1
      rw[hl1]at ha3 ha4
      have hput:=hI.put (id0:=id) hth (rows':=rows) (stt':=st+1) (fx':=fx) (S':=S1) (X':=fun b=>Y b∨S2 b) ha3 (fun b hb=> .inl (.inr (hsp.left hb))) (fun b hb=>hb.imp (fun h=>h) (fun h=>hsp.right h))
       (fun b hb hb'=>by
         rcases hb with h|h
         ·exact hd b h (hsp.left hb')
         ·exact hsp.2 b hb' h) (fun h=>⟨(hfx h).1,by rw[cZ hlen];exact(hfx h).2⟩)
      refine RL hrun hput ha2 (hb2.keep fun j hj=> .inl (AX (fun e:id=j=>hn2.2 (e▸hj)) _)) hn2.1 (fun b hy h=>hd b hy (hsp.right h)) (A2S hc hth e1 (by rw[hlen,e2]) (by omega)) (fun t=>by rw[Xu];exact hl t) (by rw[Bu];exact hz)
     ·simp[M.run]at hrun
   ·simp[M.run]at hrun
  |cell id p i k=>
   have hn2:Da (Bf bs)=true∧id∉Bf bs:=by
    simp only[Bf,Da,bz,Bool.not_eq_true']at hn
    exact⟨hn.2,by simpa using hn.1⟩
   obtain⟨ht0,hb3⟩:=hb1
   have hth:Au r id:=by unfold Au;rw[hl];exact ht0
   simp only[FC,M.run]at hrun
   split at hrun
   ·rename_i rows stt fx he
    cases ov with
    |none=>exact skip ha1 hn2.1 hrun
    |some rs=>
     simp only[M.run]at hrun
     obtain⟨ha3,ha4⟩:=ha1
     obtain⟨g1,b,o',g2,g3⟩:=hb3 rows stt fx he
     obtain⟨hm,hfx⟩:=hI.mem he
     obtain⟨b',k',cur,e,u,T1,T2,l1,l2,l3,l4,l5,l6,l7,l8⟩:=H1.lens p hm g1
     obtain⟨rfl,rfl⟩:=Bb.unique p l1 g2
     rw[l2.cell _,l3]at g3
     simp only[oi]at g3
     have hown:=l8 w B (.sl true rs) u S1 (fun _ h=>h) (fun _ _=>rfl) (fun _ _ _=>rfl) (by rw[cT l3];exact l2) l4 (FM.2 ⟨_,_,by rw[ha4];exact g3,ha3⟩) (fun b hb hb'=>hI.xd id b (.inr (hsp.left hb)) (l6.right hb'))
     have hput:=hI.put (id0:=id) hth (rows':=Bn rows p i k (.sl true rs)) (stt':=stt+1) (fx':=fx) (X':=fun b=>Y b∨S2 b) hown (fun b hb=>hb.imp (fun h=> .inr (hsp.left h)) (fun h=>l6.right h)) (fun b hb=>hb.imp (fun h=>h) (fun h=>hsp.right h))
      (fun b hb hb'=>by
        rcases hb' with h'|h'
        ·rcases hb with h|h
         ·exact hd b h (hsp.left h')
         ·exact hsp.2 b h' h
        ·exact hI.xd id b (hb.imp (fun h=>h) (fun h=>hsp.right h)) (l6.right h')) (fun h=>⟨(hfx h).1,by rw[BZ];exact(hfx h).2⟩)
     exact RL hrun hput ha2 (hb2.keep fun j hj=> .inl (AX (fun e:id=j=>hn2.2 (e▸hj)) _)) hn2.1 (fun b hy h=>hd b hy (hsp.right h)) (by have:=zf (extra:=[]) (fx':=fx) (by simp) hc he (pl rows p i k (.sl true rs)) (Nat.lt_succ_self stt);rwa [List.append_nil]at this) (fun t=>by rw[Xu];exact hl t) (by rw[Bu];exact hz)
   ·simp[M.run]at hrun
end
end TT
namespace TT
open Go
mutual
theorem Fb.reB {w:World} {B B':Nat→Prop}:∀{t:T} {u:Value} {S:Nat→Prop},allOwn t=true→Fb w B t u S→Fb w B' t u S
 | .v x,u,S,_,h=>by simpa only[Fb] using h
 | .hole,u,S,_,h=>by simpa only[Fb] using h
 | .sl false rows,u,S,ha,h=>by simp[allOwn]at ha
 | .sl true rows,u,S,ha,h=>by
  simp only[allOwn,Bool.true_and]at ha
  simp only[Fb]at h ⊢
  obtain⟨q,cap,h1,h2⟩:=h
  refine⟨q,cap,h1, ?_⟩
  rcases h2 with h2|⟨b,sz,e,cur,S',h3,h4,h5,h6,h7,h8,h9,h10⟩
  ·exact .inl h2
  ·exact .inr ⟨b,sz,e,cur,S',h3,h4,h5,h6,h7,h8,h9,Cf.reB ha h10⟩
theorem Ng.reB {w:World} {B B':Nat→Prop}:∀{ts:List T} {b o:Nat} {S:Nat→Prop},De ts=true→Ng w B b o ts S→Ng w B' b o ts S
 | [],b,o,S,_,h=>by simpa only[Ng] using h
 |t::ts,b,o,S,ha,h=>by
  simp only[De,bz]at ha
  simp only[Ng]at h ⊢
  obtain⟨u,S1,S2,h1,h2,h3,h4,h5⟩:=h
  exact⟨u,S1,S2,h1,h2,Fb.reB ha.1 h3,Ng.reB ha.2 h4,h5⟩
theorem Cf.reB {w:World} {B B':Nat→Prop}:∀{rs:List (List T)} {b o sz:Nat} {S:Nat→Prop},Bc rs=true→Cf w B b o sz rs S→Cf w B' b o sz rs S
 | [],b,o,sz,S,_,h=>by simpa only[Cf] using h
 |t::ts,b,o,sz,S,ha,h=>by
  simp only[Bc,bz]at ha
  simp only[Cf]at h ⊢
  obtain⟨S1,S2,h1,h2,h3,h4⟩:=h
  exact⟨S1,S2,h1,Ng.reB ha.1 h2,Cf.reB ha.2 h3,h4⟩
end
theorem H1.reB {w:World} {B B':Nat→Prop} {q:Option Addr} {cap:Nat} {rows:Rows} {S:Nat→Prop} (ha:Bc rows=true) (h:H1 w B q cap rows S):H1 w B' q cap rows S:=by
 rcases h with h|⟨b,sz,e,cur,S',h3,h4,h5,h6,h7,h8,h9,h10⟩
 ·exact .inl h
 ·exact .inr ⟨b,sz,e,cur,S',h3,h4,h5,h6,h7,h8,h9,Cf.reB ha h10⟩
theorem CS.reB {w:World} {B B':Nat→Prop}:∀{ts:List T} {us:List Value} {S:Nat→Prop},De ts=true→CS w B ts us S→CS w B' ts us S
 | [],us,S,_,h=>by simpa only[CS] using h
 |t::ts,us,S,ha,h=>by
  simp only[De,bz]at ha
  simp only[CS]at h ⊢
  obtain⟨u,us',S1,S2,h1,h2,h3,h4,h5⟩:=h
  exact⟨u,us',S1,S2,h1,h2,Fb.reB ha.1 h3,CS.reB ha.2 h4,h5⟩
theorem Vr.reB {w:World} {B B':Nat→Prop} {v:RV} {u:Value} {S:Nat→Prop} (ha:v.allOwn=true) (h:Vr w B v u S):Vr w B' v u S:=by
 cases v with
 |t c=>exact⟨Fb.reB ha h.1,h.2⟩
 |agg cs=>obtain⟨us,h1,h2⟩:=h;exact⟨us,h1,CS.reB ha h2⟩
 |box cs=>obtain⟨b,cap,h1,h2⟩:=h;exact⟨b,cap,h1,H1.reB (by simpa [Bc,RV.allOwn] using ha) h2⟩
theorem Eu.reB {w:World} {B B':Nat→Prop}:∀{vs:List RV} {us:List Value} {S:Nat→Prop},vs.all RV.allOwn=true→Eu w B vs us S→Eu w B' vs us S
 | [],us,S,_,h=>by simpa only[Eu] using h
 |v::vs,us,S,ha,h=>by
  simp only[List.all_cons,bz]at ha
  simp only[Eu]at h ⊢
  obtain⟨u,us',S1,S2,h1,h2,h3,h4⟩:=h
  exact⟨u,us',S1,S2,h1,h2.reB ha.1,Eu.reB ha.2 h3,h4⟩
theorem BT.reB {w:World} {B B':Nat→Prop}:∀{ls:List Hy} {os:List (Option Rows)} {S:Nat→Prop},(os.all fun o=>match o with|some rows=>Bc rows|none=>true)=true→BT w B ls os S→BT w B' ls os S
 | [],os,S,_,h=>by simpa only[BT] using h
 |l::ls,os,S,ha,h=>by
  simp only[BT]at h ⊢
  obtain⟨ov,os',S1,S2,rfl,h2,h3,h4⟩:=h
  simp only[List.all_cons,bz]at ha
  refine⟨ov,os',S1,S2,rfl, ?_,BT.reB ha.2 h3,h4⟩
  cases ov with
  |none=>exact h2
  |some rows=>exact⟨H1.reB ha.1 h2.1,h2.2⟩
theorem Vr.inHeap {w:World} {B:Nat→Prop} {v:RV} {u:Value} {S:Nat→Prop} (h:Vr w B v u S):WT w S:=by
 cases v with
 |t c=>exact Fb.inHeap h.1
 |agg cs=>obtain⟨us,h1,h2⟩:=h;exact CS.inHeap h2
 |box cs=>obtain⟨b,cap,h1,h2⟩:=h;exact H1.inHeap h2
theorem Eu.inHeap {w:World} {B:Nat→Prop}:∀{vs:List RV} {us:List Value} {S:Nat→Prop},Eu w B vs us S→WT w S
 | [],us,S,h=>by simp only[Eu]at h;exact fun b hb=>absurd hb (h.2 b)
 |v::vs,us,S,h=>by
  simp only[Eu]at h
  obtain⟨u,us',S1,S2,h1,h2,h3,h4⟩:=h
  intro b hb
  rcases(h4.1 b).1 hb with hb|hb
  ·exact h2.inHeap b hb
  ·exact Eu.inHeap h3 b hb
theorem BT.inHeap {w:World} {B:Nat→Prop}:∀{ls:List Hy} {os:List (Option Rows)} {S:Nat→Prop},BT w B ls os S→WT w S
 | [],os,S,h=>by simp only[BT]at h;exact fun b hb=>absurd hb (h.2 b)
 |l::ls,os,S,h=>by
  simp only[BT]at h
  obtain⟨ov,os',S1,S2,rfl,h2,h3,h4⟩:=h
  intro b hb
  rcases(h4.1 b).1 hb with hb|hb
  ·cases ov with
   |none=>exact absurd hb (h2 b)
   |some rows=>exact H1.inHeap h2.1 b hb
  ·exact BT.inHeap h3 b hb
def Ck (w:World) (B:Nat→Prop):List FA→List HG→(Nat→Prop)→Prop
 | [],locs,S=>locs=[]∧Emp S
 |e::es,locs,S=>∃rows l locs' S1 S2,e= .mem rows 0 false∧locs=l::locs'∧H1 w B l.1 l.2 rows S1∧Ck w B es locs' S2∧BK S S1 S2
theorem Ck.length {w:World} {B:Nat→Prop}:∀{es:List FA} {locs:List HG} {S:Nat→Prop},Ck w B es locs S→locs.length=es.length
 | [],locs,S,h=>by simp only[Ck]at h;simp[h.1]
 |e::es,locs,S,h=>by
  simp only[Ck]at h
  obtain⟨rows,l,locs',S1,S2,_,rfl,_,h2,_⟩:=h
  simp[Ck.length h2]
theorem Ck.append {w:World} {B:Nat→Prop}:∀{es es':List FA} {locs locs':List HG} {S S':Nat→Prop},Ck w B es locs S→Ck w B es' locs' S'→(∀b,S b→¬S' b)→Ck w B (es++es') (locs++locs') (fun b=>S b∨S' b)
 | [],es',locs,locs',S,S',h,h',hd=>by
  simp only[Ck]at h
  obtain⟨rfl,he⟩:=h
  have:(fun b=>S b∨S' b)=S':=funext fun b=>propext ⟨fun h=>h.resolve_left (he b), .inr⟩
  rw[this];exact h'
 |e::es,es',locs,locs',S,S',h,h',hd=>by
  simp only[Ck]at h
  obtain⟨rows,l,locs1,S1,S2,rfl,rfl,h1,h2,h3⟩:=h
  simp only[List.cons_append,Ck]
  refine⟨rows,l,locs1++locs',S1,_,rfl,rfl,h1,Ck.append h2 h' (fun b hb=>hd b (h3.right hb)),⟨fun b=> ?_,fun b hb hb'=> ?_⟩⟩
  ·show(S b∨S' b)↔_
   rw[h3.1];exact or_assoc
  ·rcases hb' with h|h
   ·exact h3.2 b hb h
   ·exact hd b (h3.left hb) h
theorem Ck.parts {w:World} {B:Nat→Prop}:∀{es:List FA} {locs:List HG} {S:Nat→Prop},Ck w B es locs S→∃part:Nat→Nat→Prop,
  (∀(j:Nat) e,es[j]? =some e→∃rows l,e= .mem rows 0 false∧locs[j]? =some l∧H1 w B l.1 l.2 rows (part j))∧(∀j j' b,part j b→part j' b→j=j')∧(∀j b,part j b→S b)∧(∀j,es.length≤j→Emp (part j))
 | [],locs,S,h=>⟨fun _ _=>False,fun j e h=>by simp at h,fun _ _ _ h=>h.elim,fun _ _ h=>h.elim,fun _ _ _ h=>h⟩
 |e::es,locs,S,h=>by
  simp only[Ck]at h
  obtain⟨rows,l,locs1,S1,S2,rfl,rfl,h1,h2,h3⟩:=h
  obtain⟨part,p1,p2,p3,p4⟩:=Ck.parts h2
  refine⟨fun j=>match j with|0=>S1|j+1=>part j, ?_, ?_, ?_, ?_⟩
  ·intro j e hj
   cases j with
   |zero=>simp at hj;subst hj;exact⟨rows,l,rfl,by simp,h1⟩
   |succ j=>obtain⟨rows',l',g1,g2,g3⟩:=p1 j e (by simpa using hj);exact⟨rows',l',g1,by simpa using g2,g3⟩
  ·intro j j' b hj hj'
   cases j with
   |zero=>cases j' with
    |zero=>rfl
    |succ j'=>exact absurd (p3 j' b hj') (h3.2 b hj)
   |succ j=>cases j' with
    |zero=>exact absurd (p3 j b hj) (h3.2 b hj')
    |succ j'=>rw[p2 j j' b hj hj']
  ·intro j b hj
   cases j with
   |zero=>exact h3.left hj
   |succ j=>exact h3.right (p3 j b hj)
  ·intro j hj
   cases j with
   |zero=>simp at hj
   |succ j=>exact p4 j (by simpa using hj)
section
variable {P:Program} {c:Ctx} {w w':World} {B B' B2:Nat→Prop} {ρ ρ':Id→HG} {Sf:Id→Nat→Prop} {X:Nat→Prop} {r r' r0:R} {a:Act} {o:Oper} {id0:Id}
def Rm (d k:Nat) (es:List FA) (locs:List HG) (ρ':Id→HG) (r':R):Prop:=(∀(j:Nat) l,locs[j]? =some l→ρ' (d,k+j)=l)∧(∀(j:Nat) e,es[j]? =some e→Ac r' (d,k+j)=e∧Au r' (d,k+j))
theorem Rm.left {d k:Nat} {es es':List FA} {locs locs':List HG} (h:Rm d k (es++es') (locs++locs') ρ' r'):Rm d k es locs ρ' r':=
 ⟨fun j l hj=>h.1 j l (by rw[List.getElem?_append_left (List.getElem?_eq_some_iff.1 hj).1];exact hj),fun j l hj=>h.2 j l (by rw[List.getElem?_append_left (List.getElem?_eq_some_iff.1 hj).1];exact hj)⟩
theorem Rm.right {d k:Nat} {es es':List FA} {locs locs':List HG} (hl:locs.length=es.length) (h:Rm d k (es++es') (locs++locs') ρ' r'):Rm d (k+es.length) es' locs' ρ' r':=
 ⟨fun j l hj=>by have:=h.1 (es.length+j) l (by rw[List.getElem?_append_right (by omega),hl,Nat.add_sub_cancel_left];exact hj);rwa [←Nat.add_assoc]at this,
  fun j l hj=>by have:=h.2 (es.length+j) l (by rw[List.getElem?_append_right (by omega),Nat.add_sub_cancel_left];exact hj);rwa [←Nat.add_assoc]at this⟩
def pn (w:World) (B:Nat→Prop) (d k:Nat) (v:V) (es:List FA) (u:Value) (S:Nat→Prop):Prop:=
 ∃locs SO SF,Ck w B es locs SO∧BK S SO SF∧∀B' ρ' r',(∀b,B b→B' b)→(∀b,SF b→B' b)→Rm d k es locs ρ' r'→A6 w B' ρ' r' v u
def rF (w:World) (B:Nat→Prop) (d k:Nat) (vs:List V) (es:List FA) (us:List Value) (S:Nat→Prop):Prop:=
 ∃locs SO SF,Ck w B es locs SO∧BK S SO SF∧∀B' ρ' r',(∀b,B b→B' b)→(∀b,SF b→B' b)→Rm d k es locs ρ' r'→AJ w B' ρ' r' vs us
theorem pn.join {d k:Nat} {v:V} {vs:List V} {es es':List FA} {u:Value} {us:List Value} {S S1 S2:Nat→Prop} (h:pn w B d k v es u S1) (h':rF w B d (k+es.length) vs es' us S2) (hs:BK S S1 S2):rF w B d k (v::vs) (es++es') (u::us) S:=by
 obtain⟨l1,O1,F1,g1,g2,g3⟩:=h
 obtain⟨l2,O2,F2,k1,k2,k3⟩:=h'
 refine⟨l1++l2,fun b=>O1 b∨O2 b,fun b=>F1 b∨F2 b,g1.append k1 (fun b h h'=>hs.2 b (g2.left h) (k2.left h')),⟨fun b=> ?_,fun b hb hb'=> ?_⟩,fun B' ρ' r' hB hF hp=> ?_⟩
 ·rw[hs.1,g2.1,k2.1]
  constructor
  ·rintro ((h|h)|(h|h))
   ·exact .inl (.inl h)
   ·exact .inr (.inl h)
   ·exact .inl (.inr h)
   ·exact .inr (.inr h)
  ·rintro ((h|h)|(h|h))
   ·exact .inl (.inl h)
   ·exact .inr (.inl h)
   ·exact .inl (.inr h)
   ·exact .inr (.inr h)
 ·rcases hb with h|h<;>rcases hb' with h'|h'
  ·exact g2.2 b h h'
  ·exact hs.2 b (g2.left h) (k2.right h')
  ·exact hs.2 b (g2.right h') (k2.left h)
  ·exact k2.2 b h h'
 ·simp only[AJ]
  exact⟨u,us,rfl,g3 B' ρ' r' hB (fun b h=>hF b (.inl h)) hp.left,k3 B' ρ' r' hB (fun b h=>hF b (.inr h)) (hp.right g1.length)⟩
theorem zg {d k:Nat} {own:Bool} {t:T} {u:Value} {S:Nat→Prop} (h:Fb w B t u S) (h1:u.oneCell'=true):pn w B d k (Vh d own k t).1 (Vh d own k t).2 u S:=by
 cases t with
 |v x=>
  simp only[Fb]at h
  refine⟨[],fun _=>False,S,⟨rfl,fun _ h=>h⟩,BK.of_emp_left (fun _ h=>h),fun B' ρ' r' hB hF hp=> ?_⟩
  simp only[Vh,A6,EV];exact⟨h.1,h1⟩
 |hole=>
  refine⟨[],fun _=>False,S,⟨rfl,fun _ h=>h⟩,BK.of_emp_left (fun _ h=>h),fun B' ρ' r' hB hF hp=> ?_⟩
  simp only[Vh,A6]
 |pp _=>
  refine⟨[],fun _=>False,S,⟨rfl,fun _ h=>h⟩,BK.of_emp_left (fun _ h=>h),fun B' ρ' r' hB hF hp=> ?_⟩
  simp only[Vh,A6]
 |fn _ _=>
  refine⟨[],fun _=>False,S,⟨rfl,fun _ h=>h⟩,BK.of_emp_left (fun _ h=>h),fun B' ρ' r' hB hF hp=> ?_⟩
  simp only[Vh,A6]
 |sl ow rows=>
  cases hc:own&&ow with
  |true=>
   simp only[bz]at hc
   obtain⟨rfl,rfl⟩:=hc
   obtain⟨q,cap,rfl,hs⟩:=FM.1 h
   simp only[Vh,Bool.and_self,if_true]
   refine⟨[(q,cap)],S,fun _=>False, ?_,(BK.of_emp_left (fun _ h=>h)).comm,fun B' ρ' r' hB hF hp=> ?_⟩
   ·simp only[Ck]
    exact⟨rows,(q,cap),[],S,fun _=>False,rfl,rfl,hs,⟨rfl,fun _ h=>h⟩,(BK.of_emp_left (fun _ h=>h)).comm⟩
   ·obtain⟨e1,e2⟩:=hp.2 0 _ rfl
    have e3:=hp.1 0 _ rfl
    rw[Nat.add_zero]at e1 e2 e3
    simp only[A6]
    refine⟨e2,⟨q,cap,rfl, ?_,hs.capLe⟩, ?_⟩
    ·rcases hs with ⟨_,f1,f2,_⟩|⟨_,_,_,_,_,_,_,f3,_⟩
     ·simp[f2]
     ·exact f3.1
    ·intro rows' stt fx hg
     rw[e1]at hg;cases hg
     exact⟨Nat.le_refl _,fun _=>by rw[e3]⟩
  |false=>
   have he:Vh d own k (.sl ow rows)=(.t (.sl false (Az rows)),[]):=by simp only[Vh,hc];rfl
   rw[he]
   refine⟨[],fun _=>False,S,⟨rfl,fun _ h=>h⟩,BK.of_emp_left (fun _ h=>h),fun B' ρ' r' hB hF hp=> ?_⟩
   have hf:=Fb.frz (B:=B) (B':=B') hB hF h
   simp only[TT.frz]at hf
   simp only[A6];exact⟨hf,h1⟩
theorem zh {d:Nat} {own:Bool}:∀{ts:List T} {us:List Value} {S:Nat→Prop} {k:Nat},CS w B ts us S→rF w B d k (jo d own k ts).1 (jo d own k ts).2 us S
 | [],us,S,k,h=>by
  simp only[CS]at h
  refine⟨[],fun _=>False,S,⟨rfl,fun _ h=>h⟩,BK.of_emp_left (fun _ h=>h),fun B' ρ' r' hB hF hp=> ?_⟩
  simp only[jo,AJ];exact h.1
 |t::ts,us,S,k,h=>by
  simp only[CS]at h
  obtain⟨u,us',S1,S2,rfl,h1,h2,h3,h4⟩:=h
  exact pn.join (zg h2 h1) (zh h3) h4
theorem A2T {d k:Nat} {own:Bool} {v:RV} {u:Value} {S:Nat→Prop} (h:Vr w B v u S):pn w B d k (RG d own k v).1 (RG d own k v).2 u S:=by
 cases v with
 |t c=>exact zg h.1 h.2
 |agg cs=>
  obtain⟨us,rfl,h⟩:=h
  obtain⟨locs,SO,SF,g1,g2,g3⟩:=zh (d:=d) (k:=k) (own:=own) h
  refine⟨locs,SO,SF,g1,g2,fun B' ρ' r' hB hF hp=> ?_⟩
  simp only[RG,A6]
  exact⟨us,rfl,g3 B' ρ' r' hB hF hp⟩
 |box cells=>
  obtain⟨b,cap,rfl,h⟩:=h
  refine⟨[(some ⟨b,0,none⟩,cap)],S,fun _=>False, ?_,(BK.of_emp_left (fun _ h=>h)).comm,fun B' ρ' r' hB hF hp=> ?_⟩
  ·simp only[RG,Ck]
   exact⟨[cells],(some ⟨b,0,none⟩,cap),[],S,fun _=>False,rfl,rfl,h,⟨rfl,fun _ h=>h⟩,(BK.of_emp_left (fun _ h=>h)).comm⟩
  ·obtain⟨e1,e2⟩:=hp.2 0 _ rfl
   have e3:=hp.1 0 _ rfl
   rw[Nat.add_zero]at e1 e2 e3
   simp only[RG,A6]
   refine⟨e2,_,rfl, ?_⟩
   intro rows' stt fx hg
   rw[e1]at hg;cases hg
   refine⟨fun _=>by simp,fun h=>absurd rfl h,fun _ _=>⟨fun h=>absurd rfl h,fun row' hr' hl=>⟨b,0,⟨by rw[e3],row',by simpa [D5] using hr',hl,by omega⟩,rfl⟩⟩⟩
theorem po {d:Nat}:∀{vs:List RV} {us:List Value} {S:Nat→Prop} {k:Nat} {own:List Bool},Eu w B vs us S→rF w B d k (J6 d k own vs).1 (J6 d k own vs).2 us S
 | [],us,S,k,own,h=>by
  simp only[Eu]at h
  refine⟨[],fun _=>False,S,by cases own<;>exact⟨rfl,fun _ h=>h⟩,BK.of_emp_left (fun _ h=>h),fun B' ρ' r' hB hF hp=> ?_⟩
  simp only[J6,AJ];exact h.1
 |v::vs,us,S,k,own,h=>by
  simp only[Eu]at h
  obtain⟨u,us',S1,S2,rfl,h1,h2,h3⟩:=h
  simp only[J6]
  exact pn.join (A2T h1) (po h2) h3
theorem zi {vs:List V} {us:List Value} (h:AJ w B ρ r vs us):A6 w B ρ r (Ub vs) (kD us):=by
 match vs with
 | []=>simp only[AJ]at h;subst h;simp only[Ub,kD,A6];exact⟨_,rfl,by simp[AJ]⟩
 | [v]=>simp only[AJ]at h;obtain⟨u,us',rfl,h1,rfl⟩:=h;exact h1
 |v::v'::vs=>
  have h0:=h
  simp only[AJ]at h
  obtain⟨u,us',rfl,h1,u',us2,rfl,h2,h3⟩:=h
  simp only[Ub,kD,A6]
  exact⟨_,rfl,by simpa using h0⟩
end
end TT
namespace TT
open Go
section
variable {P:Program} {c:Ctx} {w w':World} {B B' B2:Nat→Prop} {ρ ρ':Id→HG} {Sf:Id→Nat→Prop} {X:Nat→Prop} {r r' r0:R} {a:Act} {o:Oper} {id0:Id}
theorem E5.news (hI:E5 c w B ρ Sf X r) {d:Nat} {es:List FA} {locs:List HG} {SO:Nat→Prop} (hd:d<r.length) (hr:r.getD d []=[]) (he:Ck w B es locs SO) (hS:∀b,SO b→X b):
  ∃ρ' Sf',E5 c w B ρ' Sf' (fun _=>False) (r.set d es)∧(∀v u,A6 w B ρ r v u→A6 w B ρ' (r.set d es) v u)∧Rm d 0 es locs ρ' (r.set d es):=by
 obtain⟨part,p1,p2,p3,p4⟩:=he.parts
 let ρ':Id→HG:=fun id=>if id.1=d then locs.getD id.2 default else ρ id
 let Sf':Id→Nat→Prop:=fun id b=>if id.1=d then part id.2 b else Sf id b
 have hρ:∀id:Id,id.1≠d→ρ' id=ρ id:=fun id h=>if_neg h
 have hclaims:∀v u,A6 w B ρ r v u→A6 w B ρ' (r.set d es) v u:=fun v u h=>bM hd hr hρ h
 have hsub:∀id b,Sf' id b→(id.1=d∧part id.2 b)∨(id.1≠d∧Sf id b):=by
  intro id b h
  by_cases e1:id.1=d
  ·exact .inl ⟨e1,by simpa only[Sf',if_pos e1] using h⟩
  ·exact .inr ⟨e1,by simpa only[Sf',if_neg e1] using h⟩
 have hX:∀j b,part j b→X b:=fun j b h=>hS b (p3 j b h)
 refine⟨ρ',Sf', ?_,hclaims, ?_, ?_⟩
 ·constructor
  ·intro id
   rw[RH hd hr]
   by_cases e1:id.1=d
   ·rw[if_pos e1]
    have hS':Sf' id=part id.2:=funext fun b=>by simp only[Sf',if_pos e1]
    rw[hS']
    cases hj:es[id.2]? with
    |none=>
     have:es.getD id.2 .dead= .dead:=by simp[List.getD,hj]
     rw[this]
     exact p4 id.2 (List.getElem?_eq_none_iff.1 hj)
    |some e=>
     have:es.getD id.2 .dead=e:=by simp[List.getD,hj]
     rw[this]
     obtain⟨rows,l,rfl,g2,g3⟩:=p1 id.2 e hj
     have hl:ρ' id=l:=by simp only[ρ',if_pos e1];simp[List.getD,g2]
     exact⟨by rw[hl];exact g3,fun h=>by cases h⟩
   ·rw[if_neg e1]
    have hS':Sf' id=Sf id:=funext fun b=>by simp only[Sf',if_neg e1]
    rw[hS']
    have h1:=hI.ents id
    cases hh:Ac r id with
    |dead=>rw[hh]at h1;exact h1
    |mem rows1 stt fx=>rw[hh]at h1;exact⟨by rw[hρ id e1];exact h1.1,fun h=>by rw[hρ id e1];exact h1.2 h⟩
  ·intro id id' b h h'
   rcases hsub id b h with ⟨a1,a2⟩|⟨a1,a2⟩<;>rcases hsub id' b h' with ⟨b1,b2⟩|⟨b1,b2⟩
   ·exact Prod.ext (a1.trans b1.symm) (p2 _ _ b a2 b2)
   ·exact absurd b2 (hI.xd id' b (hX _ b a2))
   ·exact absurd a2 (hI.xd id b (hX _ b b2))
   ·exact hI.disj id id' b a2 b2
  ·intro id b h
   rcases hsub id b h with ⟨a1,a2⟩|⟨a1,a2⟩
   ·exact hI.xb b (hX _ b a2)
   ·exact hI.nb id b a2
  ·exact fun b h=>h.elim
  ·exact fun id b h=>h.elim
  ·exact hI.inB
  ·exact fun b h=>h.elim
  ·intro id b h
   rcases hsub id b h with ⟨a1,a2⟩|⟨a1,a2⟩
   ·exact hI.ownX b (hX _ b a2)
   ·exact hI.own id b a2
  ·exact fun b h=>h.elim
  ·exact hI.old
  ·exact hI.sh
  ·exact hI.size
  ·exact hI.frame
  ·exact hI.os
  ·exact hI.tape
  ·exact hI.output
 ·intro j l hj
  simp only[ρ',if_true,Nat.zero_add]
  simp[List.getD,hj]
 ·intro j e hj
  rw[Nat.zero_add]
  refine⟨by rw[RH hd hr,if_pos rfl];simp[List.getD,hj],ef hd (List.getElem?_eq_some_iff.1 hj).1⟩
theorem GP.length : ∀ {pas:List PA} {us:List Value} {S:Nat→Prop} {ls:List Hy},GP w B ρ r pas us S ls→us.length=pas.length
 | [],us,S,ls,h=>by simp only[GP]at h;simp[h.1]
 |p::pas,us,S,ls,h=>by
  simp only[GP]at h
  obtain⟨u,us',S1,S2,l1,l2,rfl,_,h3,_⟩:=h
  simp[GP.length h3]
def uN (c:Ctx) (w:World) (B:Nat→Prop) (ρ:Id→HG) (r:R) (x:V×R):Ending→World→Prop
 | .returned v,w'=>∃B' ρ' Sf',E5 c w' B' ρ' Sf' (fun _=>False) x.2∧x.2.length=r.length∧(∀v u,A6 w B ρ r v u→A6 w' B' ρ' x.2 v u)∧A6 w' B' ρ' x.2 x.1 v
 |_,_=>False
theorem zj {call:Ai} (hS:EY c.G P call) (hI:E5 c w B ρ Sf (fun _=>False) r) {f:FuncId} {md:List Md} {own:List Bool} {args:List V} {us:List Value} {d:Nat} {x:V×R} (hargs:AJ w B ρ r args us)
  (hrun:(Xr d f md own args).run call d r=some x):NN P f=true∧Calls P f us.toArray w (uN c w B ρ r x):=by
 unfold Xr at hrun
 obtain⟨pas,bs,ls,S,B1,Sf1,r1,g1,g2,g3,g4,_⟩:=cf (r0:=r) args hrun hI hargs (Chg.refl r) (fun _=>rfl)
 dsimp only at g1
 have hnd:Da (Bf bs)=true:=by
  cases hh:Da (Bf bs)with
  |true=>rfl
  |false=>rw[hh]at g1;simp[M.run]at g1
 rw[hnd]at g1
 simp only[Bool.not_true,bf,if_false]at g1
 have hBO:=g4 hnd
 have hI1:E5 c w B1 ρ Sf1 S r1:=g2.inv.congrX (fun b=>by simp)
 let B2:Nat→Prop:=fun b=>B1 b∨(pas.any PA.reads=true∧∃id,Sf1 id b)
 obtain⟨as,k1,k2⟩:=gT (B2:=B2) g1 hI1 g3 (fun b h=> .inl h) (fun h id b hb=> .inr ⟨h,id,hb⟩)
 simp only[M.run]at k1
 obtain⟨res,k3,k4⟩:=Option.bind_eq_some_iff.1 k1
 have hSB2:∀b,S b→¬B2 b:=by
  rintro b hb (h|⟨_,id,h⟩)
  ·exact hI1.xb b hb h
  ·exact hI1.xd id b hb h
 have hB2h:∀b,B2 b→b<w.heap.size:=by
  rintro b (h|⟨_,id,h⟩)
  ·exact hI1.inB b h
  ·exact(hI1.ents id).inHeap b h
 have hcall:=(hS f as res k3).2 w B2 S us ls k2 hSB2 hB2h (c.G.mono hI1.tabs (fun b h=> .inl h) (fun _ _=>rfl))
 refine⟨(hS f as res k3).1,Calls.mono hcall ?_⟩
 intro e w2 hp
 cases e with
 |panicked ch=>exact hp
 |outgrown=>exact hp
 |returned v=>
  obtain⟨Bp,Sr,Sa,uss,D⟩:=hp
  have key:∃B3:Nat→Prop,(∀b,B1 b→B3 b)∧(∀b,B3 b→B1 b∨S b∨w.heap.size≤b)∧(∀b,B3 b→b<w2.heap.size)∧(∀b,B3 b→Bp b)∧Eu w2 B3 res.vals uss Sr∧BT w2 B3 ls res.after Sa∧
    ∀(m:M V),(if(pas.any PA.reads)&& !res.allOwn then M.fail else m).run call d r1=some x→m.run call d r1=some x:=by
   by_cases hrd:pas.any PA.reads=true
   ·cases hao:res.allOwn with
    |false=>rw[hrd,hao]at k4;simp[M.run]at k4
    |true=>
     have hao':=hao
     simp only[BD.allOwn,bz]at hao'
     refine⟨B1,fun b h=>h,fun b h=> .inl h,fun b h=>Nat.lt_of_lt_of_le (hI1.inB b h) D.size,fun b h=>D.old b (.inl h),D.vals.reB hao'.1,D.after.reB hao'.2,fun m hm=> ?_⟩
     simpa using hm
   ·have hrd':pas.any PA.reads=false:=by simpa using hrd
    refine⟨Bp,fun b h=>D.old b (.inl h),fun b h=> ?_,D.inB,fun b h=>h,D.vals,D.after,fun m hm=> ?_⟩
    ·rcases D.sh b h with (h|⟨h,_⟩)|h
     ·exact .inl h
     ·exact absurd h hrd
     ·exact .inr h
    ·rw[hrd']at hm;simpa using hm
  obtain⟨B3,b1,b2,b3,b4,hvals,hafter,hif⟩:=key
  have k5:=hif _ k4
  have hSf1:∀id,Fx (Sf1 id) w w2:=fun id b hb=>D.frame b ((hI1.ents id).inHeap b hb) (fun h=>hI1.xd id b h hb)
  have hI2:E5 c w2 B3 ρ Sf1 (fun b=>Sr b∨Sa b) r1:=hI1.world (fun b h h'=>D.frame b h h') D.size D.os D.tape D.output b1 b2 b3
   (fun b h=>h.elim (D.ownr b) (D.owna b)) (fun b h=>h.elim (fun h=>D.vals.inHeap b h) (fun h=>D.after.inHeap b h)) (fun b h hb=>h.elim (fun h=>D.nr b h (b4 b hb)) (fun h=>D.na b h (b4 b hb)))
  obtain⟨Sf2,r2,k6,hI3,hchg,hlen,hsz⟩:=RL k5 hI2 hafter (hBO.world hI1 hSf1) hnd D.dis (g2.chg _ (Chg.refl r)) g2.len g2.size
  have hBB:Fx B w w2:=fun b hb=>D.frame b (hI.inB b hb) (fun h=>hI1.xb b h (g2.Bl b hb))
  have hcl:∀v u,A6 w B ρ r v u→A6 w2 B3 ρ r2 v u:=fun v u hh=>xH hchg (fun id h=>by unfold Au;rw[hlen];exact h) (fun _ _=>rfl) (fun b h=>b1 b (g2.Bl b h)) hBB
   (fun id rows stt fx fx' hid e1 e2=>fun rows' stt' fx2 e3=>by
     rw[e1]at e3;cases e3
     refine⟨Sf id,(hI.mem e1).1,fun b hb=>D.frame b ((hI.ents id).inHeap b hb) (fun h=> ?_)⟩
     obtain⟨id',hi',hb'⟩:=g2.src b h
     have:=hI.disj id id' b hb hb'
     subst this
     exact hid (by simpa using hi')) hh
  obtain⟨locs,SO,SF,m1,m2,m3⟩:=po (d:=d) (k:=0) (own:=own) hvals
  have hI4:=hI3.share (Y:=SF) (X':=SO) (fun b h=>m2.right h) (fun b h=>m2.left h) (fun b h h'=>m2.2 b h h')
  have hcl4:∀v u,A6 w B ρ r v u→A6 w2 (fun b=>B3 b∨SF b) ρ r2 v u:=fun v u hh=>EI (fun _ h=> .inl h) (fun _ _=>rfl) (fun id=>Ky hI3 id) (hcl v u hh)
  have hm1:Ck w2 (fun b=>B3 b∨SF b) (J6 d 0 own res.vals).2 locs SO:=by
   have:∀{es:List FA} {locs:List HG} {S:Nat→Prop},Ck w2 B3 es locs S→Ck w2 (fun b=>B3 b∨SF b) es locs S:=by
    intro es
    induction es with
    |nil=>intro locs S h;exact h
    |cons e es ih=>
     intro locs S h
     simp only[Ck]at h ⊢
     obtain⟨rows,l,locs1,S1,S2,e1,e2,h1,h2,h3⟩:=h
     exact⟨rows,l,locs1,S1,S2,e1,e2,H1.mono (fun _ h=> .inl h) h1,ih h2,h3⟩
   exact this m1
  have hv:=D.val
  subst hv
  split at k6
  ·rename_i hemp
   simp only[M.run,oi]at k6
   subst k6
   have hes:(J6 d 0 own res.vals).2=[]:=by simpa using hemp
   rw[hes]at m1 m3
   simp only[Ck]at m1
   obtain⟨rfl,hSO⟩:=m1
   refine⟨fun b=>B3 b∨SF b,ρ,Sf2,hI4.congrX (fun b=>⟨fun h=>hSO b h,fun h=>h.elim⟩),hsz,hcl4, ?_⟩
   exact zi (m3 _ ρ r2 (fun _ h=> .inl h) (fun _ h=> .inr h) ⟨fun j l h=>by simp at h,fun j e h=>by simp at h⟩)
  ·obtain⟨hd,hr,k6⟩:=QJ k6
   simp only[M.run,oi]at k6
   subst k6
   obtain⟨ρ3,Sf3,n1,n2,n3⟩:=hI4.news hd hr hm1 (fun b h=>h)
   exact⟨_,ρ3,Sf3,n1,by rw[List.length_set];exact hsz,fun v u hh=>n2 v u (hcl4 v u hh),zi (m3 _ ρ3 _ (fun _ h=> .inl h) (fun _ h=> .inr h) n3)⟩
end
end TT
namespace TT
open Go
section
variable {P:Program} {c:Ctx} {w:World} {B:Nat→Prop} {ρ:Id→HG} {Sf:Id→Nat→Prop} {X:Nat→Prop} {r:R} {a:Act} {o:Oper} {s:List V}
theorem zk {t:TypeId} {n:Nat} {ag:Bool} (h:ldB P t n ag=true) {cs:List Value} {off:Nat} (hle:off+n≤cs.length):
  (part t cs.toArray off).run P w= .ok (KJ ag ((cs.drop off).take n)) w:=by
 unfold ldB at h
 unfold part
 rw[Sem.run_bind]
 have agg:ag=true→(match P.info? t with|some i=>i.size==n|none=>false)=true→((do pure (.agg (cs.toArray.extract off (off+(←sizeOf t))))):Sem Value).run P w= .ok (KJ ag ((cs.drop off).take n)) w:=by
  intro e1 e2
  subst e1
  cases hi:P.info? t with
  |none=>rw[hi]at e2;cases e2
  |some i=>
   rw[hi]at e2
   have e3:i.size=n:=by simpa using e2
   simp[Jb hi,e3,KJ,List.extract_eq_take_drop]
 have one:ag=false→n=1→((match cs.toArray[off]? with|some v=>pure v|none=>stuck "part: no such cell"):Sem Value).run P w= .ok (KJ ag ((cs.drop off).take n)) w:=by
  intro e1 e2
  subst e1 e2
  have hlt:off<cs.length:=by omega
  have h0:cs.toArray[off]? =some cs[off]:=by simp[hlt]
  rw[h0]
  simp only[KJ,bf,if_false]
  rw[List.drop_eq_getElem_cons hlt]
  rfl
 cases hd:P.underlying t with
 |none=>rw[hd]at h;cases h
 |some d=>
  rw[hd]at h
  rw[pg hd]
  simp only[Result.andThen_ok]
  cases d<;>simp only[bz,Bool.not_eq_true',beq_iff_eq]at h ⊢
  case struct=>exact agg h.1 h.2
  case array=>exact agg h.1 h.2
  all_goals exact one h.1 h.2
def A9N (P:Program) (t:TypeId) (f off n:Nat) (ag:Bool):Bool:=match P.underlying t with
 |some (.struct fs)=>(match fs[f]? with
  |some fd=>fd.offset==off&&ldB P fd.type n ag
  |none=>false)
 |_=>false
theorem A65 {t:TypeId} {y:Operand} {f off n:Nat} {ag:Bool} (h:o.op= .field t y f) (hb:A9N P t f off n ag=true) {us:Array Value} (hy:a.eval y= .agg us) (hle:off+n≤us.size):
  PY P o a w (KJ ag ((us.toList.drop off).take n)) w:=by
 refine Dx (s:=Instr.field t (.agg us) f) (by unfold execOp;rw[h];simp only[hy]) ?_
 unfold A9N at hb
 unfold Instr.field
 split at hb
 ·rename_i fs hu
  split at hb
  ·rename_i fd hf
   simp only[bz,beq_iff_eq]at hb
   obtain⟨rfl,h2⟩:=hb
   have:=zk (w:=w) h2 (cs:=us.toList) (off:=fd.offset) (by simpa using hle)
   simp only[Array.toArray_toList]at this
   simp[run_underlying hu,hf,asAgg,this]
  ·cases hb
 ·cases hb
theorem A9O {t:TypeId} {x i:Operand} {s:ByteArray} {k:IntKind} {n:Int} (h:o.op= .index t x i) (ht:P.underlying t=some .string) (hx:a.eval x= .string s) (hi:a.eval i= .int k n) (h0:0≤n) (h1:n.toNat<s.size):
  PY P o a w (.int .u8 (s[n.toNat]'h1).toNat) w:=by
 refine Dx (s:=Instr.index t (.string s) (.int k n)) (by unfold execOp;rw[h];simp only[hx,hi]) ?_
 have:s[n.toNat]? =some (s[n.toNat]'h1):=by rw[getElem?_pos]
 simp[Instr.index,asIntOf,run_underlying ht,h0,this]
def A9P (P:Program) (t:TypeId) (sz len:Nat) (ag:Bool):Bool:=match P.underlying t with
 |some (.array n e)=>n==len&&(match P.info? e with|some i=>i.size==sz|none=>false)&&ldB P e sz ag
 |_=>false
theorem A66 {t:TypeId} {x i:Operand} {sz len:Nat} {ag:Bool} {us:Array Value} {k:IntKind} {n:Int} (h:o.op= .index t x i) (hb:A9P P t sz len ag=true) (hx:a.eval x= .agg us) (hi:a.eval i= .int k n) (h0:0≤n) (h1:n<len) (hl:us.size=len*sz):
  PY P o a w (KJ ag ((us.toList.drop (n.toNat*sz)).take sz)) w:=by
 refine Dx (s:=Instr.index t (.agg us) (.int k n)) (by unfold execOp;rw[h];simp only[hx,hi]) ?_
 unfold A9P at hb
 split at hb
 ·rename_i m e hu
  simp only[bz,beq_iff_eq]at hb
  obtain⟨⟨rfl,h2⟩,h3⟩:=hb
  split at h2
  ·rename_i i hi'
   simp only[beq_iff_eq]at h2
   subst h2
   have hle:n.toNat*i.size+i.size≤us.toList.length:=by
    have h4:n.toNat+1≤m:=by omega
    calc n.toNat*i.size+i.size=(n.toNat+1)*i.size:=by rw[Nat.add_mul,Nat.one_mul]
     _≤m*i.size:=Nat.mul_le_mul_right _ h4
     _=us.toList.length:=by simpa using hl.symm
   have:=zk (w:=w) h3 (cs:=us.toList) (off:=n.toNat*i.size) hle
   simp only[Array.toArray_toList]at this
   simp[Instr.index,asIntOf,run_underlying hu,h0,h1,Jb hi',this]
  ·cases h2
 ·cases hb
theorem no {t t':TypeId} {d:TypeDesc} {x:Operand} {k:IntKind} {n:Int} (h:o.op= .convert t t' x) (hs:P.underlying t=some d) (hd:P.underlying t'=some .string) (hx:a.eval x= .int k n):
  PY P o a w (.string (Utf8.encode n)) w:=
 Dx (s:=convert t t' (.int k n)) (by unfold execOp;rw[h];simp only[hx]) (by
  unfold convert
  rw[Sem.run_bind,run_underlying hs]
  simp only[Result.andThen_ok]
  rw[Sem.run_bind,run_underlying hd]
  cases d<;>simp[Conv.intToString])
theorem np {t t':TypeId} {d:TypeDesc} {x:Operand} {s:ByteArray} (h:o.op= .convert t t' x) (hs:P.underlying t=some d) (hd:P.underlying t'=some .string) (hx:a.eval x= .string s):
  PY P o a w (.string s) w:=
 Dx (s:=convert t t' (.string s)) (by unfold execOp;rw[h];simp only[hx]) (by
  unfold convert
  rw[Sem.run_bind,run_underlying hs]
  simp only[Result.andThen_ok]
  rw[Sem.run_bind,run_underlying hd]
  cases d<;>simp)
def gU (lo:Option Value) (e l:Nat):Prop:=(lo=none∧l=e)∨∃k,lo=some (.int k (l:Int))
theorem kE {isSlice:Bool} {len cap l h:Nat} {lo hi:Option Value} (hl:gU lo 0 l) (hh:gU hi len h) (h1:l≤h) (h2:h≤cap):
  (Instr.sliceBounds isSlice len cap lo hi none).run P w= .ok (l,h,cap) w:=by
 unfold Instr.sliceBounds
 rcases hh with ⟨rfl,rfl⟩|⟨k,rfl⟩<;>rcases hl with ⟨rfl,rfl⟩|⟨k',rfl⟩
 ·simp
 ·have e1:(0:Int)≤(l:Int)∧(l:Int)≤(h:Int):=⟨by omega,by omega⟩
  simp[Instr.sliceBound,asIntOf,h1]
 ·simp[Instr.sliceBound,asIntOf,h2]
 ·simp[Instr.sliceBound,asIntOf,h1,h2]
theorem uO {t:TypeId} {x:Operand} {lo hi:Option Operand} {s:ByteArray} {l h:Nat} (hop:o.op= .slice t x lo hi none) (ht:P.underlying t=some .string) (hx:a.eval x= .string s)
  (hl:gU (lo.map a.eval) 0 l) (hh:gU (hi.map a.eval) s.size h) (h1:l≤h) (h2:h≤s.size):PY P o a w (.string (s.extract l h)) w:=by
 refine Dx (s:=Instr.sliceAt t (.string s) (lo.map a.eval) (hi.map a.eval) none) (by unfold execOp;rw[hop];simp only[hx,Option.map_none]) ?_
 unfold Instr.sliceAt
 rw[Sem.run_bind,run_underlying ht]
 simp only[Result.andThen_ok]
 unfold Instr.slice
 rw[Sem.run_bind,run_underlying ht]
 simp[kE hl hh h1 h2]
theorem kF {t e:TypeId} {x:Operand} {lo hi:Option Operand} {i:TypeInfo} {q:Option Addr} {len cap l h:Nat} (hop:o.op= .slice t x lo hi none) (ht:P.underlying t=some (.slice e)) (he:P.info? e=some i) (hx:a.eval x= .slice q len cap)
  (hl:gU (lo.map a.eval) 0 l) (hh:gU (hi.map a.eval) len h) (h1:l≤h) (h2:h≤cap):PY P o a w (.slice (if cap=l then q else q.map (·.add (l*i.size))) (h-l) (cap-l)) w:=by
 refine Dx (s:=Instr.sliceAt t (.slice q len cap) (lo.map a.eval) (hi.map a.eval) none) (by unfold execOp;rw[hop];simp only[hx,Option.map_none]) ?_
 unfold Instr.sliceAt
 rw[Sem.run_bind,run_underlying ht]
 simp only[Result.andThen_ok]
 unfold Instr.slice
 rw[Sem.run_bind,run_underlying ht]
 simp[kE hl hh h1 h2,Jb he]
theorem CK.drop {b sz:Nat}:∀(n:Nat) {k:Nat} {rs:Rows},CK w B b k sz rs→CK w B b (k+n*sz) sz (rs.drop n)
 |0,k,rs,h=>by simpa using h
 |n+1,k,[],h=>by simp[CK]
 |n+1,k,r::rs,h=>by
  simp only[CK]at h
  have:=CK.drop n h.2.2
  simp only[List.drop_succ_cons]
  rwa [show k+(n+1)*sz=k+sz+n*sz by rw[Nat.add_mul,Nat.one_mul];omega]
theorem CK.take {b sz:Nat}:∀(n:Nat) {k:Nat} {rs:Rows},CK w B b k sz rs→CK w B b k sz (rs.take n)
 |0,k,rs,h=>by simp[CK]
 |n+1,k,[],h=>by simp[CK]
 |n+1,k,r::rs,h=>by
  simp only[CK]at h
  simp only[List.take_succ_cons,CK]
  exact⟨h.1,h.2.1,CK.take n h.2.2⟩
theorem xJ {rows:Rows} {q:Option Addr} {len cap l h sz:Nat} (hv:A6 w B ρ r (.t (.sl false rows)) (.slice q len cap)) (h1:l≤h) (h2:h≤rows.length) (hsz:∀row∈rows,row.length=sz):
  len=rows.length∧rows.length≤cap∧A6 w B ρ r (.t (.sl false ((rows.drop l).take (h-l)))) (.slice (if cap=l then q else q.map (·.add (l*sz))) (h-l) (cap-l)):=by
 simp only[A6,EV]at hv
 obtain⟨⟨q',cap',e,g1,g2,g3⟩,_⟩:=hv
 injection e with e1 e2 e3
 subst e1 e2 e3
 refine⟨rfl,g1, ?_⟩
 have hlen:((rows.drop l).take (h-l)).length=h-l:=by simp;omega
 simp only[A6,EV]
 refine⟨⟨_,_,by rw[hlen],by rw[hlen];omega,by omega, ?_⟩,rfl⟩
 by_cases hlh:l=h
 ·subst hlh
  left;simp
 ·right
  have hlt:l<rows.length:=by omega
  rcases g3 with g3|⟨b,k,sz',rfl,g4,g5,g6⟩
  ·subst g3;simp at hlt
  ·have hs:sz'=sz:=by
    have hm:rows[l]∈rows:=List.getElem_mem hlt
    have e1:=hsz _ hm
    have:∀{rs:Rows} {k:Nat},CK w B b k sz' rs→∀row∈rs,row.length=sz':=by
     intro rs
     induction rs with
     |nil=>intro k _ row h;cases h
     |cons r rs ih=>
      intro k h row hr
      simp only[CK]at h
      rcases List.mem_cons.1 hr with hr|hr
      ·rw[hr];exact h.1
      ·exact ih h.2.2 row hr
    rw[←e1,this g6 _ hm]
   subst hs
   refine⟨b,k+l*sz',sz', ?_,g4,g5,CK.take _ (CK.drop l g6)⟩
   rw[if_neg (by omega)]
   simp only[Option.map_some,DB]
theorem kG {b:Nat}:∀{rows:Rows} {k:Nat} {l:List UInt8},DR rows=some l→CK w B b k 1 rows→∃us,us.length=rows.length∧Gx w b k us∧us.map (fun u=>match u with| .int .u8 n=>some (UInt8.ofNat n.toNat)|_=>none)=l.map some
 | [],k,l,h,hr=>by
  simp only[DR,oi]at h
  subst h
  exact⟨[],rfl,fun j u h=>by simp at h,rfl⟩
 |row::rows,k,l,h,hr=>by
  unfold DR at h
  split at h
  ·cases ‹_::_=[]›
  ·rename_i n rs he
   cases he
   obtain⟨l',h1,rfl⟩:=Option.map_eq_some_iff.1 h
   simp only[CK,Ml]at hr
   obtain⟨_,⟨⟨u,g1,_,g2⟩,_⟩,g3⟩:=hr
   simp only[EV]at g2
   subst g2
   obtain⟨us,i1,i2,i3⟩:=kG h1 g3
   exact⟨_::us,by simp[i1],Gx.cons g1 i2,by simp[i3]⟩
  ·cases h
theorem Cf.sh1 {b:Nat}:∀{rows:Rows} {k:Nat} {l:List UInt8} {S:Nat→Prop},DR rows=some l→Cf w B b k 1 rows S→CK w B b k 1 rows
 | [],k,l,S,h,hr=>by simp[CK]
 |row::rows,k,l,S,h,hr=>by
  unfold DR at h
  split at h
  ·cases ‹_::_=[]›
  ·rename_i n rs he
   cases he
   obtain⟨l',h1,rfl⟩:=Option.map_eq_some_iff.1 h
   simp only[Cf,Ng]at hr
   obtain⟨S1,S2,g0,⟨u,_,_,g1,g2,g3,_,_⟩,g4,_⟩:=hr
   simp only[Fb]at g3
   obtain⟨rfl,_⟩:=g3
   simp only[CK,Ml]
   refine⟨rfl,⟨⟨_,g1,g2,by simp only[EV]⟩,trivial⟩,Cf.sh1 h1 g4⟩
  ·cases h
theorem ZP {b k:Nat} {us:List Value} {l:List UInt8} {n cap:Nat} (hn:us.length=n) (hc:Gx w b k us) (hu:us.map (fun u=>match u with| .int .u8 n=>some (UInt8.ofNat n.toNat)|_=>none)=l.map some):
  (Conv.bytesToString (.slice (some ⟨b,k,none⟩) n cap)).run P w= .ok (.string ⟨l.toArray⟩) w:=by
 subst hn
 unfold Conv.bytesToString
 have hl:(loadCells ⟨b,k,none⟩ us.length).run P w= .ok us.toArray w:=run_loadCells_list w ⟨b,k,none⟩ us (fun j v hj=>by rw[DB];exact hc j v hj)
 simp only[Sem.run_bind,hl,Result.andThen_ok]
 have key:∀(g:Value→ByteArray→Sem (ForInStep ByteArray)),(∀n s,(g (.int .u8 n) s).run P w= .ok (.yield (s.push (UInt8.ofNat n.toNat))) w)→
   ∀(us:List Value) (l:List UInt8) (s:ByteArray),us.map (fun u=>match u with| .int .u8 n=>some (UInt8.ofNat n.toNat)|_=>none)=l.map some→(forIn us s g).run P w= .ok ⟨s.data++l.toArray⟩ w:=by
  intro g hg us
  induction us with
  |nil=>intro l s h;cases l<;>simp at h ⊢
  |cons u us ih=>
   intro l s h
   cases l with
   |nil=>simp at h
   |cons x l=>
    simp only[List.map_cons,List.cons.injEq]at h
    obtain⟨h1,h2⟩:=h
    split at h1
    ·rename_i n
     simp only[oi]at h1
     subst h1
     have:=ih l (s.push (UInt8.ofNat n.toNat)) h2
     simp only[List.forIn_cons,Sem.run_bind,hg,Result.andThen_ok]
     rw[this]
     congr 2
     cases s
     simp[ByteArray.push]
    ·cases h1
 simp
 rw[key _ (fun n s=>by simp) us l _ hu]
 have he:ByteArray.empty.data= #[]:=rfl
 simp[he]
def plB (P:Program) (t:TypeId) (i:Nat):Option (Nat×Nat):=match P.underlying t with
 |some (.struct fs)=>fs[i]?.bind fun f=>(P.info? f.type).map fun ti=>(f.offset,ti.size)
 |some (.array _ e)=>(P.info? e).map fun ti=>(i*ti.size,ti.size)
 |_=>none
def rH (P:Program) (t:TypeId):Bool:=match P.underlying t with
 |some (.struct fs)=>fs.toList.all fun f=>(P.info? f.type).isSome
 |some (.array _ e)=>(P.info? e).isSome
 |_=>false
def kH (P:Program) (t:TypeId):List (Nat×Nat×D2)→List (Nat×Operand)→Bool
 | [],[]=>true
 |(off,sz,x)::ps,(i,y)::qs=>plB P t i==some (off,sz)&&Hu x y&&kH P t ps qs
 |_,_=>false
theorem AJ.set {vs:List V} {us:List Value} (h:AJ w B ρ r vs us) {v:V} {u:Value} (hv:A6 w B ρ r v u):∀(k:Nat),AJ w B ρ r (vs.set k v) (us.set k u):=by
 intro k
 induction vs generalizing us k with
 |nil=>simp only[AJ]at h;subst h;simp[AJ]
 |cons a vs ih=>
  simp only[AJ]at h
  obtain⟨b,us',rfl,h1,h2⟩:=h
  cases k with
  |zero=>simp only[List.set_cons_zero,AJ];exact⟨u,us',rfl,hv,h2⟩
  |succ k=>simp only[List.set_cons_succ,AJ];exact⟨b,us'.set k u,rfl,h1,ih h2 k⟩
theorem uP (off:Nat):∀{vs:List V} {ws:List Value} {cs:List V} {arr:Array Value} (k:Nat),AJ w B ρ r cs arr.toList→AJ w B ρ r vs ws→
  AJ w B ρ r (A0F cs (off+k) vs) ((ws.zipIdx k).foldl (fun cs (q:Value×Nat)=>cs.setIfInBounds (off+q.2) q.1) arr).toList
 | [],ws,cs,arr,k,hc,hv=>by
  simp only[AJ]at hv
  subst hv
  exact hc
 |v::vs,ws,cs,arr,k,hc,hv=>by
  simp only[AJ]at hv
  obtain⟨u,us,rfl,h1,h2⟩:=hv
  simp only[A0F,List.zipIdx_cons,List.foldl_cons]
  have:AJ w B ρ r (cs.set (off+k) v) (arr.setIfInBounds (off+k) u).toList:=by
   rw[Array.toList_setIfInBounds]
   exact AJ.set hc h1 _
  exact uP off (k+1) this h2
theorem rJ (hI:FO w B ρ r s a) {P:Program} {t:TypeId} (place:Nat→Option (Nat×Nat)) (hpl:∀i q,plB P t i=some q→place i=some q):
  ∀{ps:List (Nat×Nat×D2)} {qs:List (Nat×Operand)} {cs cs':List V} {arr:Array Value},kH P t ps qs=true→AJ w B ρ r cs arr.toList→bld s cs ps=some cs'→
   ∃arr',Instr.fill place arr (qs.map fun q=>(q.1,a.eval q.2))=some arr'∧AJ w B ρ r cs' arr'.toList
 | [],qs,cs,cs',arr,hag,hc,hb=>by
  cases qs with
  |cons q qs=>simp[kH]at hag
  |nil=>
   simp only[bld,oi]at hb
   subst hb
   exact⟨arr,rfl,hc⟩
 |(off,sz,x)::ps,qs,cs,cs',arr,hag,hc,hb=>by
  cases qs with
  |nil=>simp[kH]at hag
  |cons q qs=>
   obtain⟨i,y⟩:=q
   simp only[kH,bz,beq_iff_eq]at hag
   obtain⟨⟨h1,h2⟩,h3⟩:=hag
   simp only[bld]at hb
   split at hb
   ·rename_i hcond
    obtain⟨g1,g2,g3⟩:=hcond
    have hx:=hI.eval h2
    have hcells:=NL hx (by intro e;rw[e]at g1;cases g1)
    have hsz:(a.eval y).cells.size=sz:=by rw[←g2,←AJ.length hcells];simp
    have hle:¬(off+(a.eval y).cells.size>arr.size):=by
     have:=AJ.length hc
     rw[hsz]
     have:arr.size=cs.length:=by rw[←this];simp
     omega
    have hrep:=uP (w:=w) (B:=B) (ρ:=ρ) (r:=r) off 0 hc hcells
    obtain⟨arr',e1,e2⟩:=rJ hI place hpl h3 hrep hb
    refine⟨arr', ?_,e2⟩
    simp only[List.map_cons,Instr.fill,hpl i _ h1]
    rw[if_neg (by simp[hsz];omega)]
    rw[←e1]
    congr 1
    rw[←Array.foldl_toList,Array.toList_zipIdx]
   ·cases hb
theorem uQ {α β:Type} {f:α→Sem β} {g:α→β}:∀{l:List α},(∀x∈l,(f x).run P w= .ok (g x) w)→(l.mapM f).run P w= .ok (l.map g) w
 | [],h=>by simp
 |x::l,h=>by
  rw[List.mapM_cons]
  simp only[Sem.run_bind,h x (List.mem_cons_self ..),Result.andThen_ok,uQ fun y hy=>h y (List.mem_cons_of_mem _ hy)]
  simp
def A67 : T→T
 | .sl false []=> .sl true []
 |c=>c
theorem pq : ∀ {z:List T} {us:List Value},AJ w B ρ r ((z.map A67).map fun c=>match c with| .sl true []=>V.nil|c=>V.t c) us→AJ w B ρ r (z.map fun c=>match c with| .sl true []=>V.nil|c=>V.t c) us
 | [],_,h=>h
 |c::z,us,h=>by
  simp only[List.map_cons,AJ]at h ⊢
  obtain⟨u,us',rfl,h1,h2⟩:=h
  refine⟨u,us',rfl, ?_,pq h2⟩
  match c,h1 with
  | .sl false [],h1=>
   simp only[A67,A6]at h1 ⊢
   subst h1
   exact⟨by simp only[EV];exact⟨none,0,rfl,Nat.le_refl 0,Nat.zero_le _, .inl trivial⟩,rfl⟩
  | .v _,h1=>exact h1
  | .sl true [],h1=>exact h1
  | .sl true (_::_),h1=>exact h1
  | .sl false (_::_),h1=>exact h1
  | .hole,h1=>exact h1
  | .pp _,h1=>exact h1
  | .fn _ _,h1=>exact h1
theorem A0P {t:TypeId} {qs:Array (Nat×Operand)} {z:List T} {ps:List (Nat×Nat×D2)} (h:o.op= .build t qs) (hz:kA P t (z.map A67)=true) (hi:rH P t=true) (hag:kH P t ps qs.toList=true) (hs:FO w B ρ r s a) {cs:List V} (hb:bld s (z.map fun c=>match c with| .sl true []=>V.nil|c=>V.t c) ps=some cs):
  ∃u,PY P o a w u w∧A6 w B ρ r (.agg cs) u:=by
 obtain⟨i,v,g1,g2,g3,_,_⟩:=bN hz
 obtain⟨h1,_,_⟩:=Vl (w:=w) (B:=B) (ρ:=ρ) (r:=r) g3
 replace h1:=pq h1
 unfold rH at hi
 split at hi
 ·rename_i fs hu
  let place:Nat→Option (Nat×Nat):=fun i=>(fs.map fun f=>(f.offset,match P.info? f.type with|some ti=>ti.size|none=>0))[i]?
  have hpl:∀i q,plB P t i=some q→place i=some q:=by
   intro i q hq
   unfold plB at hq
   rw[hu]at hq
   obtain⟨f,e1,e2⟩:=Option.bind_eq_some_iff.1 hq
   obtain⟨ti,e3,e4⟩:=Option.map_eq_some_iff.1 e2
   subst e4
   simp[place,e1,e3]
  obtain⟨arr',e1,e2⟩:=rJ hs place hpl hag h1 hb
  refine⟨.agg arr', ?_,by simp only[A6];exact⟨arr',rfl,e2⟩⟩
  refine Dx (s:=Instr.build t (qs.map fun(i,x)=>(i,a.eval x))) (by unfold execOp;rw[h]) ?_
  unfold Instr.build
  rw[Sem.run_bind,cV g1 g2]
  simp only[Result.andThen_ok]
  rw[Sem.run_bind,run_underlying hu]
  simp only[Result.andThen_ok]
  have hm:(fs.mapM fun f=>(do pure (f.offset,←sizeOf f.type):Sem (Nat×Nat))).run P w= .ok (fs.map fun f=>(f.offset,match P.info? f.type with|some ti=>ti.size|none=>0)) w:=by
   have hl:=uQ (P:=P) (w:=w) (f:=fun f:Field=>(do pure (f.offset,←sizeOf f.type):Sem (Nat×Nat))) (g:=fun f=>(f.offset,match P.info? f.type with|some ti=>ti.size|none=>0)) (l:=fs.toList) (fun f hf=>by
    have:=List.all_eq_true.1 hi f hf
    obtain⟨ti,hti⟩:=Option.isSome_iff_exists.1 this
    simp[Jb hti,hti])
   rw[Array.mapM_eq_mapM_toList]
   simp only[map_eq_pure_bind,Sem.run_bind,hl,Result.andThen_ok]
   simp[←Array.toList_map]
  rw[Sem.run_bind,hm]
  simp only[Result.andThen_ok]
  have e1':Instr.fill (fun x=>(fs.map fun f=>(f.offset,match P.info? f.type with|some ti=>ti.size|none=>0))[x]?) v.cells (qs.map fun x=>(x.1,a.eval x.2)).toList=some arr':=by
   rw[Array.toList_map];exact e1
  simp only[e1']
  rfl
 ·rename_i n e hu
  obtain⟨ti,hti⟩:=Option.isSome_iff_exists.1 hi
  let place:Nat→Option (Nat×Nat):=fun i=>some (i*ti.size,ti.size)
  have hpl:∀i q,plB P t i=some q→place i=some q:=by
   intro i q hq
   unfold plB at hq
   rw[hu]at hq
   simp only[hti,Option.map_some,oi]at hq
   subst hq
   rfl
  obtain⟨arr',e1,e2⟩:=rJ hs place hpl hag h1 hb
  refine⟨.agg arr', ?_,by simp only[A6];exact⟨arr',rfl,e2⟩⟩
  refine Dx (s:=Instr.build t (qs.map fun(i,x)=>(i,a.eval x))) (by unfold execOp;rw[h]) ?_
  unfold Instr.build
  rw[Sem.run_bind,cV g1 g2]
  simp only[Result.andThen_ok]
  rw[Sem.run_bind,run_underlying hu]
  simp only[Result.andThen_ok]
  rw[Sem.run_bind,Jb hti]
  simp only[Result.andThen_ok]
  have e1':Instr.fill (fun i=>some (i*ti.size,ti.size)) v.cells (qs.map fun x=>(x.1,a.eval x.2)).toList=some arr':=by
   rw[Array.toList_map];exact e1
  simp only[e1']
  rfl
 ·cases hi
theorem gV (d:Nat) (t e:TypeId) (q:Option Addr) (n c n' c':Nat) (h:P.underlying t=some (.slice e)):
  (Op.equalIn (d+1) t (.slice q n c) (.slice none n' c')).run P w= .ok q.isNone w:=by
 cases q<;>simp[Op.equalIn,run_underlying h]
theorem A68 {op:BinOp} {t e ty:TypeId} {x:Operand} {q:Option Addr} {n cap:Nat} (h:o.op= .binOp op t x (.const (.slice none 0 0)) ty) (ho:op= .eql∨op= .neq) (ht:P.underlying t=some (.slice e)) (hx:a.eval x= .slice q n cap):
  PY P o a w (.bool (if op= .neq then !q.isNone else q.isNone)) w:=by
 have hc:a.eval (.const (.slice none 0 0))= .slice none 0 0:=rfl
 refine Dx (s:=do eqGuard op t x (.const (.slice none 0 0)) (.slice q n cap) (.slice none 0 0);binOp op t (.slice q n cap) (.slice none 0 0)) (by unfold execOp;rw[h];simp only[hx,hc]) ?_
 have hg:(eqGuard op t x (.const (.slice none 0 0)) (.slice q n cap) (.slice none 0 0)).run P w= .ok () w:=by
  rcases ho with rfl|rfl<;>simp[eqGuard]
 rw[Sem.run_bind,hg]
 simp only[Result.andThen_ok]
 rcases ho with rfl|rfl
 ·simp only[binOp]
  simp[Op.equal,Op.maxDepth,gV 9999 t e q n cap 0 0 ht]
 ·simp only[binOp]
  simp[Op.equal,Op.maxDepth,gV 9999 t e q n cap 0 0 ht]
end
end TT
