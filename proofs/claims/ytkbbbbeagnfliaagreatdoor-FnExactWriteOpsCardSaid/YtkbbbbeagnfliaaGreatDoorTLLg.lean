import Derived.Test.YtkbbbbeagnfliaaGreatDoorTLLf
set_option maxHeartbeats 2000000
set_option linter.unusedVariables false
set_option linter.unusedSimpArgs false
set_option linter.defProp false
set_option maxRecDepth 100000
namespace TT
open Go
open Nat (reduceAdd reduceSub reduceMul reduceLeDiff reduceLT reduceEqDiff)
theorem ca : ∀ (named:Bool) (element:Bool) (p:GPred) (x:Bool),Ok (IE named element p x) KR (ev AI R3 Ob [.lv 0, .th Pp] (B8 (List.replicate 75 .dead) [(2, .ptr (2,0) [] 0 0 1 0),(5, .t (.v (.bool named))),(6, .t (.v (.bool element))),(22, .t (.v (.int .i64 p.Kind))),(37, .t (.v (.bool x)))]) (B9 (List.replicate 75 []) [(2,[.mem [[.v (.int .i64 p.Kind), .v (.int .i64 p.N), .v (.string p.Pre), .v (.string p.Local), .v (.string p.Val)]] 0 false])])):=by
 intro named element p x
 have k0:= @Ob.eq_1;have k1:= @Pp.eq_1;have f0:= @IE.eq_1;have g0:=UG;have g1:=bj
 exact gs
theorem eV : ∀ (named:Bool) (element:Bool) (p:GPred),Ok (G4 named element p) KR (ev AI R3 Pq [] (B8 (List.replicate 75 .dead) [(2, .ptr (2,0) [] 0 0 1 0),(5, .t (.v (.bool named))),(6, .t (.v (.bool element)))]) (B9 (List.replicate 75 []) [(2,[.mem [[.v (.int .i64 p.Kind), .v (.int .i64 p.N), .v (.string p.Pre), .v (.string p.Local), .v (.string p.Val)]] 0 false])])):=by
 intro named element p
 have k0:= @Pq.eq_1;have f0:= @G4.eq_1;have g0:=UF;have t0:=ca
 exact gs
theorem eW : ∀ (kind:Int) (named:Bool) (p:GPred),Ok (G5 kind named p) KR (ev AI R3 Pr [] (B8 (List.replicate 75 .dead) [(1, .t (.v (.int .i64 kind))),(2, .ptr (2,0) [] 0 0 1 0),(5, .t (.v (.bool named)))]) (B9 (List.replicate 75 []) [(2,[.mem [[.v (.int .i64 p.Kind), .v (.int .i64 p.N), .v (.string p.Pre), .v (.string p.Local), .v (.string p.Val)]] 0 false])])):=by
 intro kind named p
 have k0:= @Pr.eq_1;have f0:= @G5.eq_1;have t0:=eV
 exact gs
theorem mc : ∀ (p:GPred) (kind:Int),Ok (Hk p kind) KR (dn AI aS [.agg ((GPred.row p).map .t), .t (.v (.int .i64 kind))]):=by
 intro p kind
 rw[A5 AI (fn:=Qv) rfl (xN rfl rfl _) (lB rfl)]
 have k0:= @Qv.eq_1;have f0:= @Hk.eq_1;have t0:=eW
 exact gs
theorem fw : ∀ (p:GPred) (a1:GStp),Ok (Qw p a1) Wz (dn AI IA [.agg ((GPred.row p).map .t), .lp [.v (.bool a1.Deep), .v (.int .i64 a1.Kind), .v (.string a1.Pre), .v (.string a1.Local), .sl false (a1.Preds.map GPred.row)] 0]):=by
 intro p a1
 rw[A5 AI (fn:=Kr) rfl (xN rfl rfl _) (lB rfl)]
 have k0:= @Kr.eq_1;have f0:= @Qw.eq_1;have g0:=mc
 exact gs
theorem K8 (s:List GPred):∀(x1:Int) (f:GStp),Ok (At s x1 f) Du (ev AI Gl (.loop Fw) [.lv 0, .th Fx] (B8 (List.replicate 19 .dead) [(0, .t (.sl false (s.map GPred.row))),(1, .fn IA [.ptr (1,0) [] 0 0 1 0]),(7, .t (.v (.int .i64 (AF s)))),(8, .t (.v (.int .i64 x1)))]) (B9 (List.replicate 19 []) [(1,[.mem [[.v (.bool f.Deep), .v (.int .i64 f.Kind), .v (.string f.Pre), .v (.string f.Local), .sl false (f.Preds.map GPred.row)]] 0 true])])):=by
 unfold Ok
 refine At.partial_correctness s _ ?_
 intro F ih x1 f
 show Ok _ _ _
 have ih:∀(x1:Int) (f:GStp),Ok (F x1 f) _ _:=ih
 rw[AV]
 have k0:= @Fw.eq_1;have k1:= @Fx.eq_1;have g0:=fw;have t0:=ih
 exact gs
theorem Mi : ∀ (s:List GPred) (fc0:GStp),Ok (Cy s fc0) Du (dn AI MB [.t (.sl false (s.map GPred.row)), .fn IA [.lp [.v (.bool fc0.Deep), .v (.int .i64 fc0.Kind), .v (.string fc0.Pre), .v (.string fc0.Local), .sl false (fc0.Preds.map GPred.row)] 0]]):=by
 intro s fc0
 rw[A5 AI (fn:=Et) rfl (xN rfl rfl _) (lB rfl)]
 have k0:= @Et.eq_1;have f0:= @Cy.eq_1;have t0:=K8
 exact gs
theorem K9 : ∀ (s:List GPred) (fc0:GStp),Ok (BY s fc0) FZ (dn AI Il [.t (.sl false (s.map GPred.row)), .fn IA [.lp [.v (.bool fc0.Deep), .v (.int .i64 fc0.Kind), .v (.string fc0.Pre), .v (.string fc0.Local), .sl false (fc0.Preds.map GPred.row)] 0]]):=by
 intro s fc0
 rw[A5 AI (fn:=Dm) rfl (xN rfl rfl _) (lB rfl)]
 have k0:= @Dm.eq_1;have f0:= @BY.eq_1;have g0:=Mi
 exact gs
theorem cd : ∀ (end1:Bool) (r:Bool×GStp) (x:Bool) (sDeep:Bool),Ok (E2 end1 r x sDeep) R4 (ev AI V6 Ns [.lv 0, .th Nt] (B8 (List.replicate 87 .dead) [(2, .ptr (2,0) [] 0 0 1 0),(5, .t (.v (.bool end1))),(29, .t (.v (.int .i64 r.2.Kind))),(37, .t (.v (.bool x)))]) (B9 (List.replicate 87 []) [(2,[.mem [[.v (.bool sDeep), .v (.int .i64 r.2.Kind), .v (.string r.2.Pre), .v (.string r.2.Local), .sl false (r.2.Preds.map GPred.row)]] 0 false])])):=by
 intro end1 r x sDeep
 have k0:= @Ns.eq_1;have k1:= @Nt.eq_1;have f0:= @E2.eq_1;have g0:=FF;have g1:=UG
 exact gs
theorem cf : ∀ (end1:Bool) (sDeep:Bool) (r:Bool×GStp),Ok (E3 end1 sDeep r) R4 (ev AI V6 Nu [] (B8 (List.replicate 87 .dead) [(2, .ptr (2,0) [] 0 0 1 0),(5, .t (.v (.bool end1)))]) (B9 (List.replicate 87 []) [(2,[.mem [[.v (.bool sDeep), .v (.int .i64 r.2.Kind), .v (.string r.2.Pre), .v (.string r.2.Local), .sl false (r.2.Preds.map GPred.row)]] 0 false])])):=by
 intro end1 sDeep r
 have k0:= @Nu.eq_1;have f0:= @E3.eq_1;have g0:=UG;have t0:=cd
 exact gs
theorem mf : ∀ (s:GStp) (last:Bool),Ok (JA s last) R4 (dn AI aT [.agg (((GStp.row false) s).map .t), .t (.v (.bool last))]):=by
 intro s last
 rw[A5 AI (fn:=QQ) rfl (xN rfl rfl _) (lB rfl)]
 have k0:= @QQ.eq_1;have f0:= @JA.eq_1;have g0:=K9;have t0:=cf
 exact gs
theorem fy (s:GSel):∀(x1:Int),Ok (Di s x1) WR (ev AI eE (.loop Rm) [.lv 0, .th Rn] (B8 (List.replicate 41 .dead) [(1, .ptr (1,0) [] 0 0 1 0),(3, .t (.v (.int .i64 (AF s.Steps)))),(10, .t (.sl false (s.Steps.map (GStp.row false)))),(11, .t (.v (.int .i64 (AF s.Steps)))),(12, .t (.v (.int .i64 x1)))]) (B9 (List.replicate 41 []) [(1,[.mem [[.v (.string s.Id), .sl false (s.Steps.map (GStp.row false))]] 0 false])])):=by
 unfold Ok
 refine Di.partial_correctness s _ ?_
 intro F ih x1
 show Ok _ _ _
 have ih:∀(x1:Int),Ok (F x1) _ _:=ih
 rw[AV]
 have k0:= @Rm.eq_1;have k1:= @Rn.eq_1;have g0:=mf;have g1:=bj;have t0:=ih
 exact gs
theorem bl : ∀ (s:GSel),Ok (JB s) WR (dn AI WG [.agg (((GSel.row false) s).map .t)]):=by
 intro s
 rw[A5 AI (fn:=Sm) rfl (xN rfl rfl _) (lB rfl)]
 have k0:= @Sm.eq_1;have f0:= @JB.eq_1;have t0:=fy
 exact gs
theorem cg : ∀ (a0:GDecl) (a1:GDecl),Ok (Kt a0 a1) UX (dn AI GW [.agg ((GDecl.row a0).map .t), .lp [.v (.string a1.Pre), .v (.string a1.Uri)] 0]):=by
 intro a0 a1
 rw[A5 AI (fn:=Ib) rfl (xN rfl rfl _) (lB rfl)]
 have k0:= @Ib.eq_1;have f0:= @Kt.eq_1
 exact gs
theorem JL (s:List GDecl):∀(x1:Int) (f:GDecl),Ok (Aj s x1 f) DR (ev AI G8 (.loop Cg) [.lv 0, .th Ch] (B8 (List.replicate 19 .dead) [(0, .t (.sl false (s.map GDecl.row))),(1, .fn GW [.ptr (1,0) [] 0 0 1 0]),(7, .t (.v (.int .i64 (AF s)))),(8, .t (.v (.int .i64 x1)))]) (B9 (List.replicate 19 []) [(1,[.mem [[.v (.string f.Pre), .v (.string f.Uri)]] 0 true])])):=by
 unfold Ok
 refine Aj.partial_correctness s _ ?_
 intro F ih x1 f
 show Ok _ _ _
 have ih:∀(x1:Int) (f:GDecl),Ok (F x1 f) _ _:=ih
 rw[AV]
 have k0:= @Cg.eq_1;have k1:= @Ch.eq_1;have g0:=cg;have t0:=ih
 exact gs
theorem KU : ∀ (s:List GDecl) (fc0:GDecl),Ok (CW s fc0) DR (dn AI HR [.t (.sl false (s.map GDecl.row)), .fn GW [.lp [.v (.string fc0.Pre), .v (.string fc0.Uri)] 0]]):=by
 intro s fc0
 rw[A5 AI (fn:=Ca) rfl (xN rfl rfl _) (lB rfl)]
 have k0:= @Ca.eq_1;have f0:= @CW.eq_1;have t0:=JL
 exact gs
theorem JM : ∀ (s:List GDecl) (fc0:GDecl),Ok (C1 s fc0) Ew (dn AI Dl [.t (.sl false (s.map GDecl.row)), .fn GW [.lp [.v (.string fc0.Pre), .v (.string fc0.Uri)] 0]]):=by
 intro s fc0
 rw[A5 AI (fn:=Bw) rfl (xN rfl rfl _) (lB rfl)]
 have k0:= @Bw.eq_1;have f0:= @C1.eq_1;have g0:=KU
 exact gs
theorem Zw (l:List GDecl):∀(x2:Int),Ok (DY l x2) Rz (ev AI X0 (.loop LV) [.lv 0, .th LW] (B8 (List.replicate 18 .dead) [(0, .t (.sl false (l.map GDecl.row))),(5, .t (.sl false (l.map GDecl.row))),(6, .t (.v (.int .i64 (AF l)))),(7, .t (.v (.int .i64 x2)))]) (B9 (List.replicate 18 []) [])):=by
 unfold Ok
 refine DY.partial_correctness l _ ?_
 intro F ih x2
 show Ok _ _ _
 have ih:∀(x2:Int),Ok (F x2) _ _:=ih
 rw[AV]
 have k0:= @LV.eq_1;have k1:= @LW.eq_1;have g0:=JM;have t0:=ih
 exact gs
theorem gA : ∀ (l:List GDecl),Ok (KK l) Rz (dn AI Wn [.t (.sl false (l.map GDecl.row))]):=by
 intro l
 rw[A5 AI (fn:=Kg) rfl (xN rfl rfl _) (lB rfl)]
 have k0:= @Kg.eq_1;have f0:= @KK.eq_1;have t0:=Zw
 exact gs
theorem Mj : ∀ (s:ByteArray) (prefix1:ByteArray),Ok (Cz s prefix1) Gm (dn AI GX [.t (.v (.string s)), .t (.v (.string prefix1))]):=by
 intro s prefix1
 rw[A5 AI (fn:=CU) rfl (xN rfl rfl _) (lB rfl)]
 have k0:= @CU.eq_1;have f0:= @Cz.eq_1
 exact gs
theorem RI : ∀ (s:ByteArray) (prefix1:ByteArray),Ok (Ev s prefix1) SG (dn AI Ju [.t (.v (.string s)), .t (.v (.string prefix1))]):=by
 intro s prefix1
 rw[A5 AI (fn:=HG) rfl (xN rfl rfl _) (lB rfl)]
 have k0:= @HG.eq_1;have f0:= @Ev.eq_1;have g0:=Mj
 exact gs
theorem VI : ∀ (s:ByteArray),Ok (JC s) eG (dn AI SV [.t (.v (.string s))]):=by
 intro s
 rw[A5 AI (fn:=Sx) rfl (xN rfl rfl _) (lB rfl)]
 have k0:= @Sx.eq_1;have f0:= @JC.eq_1;have g0:=FF;have g1:=RI
 exact gs
theorem VJ : ∀ (uri:ByteArray) (pre:ByteArray),Ok (JD uri pre) eH (dn AI SW [.t (.v (.string uri)), .t (.v (.string pre))]):=by
 intro uri pre
 rw[A5 AI (fn:=Sy) rfl (xN rfl rfl _) (lB rfl)]
 have k0:= @Sy.eq_1;have f0:= @JD.eq_1;have g0:=He
 exact gs
theorem Z0 : ∀ (d:GDecl),Ok (Hl d) bN (dn AI Ul [.agg ((GDecl.row d).map .t)]):=by
 intro d
 rw[A5 AI (fn:=Qm) rfl (xN rfl rfl _) (lB rfl)]
 have k0:= @Qm.eq_1;have f0:= @Hl.eq_1;have g0:=VI;have g1:=VJ
 exact gs
theorem mg : ∀ (d:GDecl),Ok (UU d) bO (dn AI Q4 [.agg ((GDecl.row d).map .t)]):=by
 intro d
 rw[A5 AI (fn:=Qd) rfl (xN rfl rfl _) (lB rfl)]
 have k0:= @Qd.eq_1;have f0:= @UU.eq_1;have g0:=Z0
 exact gs
end TT
