import Derived.Test.YtkbbbbeagnfliaaGreatDoorTLLd
set_option maxHeartbeats 2000000
set_option linter.unusedVariables false
set_option linter.unusedSimpArgs false
set_option linter.defProp false
set_option maxRecDepth 100000
namespace TT
open Go
open Nat (reduceAdd reduceSub reduceMul reduceLeDiff reduceLT reduceEqDiff)
theorem Vo : ∀ (s:ByteArray),Ok (FW s) Wx (dn AI ID [.t (.v (.string s))]):=by
 intro s
 rw[A5 AI (fn:=Ke) rfl (xN rfl rfl _) (lB rfl)]
 have k0:= @Ke.eq_1;have f0:= @FW.eq_1;have g0:=VF
 exact gs
theorem eT : ∀ (s:ByteArray) (x3:Int),Ok (DF s x3) V4 (ev AI bG (.loop Pk) [.lv 0, .th Pn] (B8 (List.replicate 19 .dead) [(3, .t (.v (.string s))),(4, .t (.v (.int .i64 x3)))]) (B9 (List.replicate 19 []) [])):=by
 unfold Ok
 refine DF.partial_correctness _ ?_
 intro F ih s x3
 show Ok _ _ _
 have ih:∀(s:ByteArray) (x3:Int),Ok (F s x3) _ _:=ih
 rw[AV]
 have k0:= @Pk.eq_1;have k1:= @Pn.eq_1;have t0:=ih
 exact gs
theorem mW : ∀ (n:Int),Ok (RE n) V4 (dn AI au [.t (.v (.int .i64 n))]):=by
 intro n
 rw[A5 AI (fn:=Qa) rfl (xN rfl rfl _) (lB rfl)]
 have k0:= @Qa.eq_1;have f0:= @RE.eq_1;have t0:=eT
 exact gs
theorem jD : ∀ (p:GPred),Ok (Oe p) YT (dn AI Y5 [.agg ((GPred.row p).map .t)]):=by
 intro p
 rw[A5 AI (fn:=Nr) rfl (xN rfl rfl _) (lB rfl)]
 have k0:= @Nr.eq_1;have f0:= @Oe.eq_1;have g0:=mW;have g1:=Db;have g2:=Vo
 exact gs
theorem Zp (a0:GStp):∀(s1:ByteArray) (i:Int),Ok (Cq s1 i a0) On (ev AI Tz (.loop LQ) [.lv 1, .th LR] (B8 (List.replicate 56 .dead) [(1, .ptr (1,0) [] 0 0 1 0),(3, .t (.v (.string s1))),(4, .t (.v (.int .i64 i)))]) (B9 (List.replicate 56 []) [(1,[.mem [[.v (.bool a0.Deep), .v (.int .i64 a0.Kind), .v (.string a0.Pre), .v (.string a0.Local), .sl false (a0.Preds.map GPred.row)]] 0 false])])):=by
 unfold Ok
 refine Cq.partial_correctness a0 _ ?_
 intro F ih s1 i
 show Ok _ _ _
 have ih:∀(s1:ByteArray) (i:Int),Ok (F s1 i) _ _:=ih
 rw[AV]
 have k0:= @LQ.eq_1;have k1:= @LR.eq_1;have g0:=jD;have t0:=ih
 exact gs
theorem cV : ∀ (s:ByteArray) (a0:GStp),Ok (CH s a0) On (ev AI Tz NU [] (B8 (List.replicate 56 .dead) [(1, .ptr (1,0) [] 0 0 1 0),(3, .t (.v (.string s)))]) (B9 (List.replicate 56 []) [(1,[.mem [[.v (.bool a0.Deep), .v (.int .i64 a0.Kind), .v (.string a0.Pre), .v (.string a0.Local), .sl false (a0.Preds.map GPred.row)]] 0 false])])):=by
 intro s a0
 have k0:= @NU.eq_1;have f0:= @CH.eq_1;have t0:=Zp
 exact gs
theorem jE : ∀ (a0:GStp),Ok (FQ a0) On (dn AI Y6 [.agg (((GStp.row false) a0).map .t)]):=by
 intro a0
 rw[A5 AI (fn:=NV) rfl (xN rfl rfl _) (lB rfl)]
 have k0:= @NV.eq_1;have f0:= @FQ.eq_1;have g0:=Db;have t0:=cV
 exact gs
theorem Zq (s:GSel):∀(out1:ByteArray) (i:Int),Ok (By out1 i s) Oo (ev AI U0 (.loop Kw) [.lv 0, .th Kx] (B8 (List.replicate 52 .dead) [(1, .ptr (1,0) [] 0 0 1 0),(3, .t (.v (.string out1))),(4, .t (.v (.int .i64 i)))]) (B9 (List.replicate 52 []) [(1,[.mem [[.v (.string s.Id), .sl false (s.Steps.map (GStp.row false))]] 0 false])])):=by
 unfold Ok
 refine By.partial_correctness s _ ?_
 intro F ih out1 i
 show Ok _ _ _
 have ih:∀(out1:ByteArray) (i:Int),Ok (F out1 i) _ _:=ih
 rw[AV]
 have k0:= @Kw.eq_1;have k1:= @Kx.eq_1;have g0:=jE;have t0:=ih
 exact gs
theorem Zr : ∀ (out:ByteArray) (s:GSel),Ok (Fe out s) Oo (ev AI U0 Ky [] (B8 (List.replicate 52 .dead) [(1, .ptr (1,0) [] 0 0 1 0),(3, .t (.v (.string out)))]) (B9 (List.replicate 52 []) [(1,[.mem [[.v (.string s.Id), .sl false (s.Steps.map (GStp.row false))]] 0 false])])):=by
 intro out s
 have k0:= @Ky.eq_1;have f0:= @Fe.eq_1;have t0:=Zq
 exact gs
theorem XD : ∀ (s:GSel),Ok (Jh s) Oo (dn AI Tf [.agg (((GSel.row false) s).map .t)]):=by
 intro s
 rw[A5 AI (fn:=N6) rfl (xN rfl rfl _) (lB rfl)]
 have k0:= @N6.eq_1;have f0:= @Jh.eq_1;have g0:=bg;have g1:=Vo;have t0:=Zr
 exact gs
theorem Zs : (∀ (out2:List (GDecl)) (i:Int) (k1:Int),Ok (D9 out2 i k1) Ku (ev AI Rx (.loop K0) [.lv 2, .lv 1, .th K1, .hk [.clean []], .th (.loop Hv), .lv 0, .th Hw] (B8 (List.replicate 53 .dead) [(3, .ref (7,0) out2.length),(4, .t (.v (.int .i64 i))),(5, .t (.v (.int .i64 k1)))]) (B9 (List.replicate 53 []) [(7,[.mem (out2.map GDecl.row) 0 false])])))∧
  (∀(out1:List (GDecl)) (i:Int),Ok (Cr out1 i) Ku (ev AI Rx (.loop Hv) [.lv 0, .th Hw] (B8 (List.replicate 53 .dead) [(3, .ref (7,0) out1.length),(4, .t (.v (.int .i64 i)))]) (B9 (List.replicate 53 []) [(7,[.mem (out1.map GDecl.row) 0 false])]))):=by
 unfold Ok
 refine D9.mutual_partial_correctness _ _ ?_ ?_
 ·intro F0 F1 ih0 ih1 out2 i k1
  show Ok _ _ _
  have ih0:∀(out2:List (GDecl)) (i:Int) (k1:Int),Ok (F0 out2 i k1) _ _:=ih0
  have ih1:∀(out1:List (GDecl)) (i:Int),Ok (F1 out1 i) _ _:=ih1
  rw[AV]
  have k0:= @K0.eq_1;have k1:= @K1.eq_1;have t0:=ih0;have t1:=ih1
  exact gs
 ·intro F0 ih0 out1 i
  show Ok _ _ _
  have ih0:∀(out2:List (GDecl)) (i:Int) (k1:Int),Ok (F0 out2 i k1) _ _:=ih0
  rw[AV]
  have k0:= @Hv.eq_1;have k1:= @Hw.eq_1;have t0:=ih0
  exact gs
theorem fp : ∀ (l:List GDecl),Ok (KI l) Ku (dn AI Wt [.t (.sl false (l.map GDecl.row))]):=by
 intro l
 rw[A5 AI (fn:=Kf) rfl (xN rfl rfl _) (lB rfl)]
 have k0:= @Kf.eq_1;have f0:= @KI.eq_1;have t0:=(Zs).2
 exact gs
theorem eU : (∀ (l:List GNode),Ok (J7 l) T8 (dn AI Sc [.t (.sl false (l.map (GNode.row false)))]))∧
  (∀(l:List GNode) (out:List (GNode)) (i:Int),Ok (H9 l out i) T8 (ev AI eA (.loop Rk) [.lv 0, .th Rl] (B8 (List.replicate 23 .dead) [(0, .t (.sl false (l.map (GNode.row false)))),(3, .ref (6,0) out.length),(4, .t (.v (.int .i64 i)))]) (B9 (List.replicate 23 []) [(6,[.mem (out.map (GNode.row true)) 0 false])])))∧
  (∀(n:GNode),Ok (J8 n) V5 (dn AI Uv [.agg (((GNode.row false) n).map .t)])):=by
 unfold Ok
 refine J7.mutual_partial_correctness _ _ _ ?_ ?_ ?_
 ·intro F1 ih1 l
  show Ok _ _ _
  have ih1:∀(l:List GNode) (out:List (GNode)) (i:Int),Ok (F1 l out i) _ _:=ih1
  rw[A5 AI (fn:=Sl) rfl (xN rfl rfl _) (lB rfl)]
  have k0:= @Sl.eq_1;have t0:=ih1
  exact gs
 ·intro F1 F2 ih1 ih2 l out i
  show Ok _ _ _
  have ih2:∀(n:GNode),Ok (F2 n) _ _:=ih2
  have ih1:∀(l:List GNode) (out:List (GNode)) (i:Int),Ok (F1 l out i) _ _:=ih1
  rw[AV]
  have k0:= @Rk.eq_1;have k1:= @Rl.eq_1;have g0:=ih2;have t0:=ih1
  exact gs
 ·intro F0 ih0 n
  show Ok _ _ _
  have ih0:∀(l:List GNode),Ok (F0 l) _ _:=ih0
  rw[A5 AI (fn:=QO) rfl (xN rfl rfl _) (lB rfl)]
  have k0:= @QO.eq_1;have g0:=ih0
  exact gs
theorem qK (l:List GNode):Ok (J7 l) T8 (dn AI Sc [.t (.sl false (l.map (GNode.row false)))]):=eU.1 l
theorem A5m (n:GNode):Ok (J8 n) V5 (dn AI Uv [.agg (((GNode.row false) n).map .t)]):=eU.2.2 n
theorem cW : (∀ (out2:List (GAttr)) (i:Int) (k1:Int),Ok (DW out2 i k1) Oq (ev AI U1 (.loop LS) [.lv 2, .lv 1, .th LU, .hk [.clean []], .th (.loop IW), .lv 0, .th IX] (B8 (List.replicate 51 .dead) [(3, .ref (7,0) out2.length),(4, .t (.v (.int .i64 i))),(5, .t (.v (.int .i64 k1)))]) (B9 (List.replicate 51 []) [(7,[.mem (out2.map GAttr.row) 0 false])])))∧
  (∀(out1:List (GAttr)) (i:Int),Ok (CI out1 i) Oq (ev AI U1 (.loop IW) [.lv 0, .th IX] (B8 (List.replicate 51 .dead) [(3, .ref (7,0) out1.length),(4, .t (.v (.int .i64 i)))]) (B9 (List.replicate 51 []) [(7,[.mem (out1.map GAttr.row) 0 false])]))):=by
 unfold Ok
 refine DW.mutual_partial_correctness _ _ ?_ ?_
 ·intro F0 F1 ih0 ih1 out2 i k1
  show Ok _ _ _
  have ih0:∀(out2:List (GAttr)) (i:Int) (k1:Int),Ok (F0 out2 i k1) _ _:=ih0
  have ih1:∀(out1:List (GAttr)) (i:Int),Ok (F1 out1 i) _ _:=ih1
  rw[AV]
  have k0:= @LS.eq_1;have k1:= @LU.eq_1;have g0:=Yu;have t0:=ih0;have t1:=ih1
  exact gs
 ·intro F0 ih0 out1 i
  show Ok _ _ _
  have ih0:∀(out2:List (GAttr)) (i:Int) (k1:Int),Ok (F0 out2 i k1) _ _:=ih0
  rw[AV]
  have k0:= @IW.eq_1;have k1:= @IX.eq_1;have t0:=ih0
  exact gs
theorem jF : ∀ (l:List GAttr),Ok (Eb l) Oq (dn AI Y9 [.t (.sl false (l.map GAttr.row))]):=by
 intro l
 rw[A5 AI (fn:=NZ) rfl (xN rfl rfl _) (lB rfl)]
 have k0:= @NZ.eq_1;have f0:= @Eb.eq_1;have t0:=(cW).2
 exact gs
theorem Zt : ∀ (o:GOp) (x:ByteArray) (r2:ByteArray×Bool) (r:List GDecl) (nAttrs1:List (GAttr)) (r1:List GNode),Ok (Cs o x r2 r nAttrs1 r1) Ot (ev AI U2 Kz [] (B8 (List.replicate 95 .dead) [(1, .ptr (1,0) [] 0 0 1 0),(2, .ptr (2,0) [] 0 0 1 0),(3, .ptr (3,0) [] 0 0 1 0)]) (B9 (List.replicate 95 []) [(1,[.mem [[.v (.int .i64 o.Kind), .v (.string o.Sel.Id), .sl false (o.Sel.Steps.map (GStp.row false)), .v (.int .i64 o.Pos), .v (.int .i64 o.Typ), .v (.string o.Pre), .v (.string o.Local), .v (.int .i64 o.Ws), .sl false (o.Kids.map (GNode.row false)), .sl false (o.Decls.map GDecl.row)]] 0 false]),(2,[.mem [[.v (.int .i64 0), .v (.string (⟨#[]⟩)), .v (.string (⟨#[]⟩)), .v (.string (⟨#[]⟩)), .sl true [], .sl true [], .sl true [], .v (.string (⟨#[]⟩))]] 0 false]),(3,[.mem [[.v (.int .i64 1), .v (.string (⟨#[]⟩)), .v (.string x), .v (.string r2.1), .sl true (r.map GDecl.row), .sl true (nAttrs1.map GAttr.row), .sl true (r1.map (GNode.row true)), .v (.string (⟨#[]⟩))]] 0 false])])):=by
 intro o x r2 r nAttrs1 r1
 have k0:= @Kz.eq_1;have f0:= @Cs.eq_1;have g0:=Db;have g1:=jF
 exact gs
theorem Zu : ∀ (o:GOp) (x:ByteArray) (r2:ByteArray×Bool) (r:List GDecl) (nAttrs:List (GAttr)) (r1:List GNode),Ok (EK o x r2 r nAttrs r1) Ot (ev AI U2 L6 [] (B8 (List.replicate 95 .dead) [(1, .ptr (1,0) [] 0 0 1 0),(2, .ptr (2,0) [] 0 0 1 0),(3, .ptr (3,0) [] 0 0 1 0)]) (B9 (List.replicate 95 []) [(1,[.mem [[.v (.int .i64 o.Kind), .v (.string o.Sel.Id), .sl false (o.Sel.Steps.map (GStp.row false)), .v (.int .i64 o.Pos), .v (.int .i64 o.Typ), .v (.string o.Pre), .v (.string o.Local), .v (.int .i64 o.Ws), .sl false (o.Kids.map (GNode.row false)), .sl false (o.Decls.map GDecl.row)]] 0 false]),(2,[.mem [[.v (.int .i64 0), .v (.string (⟨#[]⟩)), .v (.string (⟨#[]⟩)), .v (.string (⟨#[]⟩)), .sl true [], .sl true [], .sl true [], .v (.string (⟨#[]⟩))]] 0 false]),(3,[.mem [[.v (.int .i64 1), .v (.string (⟨#[]⟩)), .v (.string x), .v (.string r2.1), .sl true (r.map GDecl.row), .sl true (nAttrs.map GAttr.row), .sl true (r1.map (GNode.row true)), .v (.string (⟨#[]⟩))]] 0 false])])):=by
 intro o x r2 r nAttrs r1
 have k0:= @L6.eq_1;have f0:= @EK.eq_1;have t0:=Zt
 exact gs
theorem jG : ∀ (o:GOp),Ok (Of o) Ot (dn AI Y7 [.agg (((GOp.row false) o).map .t)]):=by
 intro o
 rw[A5 AI (fn:=N7) rfl (xN rfl rfl _) (lB rfl)]
 have k0:= @N7.eq_1;have f0:= @Of.eq_1;have g0:=fp;have g1:=qK;have g2:=SA;have g3:=XD;have t0:=Zu
 exact gs
theorem mX : ∀ (n:GNode),Ok (MQ n) bH (dn AI aq [.agg (((GNode.row false) n).map .t)]):=by
 intro n
 rw[A5 AI (fn:=QA) rfl (xN rfl rfl _) (lB rfl)]
 have k0:= @QA.eq_1;have f0:= @MQ.eq_1;have g0:=Yw;have g1:=Yx
 exact gs
theorem fq (s:ByteArray):∀(attr1:Bool) (out:ByteArray) (i:Int),Ok (BJ s attr1 out i) WQ (ev AI eB (.loop Rq) [.lv 0, .th Rr] (B8 (List.replicate 43 .dead) [(0, .t (.v (.string s))),(1, .t (.v (.bool attr1))),(5, .t (.v (.string out))),(6, .t (.v (.int .i64 i)))]) (B9 (List.replicate 43 []) [])):=by
 unfold Ok
 refine BJ.partial_correctness s _ ?_
 intro F ih attr1 out i
 show Ok _ _ _
 have ih:∀(attr1:Bool) (out:ByteArray) (i:Int),Ok (F attr1 out i) _ _:=ih
 rw[AV]
 have k0:= @Rq.eq_1;have k1:= @Rr.eq_1;have t0:=ih
 exact gs
theorem bi : ∀ (s:ByteArray) (attr:Bool),Ok (Pv s attr) WQ (dn AI WJ [.t (.v (.string s)), .t (.v (.bool attr))]):=by
 intro s attr
 rw[A5 AI (fn:=Su) rfl (xN rfl rfl _) (lB rfl)]
 have k0:= @Su.eq_1;have f0:= @Pv.eq_1;have t0:=fq
 exact gs
theorem jH : ∀ (s:ByteArray),Ok (Og s) YU (dn AI Y3 [.t (.v (.string s))]):=by
 intro s
 rw[A5 AI (fn:=Na) rfl (xN rfl rfl _) (lB rfl)]
 have k0:= @Na.eq_1;have f0:= @Og.eq_1;have g0:=bi
 exact gs
theorem XE : ∀ (s:ByteArray),Ok (Ji s) YV (dn AI Td [.t (.v (.string s))]):=by
 intro s
 rw[A5 AI (fn:=Nb) rfl (xN rfl rfl _) (lB rfl)]
 have k0:= @Nb.eq_1;have f0:= @Ji.eq_1;have g0:=bi
 exact gs
end TT
