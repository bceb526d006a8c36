import Derived.Test.YtpmnlfgdicmiiaaGreatDoorTLLd
set_option maxHeartbeats 2000000
set_option linter.unusedVariables false
set_option linter.unusedSimpArgs false
set_option linter.defProp false
set_option maxRecDepth 100000
namespace TT
open Go
open Nat (reduceAdd reduceSub reduceMul reduceLeDiff reduceLT reduceEqDiff)
theorem lW : ∀ (n:Int),Ok (NU n) au (dn AL aC [.t (.v (.int .i64 n))]):=by
 intro n
 rw[AB AL (fn:=Qs) rfl (xN rfl rfl _) (lB rfl)]
 have k0:= @Qs.eq_1;have f0:= @NU.eq_1;have g0:=XV;have g1:=VR
 exact gs
theorem br (s:ByteArray):∀(at1:Int),Ok (Du s at1) UF (ev AL YX (.loop OT) [.lv 0, .th OU] (BO (List.replicate 38 .dead) [(0, .t (.v (.string s))),(3, .t (.v (.int .i64 at1)))]) (BP (List.replicate 38 []) [])):=by
 unfold Ok
 refine Du.partial_correctness s _ ?_
 intro F ih at1
 show Ok _ _ _
 have ih:∀(at1:Int),Ok (F at1) _ _:=ih
 rw[AZ]
 have k0:= @OT.eq_1;have k1:= @OU.eq_1;have g0:=Yw;have g1:=XV;have g2:=lW;have g3:=QG;have t0:=ih
 exact gs
theorem Ft : ∀ (s:ByteArray),Ok (CA s) UF (dn AL Cg [.t (.v (.string s))]):=by
 intro s
 rw[AB AL (fn:=OV) rfl (xN rfl rfl _) (lB rfl)]
 have k0:= @OV.eq_1;have f0:= @CA.eq_1;have t0:=br
 exact gs
theorem UQ : ∀ (pre:ByteArray) (local1:ByteArray),Ok (Kj pre local1) av (dn AL QL [.t (.v (.string pre)), .t (.v (.string local1))]):=by
 intro pre local1
 rw[AB AL (fn:=Qk) rfl (xN rfl rfl _) (lB rfl)]
 have k0:= @Qk.eq_1;have f0:= @Kj.eq_1;have g0:=Ft
 exact gs
theorem lX : ∀ (n:Int),Ok (RW n) aw (dn AL aD [.t (.v (.int .i64 n))]):=by
 intro n
 rw[AB AL (fn:=Qw) rfl (xN rfl rfl _) (lB rfl)]
 have k0:= @Qw.eq_1;have f0:= @RW.eq_1;have g0:=VR
 exact gs
theorem bt (s:ByteArray):∀(at1:Int),Ok (Dv s at1) UG (ev AL YY (.loop Og) [.lv 0, .th Oh] (BO (List.replicate 26 .dead) [(0, .t (.v (.string s))),(3, .t (.v (.int .i64 at1)))]) (BP (List.replicate 26 []) [])):=by
 unfold Ok
 refine Dv.partial_correctness s _ ?_
 intro F ih at1
 show Ok _ _ _
 have ih:∀(at1:Int),Ok (F at1) _ _:=ih
 rw[AZ]
 have k0:= @Og.eq_1;have k1:= @Oh.eq_1;have g0:=Yw;have g1:=lX;have t0:=ih
 exact gs
theorem il : ∀ (s:ByteArray),Ok (LN s) UG (dn AL YF [.t (.v (.string s))]):=by
 intro s
 rw[AB AL (fn:=Oi) rfl (xN rfl rfl _) (lB rfl)]
 have k0:= @Oi.eq_1;have f0:= @LN.eq_1;have t0:=bt
 exact gs
theorem Iw : ∀ (s:ByteArray),Ok (E3 s) ax (dn AL I4 [.t (.v (.string s))]):=by
 intro s
 rw[AB AL (fn:=Ql) rfl (xN rfl rfl _) (lB rfl)]
 have k0:= @Ql.eq_1;have f0:= @E3.eq_1;have g0:=il
 exact gs
theorem IS : ∀ (s:ByteArray) (t:ByteArray),Ok (strings_Contains s t) N9 (dn AL CV [.t (.v (.string s)), .t (.v (.string t))]):=by
 intro s t r hr
 exact L5 AL.ft (xOf AL) (o8 s t (e:=N9) (fun _=>rfl) hr)
theorem bJ : ∀ (s:ByteArray),Ok (JS s) da (dn AL T4 [.t (.v (.string s))]):=by
 intro s
 rw[AB AL (fn:=TB) rfl (xN rfl rfl _) (lB rfl)]
 have k0:= @TB.eq_1;have f0:= @JS.eq_1;have g0:=Iw;have g1:=IS
 exact gs
theorem bu : ∀ (named:Bool) (element:Bool) (p:AH) (x:Bool),Ok (Ji named element p x) MA (ev AL RA PB [.lv 0, .th Q6] (BO (List.replicate 75 .dead) [(2, .ptr (2,0) [] 0 0 1 0),(5, .t (.v (.bool named))),(6, .t (.v (.bool element))),(22, .t (.v (.int .i64 p.Kind))),(37, .t (.v (.bool x)))]) (BP (List.replicate 75 []) [(2,[.mem [[.v (.int .i64 p.Kind), .v (.int .i64 p.N), .v (.string p.Pre), .v (.string p.Local), .v (.string p.Val)]] 0 false])])):=by
 intro named element p x
 have k0:= @PB.eq_1;have k1:= @Q6.eq_1;have f0:= @Ji.eq_1;have g0:=UQ;have g1:=bJ
 exact gs
theorem eC : ∀ (named:Bool) (element:Bool) (p:AH),Ok (Gi named element p) MA (ev AL RA Q7 [] (BO (List.replicate 75 .dead) [(2, .ptr (2,0) [] 0 0 1 0),(5, .t (.v (.bool named))),(6, .t (.v (.bool element)))]) (BP (List.replicate 75 []) [(2,[.mem [[.v (.int .i64 p.Kind), .v (.int .i64 p.N), .v (.string p.Pre), .v (.string p.Local), .v (.string p.Val)]] 0 false])])):=by
 intro named element p
 have k0:= @Q7.eq_1;have f0:= @Gi.eq_1;have g0:=QG;have t0:=bu
 exact gs
theorem eD : ∀ (kind:Int) (named:Bool) (p:AH),Ok (Gj kind named p) MA (ev AL RA Q8 [] (BO (List.replicate 75 .dead) [(1, .t (.v (.int .i64 kind))),(2, .ptr (2,0) [] 0 0 1 0),(5, .t (.v (.bool named)))]) (BP (List.replicate 75 []) [(2,[.mem [[.v (.int .i64 p.Kind), .v (.int .i64 p.N), .v (.string p.Pre), .v (.string p.Local), .v (.string p.Val)]] 0 false])])):=by
 intro kind named p
 have k0:= @Q8.eq_1;have f0:= @Gj.eq_1;have t0:=eC
 exact gs
theorem lY : ∀ (p:AH) (kind:Int),Ok (GC p kind) MA (dn AL aJ [.agg ((AH.row p).map .t), .t (.v (.int .i64 kind))]):=by
 intro p kind
 rw[AB AL (fn:=R3) rfl (xN rfl rfl _) (lB rfl)]
 have k0:= @R3.eq_1;have f0:= @GC.eq_1;have t0:=eD
 exact gs
theorem fU : ∀ (p:AH) (a1:AE),Ok (I6 p a1) XK (dn AL Jc [.agg ((AH.row p).map .t), .lp [.v (.bool a1.Deep), .v (.int .i64 a1.Kind), .v (.string a1.Pre), .v (.string a1.Local), .sl false (a1.Preds.map AH.row)] 0]):=by
 intro p a1
 rw[AB AL (fn:=Mb) rfl (xN rfl rfl _) (lB rfl)]
 have k0:= @Mb.eq_1;have f0:= @I6.eq_1;have g0:=lY
 exact gs
theorem Lm (s:List AH):∀(x1:Int) (f:AE),Ok (AU s x1 f) ET (ev AL Hj (.loop DF) [.lv 0, .th DG] (BO (List.replicate 19 .dead) [(0, .t (.sl false (s.map AH.row))),(1, .fn Jc [.ptr (1,0) [] 0 0 1 0]),(7, .t (.v (.int .i64 (AD s)))),(8, .t (.v (.int .i64 x1)))]) (BP (List.replicate 19 []) [(1,[.mem [[.v (.bool f.Deep), .v (.int .i64 f.Kind), .v (.string f.Pre), .v (.string f.Local), .sl false (f.Preds.map AH.row)]] 0 true])])):=by
 unfold Ok
 refine AU.partial_correctness s _ ?_
 intro F ih x1 f
 show Ok _ _ _
 have ih:∀(x1:Int) (f:AE),Ok (F x1 f) _ _:=ih
 rw[AZ]
 have k0:= @DF.eq_1;have k1:= @DG.eq_1;have g0:=fU;have t0:=ih
 exact gs
theorem Na : ∀ (s:List AH) (fc0:AE),Ok (CJ s fc0) ET (dn AL IZ [.t (.sl false (s.map AH.row)), .fn Jc [.lp [.v (.bool fc0.Deep), .v (.int .i64 fc0.Kind), .v (.string fc0.Pre), .v (.string fc0.Local), .sl false (fc0.Preds.map AH.row)] 0]]):=by
 intro s fc0
 rw[AB AL (fn:=D4) rfl (xN rfl rfl _) (lB rfl)]
 have k0:= @D4.eq_1;have f0:= @CJ.eq_1;have t0:=Lm
 exact gs
theorem Ln : ∀ (s:List AH) (fc0:AE),Ok (As s fc0) GI (dn AL EK [.t (.sl false (s.map AH.row)), .fn Jc [.lp [.v (.bool fc0.Deep), .v (.int .i64 fc0.Kind), .v (.string fc0.Pre), .v (.string fc0.Local), .sl false (fc0.Preds.map AH.row)] 0]]):=by
 intro s fc0
 rw[AB AL (fn:=CG) rfl (xN rfl rfl _) (lB rfl)]
 have k0:= @CG.eq_1;have f0:= @As.eq_1;have g0:=Na
 exact gs
theorem bv : ∀ (end1:Bool) (r:Bool×AE) (x:Bool) (sDeep:Bool),Ok (CE end1 r x sDeep) RB (ev AL VL OG [.lv 0, .th OH] (BO (List.replicate 87 .dead) [(2, .ptr (2,0) [] 0 0 1 0),(5, .t (.v (.bool end1))),(29, .t (.v (.int .i64 r.2.Kind))),(37, .t (.v (.bool x)))]) (BP (List.replicate 87 []) [(2,[.mem [[.v (.bool sDeep), .v (.int .i64 r.2.Kind), .v (.string r.2.Pre), .v (.string r.2.Local), .sl false (r.2.Preds.map AH.row)]] 0 false])])):=by
 intro end1 r x sDeep
 have k0:= @OG.eq_1;have k1:= @OH.eq_1;have f0:= @CE.eq_1;have g0:=Ft;have g1:=UQ
 exact gs
theorem bw : ∀ (end1:Bool) (sDeep:Bool) (r:Bool×AE),Ok (Ed end1 sDeep r) RB (ev AL VL OI [] (BO (List.replicate 87 .dead) [(2, .ptr (2,0) [] 0 0 1 0),(5, .t (.v (.bool end1)))]) (BP (List.replicate 87 []) [(2,[.mem [[.v (.bool sDeep), .v (.int .i64 r.2.Kind), .v (.string r.2.Pre), .v (.string r.2.Local), .sl false (r.2.Preds.map AH.row)]] 0 false])])):=by
 intro end1 sDeep r
 have k0:= @OI.eq_1;have f0:= @Ed.eq_1;have g0:=UQ;have t0:=bv
 exact gs
theorem lZ : ∀ (s:AE) (last:Bool),Ok (Kk s last) RB (dn AL aK [.agg (((AE.row false) s).map .t), .t (.v (.bool last))]):=by
 intro s last
 rw[AB AL (fn:=Qc) rfl (xN rfl rfl _) (lB rfl)]
 have k0:= @Qc.eq_1;have f0:= @Kk.eq_1;have g0:=Ln;have t0:=bw
 exact gs
theorem fV (s:B8):∀(x1:Int),Ok (EF s x1) Wo (ev AL db (.loop Ry) [.lv 0, .th Rz] (BO (List.replicate 41 .dead) [(1, .ptr (1,0) [] 0 0 1 0),(3, .t (.v (.int .i64 (AD s.Steps)))),(10, .t (.sl false (s.Steps.map (AE.row false)))),(11, .t (.v (.int .i64 (AD s.Steps)))),(12, .t (.v (.int .i64 x1)))]) (BP (List.replicate 41 []) [(1,[.mem [[.v (.string s.Id), .sl false (s.Steps.map (AE.row false))]] 0 false])])):=by
 unfold Ok
 refine EF.partial_correctness s _ ?_
 intro F ih x1
 show Ok _ _ _
 have ih:∀(x1:Int),Ok (F x1) _ _:=ih
 rw[AZ]
 have k0:= @Ry.eq_1;have k1:= @Rz.eq_1;have g0:=lZ;have g1:=bJ;have t0:=ih
 exact gs
theorem VS : ∀ (s:B8),Ok (I7 s) Wo (dn AL Sy [.agg (((B8.row false) s).map .t)]):=by
 intro s
 rw[AB AL (fn:=T7) rfl (xN rfl rfl _) (lB rfl)]
 have k0:= @T7.eq_1;have f0:= @I7.eq_1;have t0:=fV
 exact gs
theorem im : ∀ (t:A0) (path:List Int) (a:A5),Ok (PG t path a) YZ (dn AL YB [.agg (((A0.row false) t).map .t), .t (.sl false (path.map rI)), .agg ((A5.row a).map .t)]):=by
 intro t path a
 rw[AB AL (fn:=O6) rfl (xN rfl rfl _) (lB rfl)]
 have k0:= @O6.eq_1;have f0:= @PG.eq_1;have g0:=Yt;have g1:=VS
 exact gs
theorem XX (s:ByteArray):∀(i:Int),Ok (BY s i) QE (ev AL W5 (.loop KZ) [.lv 0, .th Ka] (BO (List.replicate 39 .dead) [(0, .t (.v (.string s))),(5, .t (.v (.int .i64 i)))]) (BP (List.replicate 39 []) [])):=by
 unfold Ok
 refine BY.partial_correctness s _ ?_
 intro F ih i
 show Ok _ _ _
 have ih:∀(i:Int),Ok (F i) _ _:=ih
 rw[AZ]
 have k0:= @KZ.eq_1;have k1:= @Ka.eq_1;have g0:=Fs;have t0:=ih
 exact gs
end TT
