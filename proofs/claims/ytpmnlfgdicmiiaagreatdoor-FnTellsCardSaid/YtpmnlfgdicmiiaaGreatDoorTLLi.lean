import Derived.Test.YtpmnlfgdicmiiaaGreatDoorTLLh
set_option maxHeartbeats 2000000
set_option linter.unusedVariables false
set_option linter.unusedSimpArgs false
set_option linter.defProp false
set_option maxRecDepth 100000
namespace TT
open Go
open Nat (reduceAdd reduceSub reduceMul reduceLeDiff reduceLT reduceEqDiff)
theorem NF (s:List CU):∀(x1:Int) (f:ByteArray) (f1:ByteArray),Ok (D9 s x1 f f1) F9 (ev AL It (.loop H7) [.lv 0, .th H8] (BO (List.replicate 19 .dead) [(0, .t (.sl false (s.map CU.row))),(1, .fn Nt [.ptr (1,0) [] 0 0 1 0, .ptr (1,1) [] 0 0 1 0]),(7, .t (.v (.int .i64 (AD s)))),(8, .t (.v (.int .i64 x1)))]) (BP (List.replicate 19 []) [(1,[.mem [[.v (.string f)]] 0 true, .mem [[.v (.string f1)]] 0 true])])):=by
 unfold Ok
 refine D9.partial_correctness s _ ?_
 intro F ih x1 f f1
 show Ok _ _ _
 have ih:∀(x1:Int) (f:ByteArray) (f1:ByteArray),Ok (F x1 f f1) _ _:=ih
 rw[AZ]
 have k0:= @H7.eq_1;have k1:= @H8.eq_1;have g0:=iy;have t0:=ih
 exact gs
theorem PX : ∀ (s:List CU) (fc0:ByteArray) (fc1:ByteArray),Ok (Fq s fc0 fc1) F9 (dn AL Nv [.t (.sl false (s.map CU.row)), .fn Nt [.lp [.v (.string fc0)] 0, .lp [.v (.string fc1)] 0]]):=by
 intro s fc0 fc1
 rw[AB AL (fn:=G2) rfl (xN rfl rfl _) (lB rfl)]
 have k0:= @G2.eq_1;have f0:= @Fq.eq_1;have t0:=NF
 exact gs
theorem p8 : ∀ (l:List CU) (el:ByteArray) (at1:ByteArray),Ok (bX l el at1) dj (dn AL dB [.t (.sl false (l.map CU.row)), .t (.v (.string el)), .t (.v (.string at1))]):=by
 intro l el at1
 rw[AB AL (fn:=TI) rfl (xN rfl rfl _) (lB rfl)]
 have k0:= @TI.eq_1;have f0:= @bX.eq_1;have g0:=PX
 exact gs
theorem fY (n:A0) (h:Dm):∀(out:List (A5)) (x1:Int),Ok (I9 out n x1 h) Wq (ev AL dk (.loop SE) [.lv 0, .th SG] (BO (List.replicate 50 .dead) [(2, .ptr (2,0) [] 0 0 1 0),(3, .ptr (3,0) [] 0 0 1 0),(5, .ref (10,0) out.length),(12, .t (.sl false (n.Attrs.map A5.row))),(13, .t (.v (.int .i64 (AD n.Attrs)))),(14, .t (.v (.int .i64 x1)))]) (BP (List.replicate 50 []) [(2,[.mem [[.v (.int .i64 n.Kind), .v (.string n.Pre), .v (.string n.Local), .v (.string n.Uri), .sl false (n.Decls.map A2.row), .sl false (n.Attrs.map A5.row), .sl false (n.Kids.map (A0.row false)), .v (.string n.Text)]] 0 false]),(3,[.mem [[.v (.string h.Name), .sl false (h.Ents.map H6.row), .sl false (h.Defs.map CU.row)]] 0 false]),(10,[.mem (out.map A5.row) 0 false])])):=by
 unfold Ok
 refine I9.partial_correctness n h _ ?_
 intro F ih out x1
 show Ok _ _ _
 have ih:∀(out:List (A5)) (x1:Int),Ok (F out x1) _ _:=ih
 rw[AZ]
 have k0:= @SE.eq_1;have k1:= @SG.eq_1;have g0:=QH;have g1:=p8;have t0:=ih
 exact gs
theorem p9 : ∀ (n:A0) (h:Dm),Ok (bY n h) Wq (dn AL dC [.agg (((A0.row false) n).map .t), .agg (((Dm.row false) h).map .t)]):=by
 intro n h
 rw[AB AL (fn:=TC) rfl (xN rfl rfl _) (lB rfl)]
 have k0:= @TC.eq_1;have f0:= @bY.eq_1;have t0:=fY
 exact gs
theorem VW : ∀ (a:A5) (a1:ByteArray),Ok (Jy a a1) NV (dn AL Es [.agg ((A5.row a).map .t), .pp [.v (.string a1)]]):=by
 intro a a1
 rw[AB AL (fn:=Gv) rfl (xN rfl rfl _) (lB rfl)]
 have k0:= @Gv.eq_1;have f0:= @Jy.eq_1
 exact gs
theorem JX (s:List A5) (fc0:ByteArray):∀(x1:Int),Ok (Bw s fc0 x1) DL (ev AL FZ (.loop GY) [.lv 0, .th GZ] (BO (List.replicate 19 .dead) [(0, .t (.sl false (s.map A5.row))),(1, .fn Es [.pp [.v (.string fc0)]]),(7, .t (.v (.int .i64 (AD s)))),(8, .t (.v (.int .i64 x1)))]) (BP (List.replicate 19 []) [])):=by
 unfold Ok
 refine Bw.partial_correctness s fc0 _ ?_
 intro F ih x1
 show Ok _ _ _
 have ih:∀(x1:Int),Ok (F x1) _ _:=ih
 rw[AZ]
 have k0:= @GY.eq_1;have k1:= @GZ.eq_1;have g0:=VW;have t0:=ih
 exact gs
theorem KG : ∀ (s:List A5) (fc0:ByteArray),Ok (Dd s fc0) DL (dn AL NQ [.t (.sl false (s.map A5.row)), .fn Es [.pp [.v (.string fc0)]]]):=by
 intro s fc0
 rw[AB AL (fn:=Ff) rfl (xN rfl rfl _) (lB rfl)]
 have k0:= @Ff.eq_1;have f0:= @Dd.eq_1;have t0:=JX
 exact gs
theorem JY : ∀ (s:List A5) (fc0:ByteArray),Ok (D3 s fc0) Eg (dn AL KP [.t (.sl false (s.map A5.row)), .fn Es [.pp [.v (.string fc0)]]]):=by
 intro s fc0
 rw[AB AL (fn:=EN) rfl (xN rfl rfl _) (lB rfl)]
 have k0:= @EN.eq_1;have f0:= @D3.eq_1;have g0:=KG
 exact gs
theorem UR (f:Ah) (id:ByteArray) (r:List (List Int)):∀(x1:Int),Ok (Fi f id r x1) Jz (ev AL Pa (.loop Ib) [.lv 0, .th Ic] (BO (List.replicate 42 .dead) [(0, .pp [.v (.int .i64 f.xt.Kind), .v (.string f.xt.Pre), .v (.string f.xt.Local), .v (.string f.xt.Uri), .sl false (f.xt.Decls.map A2.row), .sl false (f.xt.Attrs.map A5.row), .sl false (f.xt.Kids.map (A0.row false)), .v (.string f.xt.Text), .v (.string f.xh.Name), .sl false (f.xh.Ents.map H6.row), .sl false (f.xh.Defs.map CU.row), .sl false (f.xl.map A2.row)]),(3, .pp [.v (.string id)]),(16, .t (.sl false (r.map (rL false rI)))),(17, .t (.v (.int .i64 (AD r)))),(18, .t (.v (.int .i64 x1)))]) (BP (List.replicate 42 []) [(3,[.dead])])):=by
 unfold Ok
 refine Fi.partial_correctness f id r _ ?_
 intro F ih x1
 show Ok _ _ _
 have ih:∀(x1:Int),Ok (F x1) _ _:=ih
 rw[AZ]
 have k0:= @Ib.eq_1;have k1:= @Ic.eq_1;have g0:=Iv;have g1:=p9;have g2:=JY;have t0:=ih
 exact gs
theorem Ws : ∀ (f:Ah) (id:ByteArray),Ok (IQ f id) Jz (dn AL SY [.pp [.v (.int .i64 f.xt.Kind), .v (.string f.xt.Pre), .v (.string f.xt.Local), .v (.string f.xt.Uri), .sl false (f.xt.Decls.map A2.row), .sl false (f.xt.Attrs.map A5.row), .sl false (f.xt.Kids.map (A0.row false)), .v (.string f.xt.Text), .v (.string f.xh.Name), .sl false (f.xh.Ents.map H6.row), .sl false (f.xh.Defs.map CU.row), .sl false (f.xl.map A2.row)], .t (.v (.string id))]):=by
 intro f id
 rw[AB AL (fn:=IK) rfl (xN rfl rfl _) (lB rfl)]
 have k0:= @IK.eq_1;have f0:= @IQ.eq_1;have g0:=Z4;have t0:=UR
 exact gs
theorem Wt : ∀ (x3:Int) (n1:Int),Ok (IR x3 n1) KF (ev AL PR Jw [] (BO (List.replicate 25 .dead) [(0, .t (.v (.int .u64 x3))),(2, .t (.v (.int .i64 n1)))]) (BP (List.replicate 25 []) [])):=by
 intro x3 n1
 have k0:= @Jw.eq_1;have f0:= @IR.eq_1
 exact gs
theorem Xd : ∀ (x1:Int) (n:Int),Ok (JU x1 n) KF (ev AL PR Kd [] (BO (List.replicate 25 .dead) [(0, .t (.v (.int .u64 x1))),(2, .t (.v (.int .i64 n)))]) (BP (List.replicate 25 []) [])):=by
 intro x1 n
 have k0:= @Kd.eq_1;have f0:= @JU.eq_1;have t0:=Wt
 exact gs
theorem cF : ∀ (a0:Int),Ok (SM a0) KF (dn AL Ue [.t (.v (.int .u64 a0))]):=by
 intro a0
 rw[AB AL (fn:=KC) rfl (xN rfl rfl _) (lB rfl)]
 have k0:= @KC.eq_1;have f0:= @SM.eq_1;have t0:=Xd
 exact gs
theorem fZ : ∀ (a0:Int),Ok (R6 a0) XO (dn AL XE [.t (.v (.int .u64 a0))]):=by
 intro a0
 rw[AB AL (fn:=MZ) rfl (xN rfl rfl _) (lB rfl)]
 have k0:= @MZ.eq_1;have f0:= @R6.eq_1;have g0:=cF
 exact gs
theorem fb : ∀ (a0:Int),Ok (M5 a0) XP (dn AL Ro [.t (.v (.int .i64 a0))]):=by
 intro a0
 rw[AB AL (fn:=Mg) rfl (xN rfl rfl _) (lB rfl)]
 have k0:= @Mg.eq_1;have f0:= @M5.eq_1
 exact gs
theorem cH : ∀ (a0:Int) (y:Int),Ok (Jk a0 y) Uq (dn AL Uc [.t (.v (.int .i64 a0)), .t (.v (.int .i64 y))]):=by
 intro a0 y
 rw[AB AL (fn:=KD) rfl (xN rfl rfl _) (lB rfl)]
 have k0:= @KD.eq_1;have f0:= @Jk.eq_1;have g0:=fb
 exact gs
theorem VX (s1 s2:List Int):∀(x2:Int),Ok (C7 s1 s2 x2) Ks (ev AL RZ (.loop Ih) [.lv 0, .th Ii] (BO (List.replicate 36 .dead) [(0, .t (.sl false (s1.map rI))),(1, .t (.sl false (s2.map rI))),(9, .t (.sl false (s1.map rI))),(10, .t (.v (.int .i64 (AD s1)))),(11, .t (.v (.int .i64 x2)))]) (BP (List.replicate 36 []) [])):=by
 unfold Ok
 refine C7.partial_correctness s1 s2 _ ?_
 intro F ih x2
 show Ok _ _ _
 have ih:∀(x2:Int),Ok (F x2) _ _:=ih
 rw[AZ]
 have k0:= @Ih.eq_1;have k1:= @Ii.eq_1;have g0:=cH;have t0:=ih
 exact gs
theorem Xe : ∀ (s1:List Int) (s2:List Int),Ok (JV s1 s2) Ks (dn AL RQ [.t (.sl false (s1.map rI)), .t (.sl false (s2.map rI))]):=by
 intro s1 s2
 rw[AB AL (fn:=HR) rfl (xN rfl rfl _) (lB rfl)]
 have k0:= @HR.eq_1;have f0:= @JV.eq_1;have t0:=VX
 exact gs
theorem Xf : ∀ (a:List Int) (b:List Int),Ok (Gm a b) Ra (dn AL DC [.t (.sl false (a.map rI)), .t (.sl false (b.map rI))]):=by
 intro a b
 rw[AB AL (fn:=HQ) rfl (xN rfl rfl _) (lB rfl)]
 have k0:= @HQ.eq_1;have f0:= @Gm.eq_1;have g0:=Xe
 exact gs
theorem G5 (a b:Int):(∀(data3:List (List Int)) (i:Int) (j1:Int),Ok (AM data3 a b i j1) BG (ev AL By (.loop DH) [.lv 2, .lv 1, .th DI, .hk [.clean []], .th (.loop C4), .lv 0] (BO (List.replicate 53 .dead) [(0, .ref (0,0) data3.length),(1, .t (.v (.int .i64 a))),(2, .t (.v (.int .i64 b))),(3, .fn DC []),(8, .t (.v (.int .i64 i))),(9, .t (.v (.int .i64 j1)))]) (BP (List.replicate 53 []) [(0,[.mem (data3.map (rL false rI)) 0 true])])))∧
  (∀(data2:List (List Int)) (i:Int),Ok (AQ data2 a b i) BG (ev AL By (.loop C4) [.lv 0] (BO (List.replicate 53 .dead) [(0, .ref (0,0) data2.length),(1, .t (.v (.int .i64 a))),(2, .t (.v (.int .i64 b))),(3, .fn DC []),(8, .t (.v (.int .i64 i)))]) (BP (List.replicate 53 []) [(0,[.mem (data2.map (rL false rI)) 0 true])]))):=by
 unfold Ok
 refine AM.mutual_partial_correctness a b _ _ ?_ ?_
 ·intro F0 F1 ih0 ih1 data3 i j1
  show Ok _ _ _
  have ih0:∀(data3:List (List Int)) (i:Int) (j1:Int),Ok (F0 data3 i j1) _ _:=ih0
  have ih1:∀(data2:List (List Int)) (i:Int),Ok (F1 data2 i) _ _:=ih1
  rw[AZ]
  have k0:= @DH.eq_1;have k1:= @DI.eq_1;have g0:=Xf;have t0:=ih0;have t1:=ih1
  exact gs
 ·intro F0 ih0 data2 i
  show Ok _ _ _
  have ih0:∀(data3:List (List Int)) (i:Int) (j1:Int),Ok (F0 data3 i j1) _ _:=ih0
  rw[AZ]
  have k0:= @C4.eq_1;have t0:=ih0
  exact gs
theorem Gw : ∀ (data:List (List Int)) (a:Int) (b:Int),Ok (BR data a b) BG (dn AL GS [.ln (data.map (rL false rI)), .t (.v (.int .i64 a)), .t (.v (.int .i64 b)), .fn DC []]):=by
 intro data a b
 rw[AB AL (fn:=CW) rfl (xN rfl rfl _) (lB rfl)]
 have k0:= @CW.eq_1;have f0:= @BR.eq_1;have t0:=fun a0 a1=>(G5 a0 a1).2
 exact gs
theorem IB : ∀ (data:List (List Int)) (a:Int) (b:Int) (limit:Int),Ok (Ba data a b limit) Ce (ev AL EU (.loop Ei) [.lv 0] (BO (List.replicate 148 .dead) [(0, .ref (0,0) data.length),(1, .t (.v (.int .i64 a))),(2, .t (.v (.int .i64 b))),(3, .t (.v (.int .i64 limit))),(4, .fn DC []),(10, .t (.v (.bool true))),(11, .t (.v (.bool true)))]) (BP (List.replicate 148 []) [(0,[.mem (data.map (rL false rI)) 0 true])])):=by
 intro data a b limit
 rw[AZ]
 have k0:= @Ei.eq_1;have f0:= @Ba.eq_1;have g0:=Gw
 exact gs
theorem Iz : ∀ (data:List (List Int)) (a:Int) (b:Int) (limit:Int),Ok (Bt data a b limit) Ce (dn AL Dp [.ln (data.map (rL false rI)), .t (.v (.int .i64 a)), .t (.v (.int .i64 b)), .t (.v (.int .i64 limit)), .fn DC []]):=by
 intro data a b limit
 rw[AB AL (fn:=Dr) rfl (xN rfl rfl _) (lB rfl)]
 have k0:= @Dr.eq_1;have f0:= @Bt.eq_1;have t0:=IB
 exact gs
theorem LX : ∀ (a0:List (List Int)),Ok (Bq a0) Fw (dn AL Nw [.ln (a0.map (rL false rI)), .fn DC []]):=by
 intro a0
 rw[AB AL (fn:=G1) rfl (xN rfl rfl _) (lB rfl)]
 have k0:= @G1.eq_1;have f0:= @Bq.eq_1;have g0:=fZ;have g1:=Iz
 exact gs
end TT
