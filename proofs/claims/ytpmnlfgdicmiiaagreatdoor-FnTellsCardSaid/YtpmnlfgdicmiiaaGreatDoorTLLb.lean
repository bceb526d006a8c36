import Derived.Test.YtpmnlfgdicmiiaaGreatDoorTLLa
set_option maxHeartbeats 2000000
set_option linter.unusedVariables false
set_option linter.unusedSimpArgs false
set_option linter.defProp false
set_option maxRecDepth 100000
namespace TT
open Go
open Nat (reduceAdd reduceSub reduceMul reduceLeDiff reduceLT reduceEqDiff)
theorem Hq : ∀ (a0:Int) (least:Int) (most:Int),Ok (CH a0 least most) gu (dn AL Ea [.t (.v (.int .i64 a0)), .t (.v (.int .i64 least)), .t (.v (.int .i64 most))]):=by
 intro a0 least most
 rw[AB AL (fn:=Ui) rfl (xN rfl rfl _) (lB rfl)]
 have k0:= @Ui.eq_1;have f0:= @CH.eq_1
 exact gs
theorem be (s:ByteArray) (at1 n least:Int):∀(v1:Int) (i:Int),Ok (BX s at1 n least v1 i) Jq (ev AL M7 (.loop Om) [.lv 1, .th On] (BO (List.replicate 102 .dead) [(0, .t (.v (.string s))),(1, .t (.v (.int .i64 at1))),(8, .t (.v (.int .i64 n))),(9, .t (.v (.int .i64 least))),(10, .t (.v (.int .i64 v1))),(11, .t (.v (.int .i64 i)))]) (BP (List.replicate 102 []) [])):=by
 unfold Ok
 refine BX.partial_correctness s at1 n least _ ?_
 intro F ih v1 i
 show Ok _ _ _
 have ih:∀(v1:Int) (i:Int),Ok (F v1 i) _ _:=ih
 rw[AZ]
 have k0:= @Om.eq_1;have k1:= @On.eq_1;have g0:=Hq;have t0:=ih
 exact gs
theorem UP : ∀ (s:ByteArray) (at1:Int) (n:Int) (least:Int) (v:Int),Ok (Ds s at1 n least v) Jq (ev AL M7 HP [] (BO (List.replicate 102 .dead) [(0, .t (.v (.string s))),(1, .t (.v (.int .i64 at1))),(8, .t (.v (.int .i64 n))),(9, .t (.v (.int .i64 least))),(10, .t (.v (.int .i64 v)))]) (BP (List.replicate 102 []) [])):=by
 intro s at1 n least v
 have k0:= @HP.eq_1;have f0:= @Ds.eq_1;have t0:=be
 exact gs
theorem bg : ∀ (s:ByteArray) (at1:Int) (x:Int) (x2:Bool),Ok (Eb s at1 x x2) Jq (ev AL M7 Oj [.lv 0, .hk [.clean []], .th HP] (BO (List.replicate 102 .dead) [(0, .t (.v (.string s))),(1, .t (.v (.int .i64 at1))),(7, .t (.v (.int .i64 (wr .i64 x)))),(39, .t (.v (.bool x2)))]) (BP (List.replicate 102 []) [])):=by
 intro s at1 x x2
 have k0:= @Oj.eq_1;have f0:= @Eb.eq_1;have t0:=UP
 exact gs
theorem bh : ∀ (s:ByteArray) (at1:Int) (x:Int) (x1:Bool),Ok (Ec s at1 x x1) Jq (ev AL M7 Ol [.lv 0, .hk [.clean []], .th HP] (BO (List.replicate 102 .dead) [(0, .t (.v (.string s))),(1, .t (.v (.int .i64 at1))),(7, .t (.v (.int .i64 (wr .i64 x)))),(30, .t (.v (.bool x1)))]) (BP (List.replicate 102 []) [])):=by
 intro s at1 x x1
 have k0:= @Ol.eq_1;have f0:= @Ec.eq_1;have t0:=UP;have t1:=bg
 exact gs
theorem Yn : ∀ (s:ByteArray) (at1:Int),Ok (G9 s at1) Jq (dn AL V6 [.t (.v (.string s)), .t (.v (.int .i64 at1))]):=by
 intro s at1
 rw[AB AL (fn:=Qt) rfl (xN rfl rfl _) (lB rfl)]
 have k0:= @Qt.eq_1;have f0:= @G9.eq_1;have t0:=bh
 exact gs
theorem Zh (n:Int) (l:List Int):∀(i:Int),Ok (BE n l i) SN (ev AL XH (.loop Mz) [.lv 0, .th N0] (BO (List.replicate 24 .dead) [(0, .t (.v (.int .i64 n))),(1, .t (.sl false (l.map rI))),(5, .t (.v (.int .i64 i)))]) (BP (List.replicate 24 []) [])):=by
 unfold Ok
 refine BE.partial_correctness n l _ ?_
 intro F ih i
 show Ok _ _ _
 have ih:∀(i:Int),Ok (F i) _ _:=ih
 rw[AZ]
 have k0:= @Mz.eq_1;have k1:= @N0.eq_1;have g0:=Hq;have t0:=ih
 exact gs
theorem WD : ∀ (n:Int) (l:List Int),Ok (FI n l) SN (dn AL Rq [.t (.v (.int .i64 n)), .t (.sl false (l.map rI))]):=by
 intro n l
 rw[AB AL (fn:=Mc) rfl (xN rfl rfl _) (lB rfl)]
 have k0:= @Mc.eq_1;have f0:= @FI.eq_1;have t0:=Zh
 exact gs
theorem XT : ∀ (n:Int),Ok (EP n) YP (dn AL Tx [.t (.v (.int .i64 n))]):=by
 intro n
 rw[AB AL (fn:=Oo) rfl (xN rfl rfl _) (lB rfl)]
 have k0:= @Oo.eq_1;have f0:= @EP.eq_1;have g0:=WD
 exact gs
theorem lO : ∀ (n:Int),Ok (FS n) aZ (dn AL aN [.t (.v (.int .i64 n))]):=by
 intro n
 rw[AB AL (fn:=Qu) rfl (xN rfl rfl _) (lB rfl)]
 have k0:= @Qu.eq_1;have f0:= @FS.eq_1;have g0:=XT;have g1:=WD
 exact gs
theorem Zi (s:ByteArray):∀(at1:Int),Ok (B6 s at1) U9 (ev AL YQ (.loop Mv) [.lv 0, .th Mw] (BO (List.replicate 39 .dead) [(0, .t (.v (.string s))),(3, .t (.v (.int .i64 at1)))]) (BP (List.replicate 39 []) [])):=by
 unfold Ok
 refine B6.partial_correctness s _ ?_
 intro F ih at1
 show Ok _ _ _
 have ih:∀(at1:Int),Ok (F at1) _ _:=ih
 rw[AZ]
 have k0:= @Mv.eq_1;have k1:= @Mw.eq_1;have g0:=Yn;have g1:=XT;have g2:=lO;have t0:=ih
 exact gs
theorem Fs : ∀ (s:ByteArray),Ok (BQ s) U9 (dn AL DD [.t (.v (.string s))]):=by
 intro s
 rw[AB AL (fn:=OW) rfl (xN rfl rfl _) (lB rfl)]
 have k0:= @OW.eq_1;have f0:= @BQ.eq_1;have g0:=Hq;have t0:=Zi
 exact gs
theorem bG : ∀ (s:ByteArray),Ok (Ke s) dT (dn AL We [.t (.v (.string s))]):=by
 intro s
 rw[AB AL (fn:=TQ) rfl (xN rfl rfl _) (lB rfl)]
 have k0:= @TQ.eq_1;have f0:= @Ke.eq_1
 exact gs
theorem bH : ∀ (s:ByteArray),Ok (EQ s) dU (dn AL Wg [.t (.v (.string s))]):=by
 intro s
 rw[AB AL (fn:=TO) rfl (xN rfl rfl _) (lB rfl)]
 have k0:= @TO.eq_1;have f0:= @EQ.eq_1;have g0:=Fs;have g1:=bG
 exact gs
theorem lP : ∀ (n:Int),Ok (Kf n) ac (dn AL aO [.t (.v (.int .i64 n))]):=by
 intro n
 rw[AB AL (fn:=Qx) rfl (xN rfl rfl _) (lB rfl)]
 have k0:= @Qx.eq_1;have f0:= @Kf.eq_1;have g0:=Hq
 exact gs
theorem bi (s:ByteArray):∀(at1:Int),Ok (CC s at1) UA (ev AL YR (.loop Oq) [.lv 0, .th Ot] (BO (List.replicate 29 .dead) [(0, .t (.v (.string s))),(3, .t (.v (.int .i64 at1)))]) (BP (List.replicate 29 []) [])):=by
 unfold Ok
 refine CC.partial_correctness s _ ?_
 intro F ih at1
 show Ok _ _ _
 have ih:∀(at1:Int),Ok (F at1) _ _:=ih
 rw[AZ]
 have k0:= @Oq.eq_1;have k1:= @Ot.eq_1;have g0:=Yn;have g1:=lP;have t0:=ih
 exact gs
theorem ib : ∀ (s:ByteArray),Ok (HU s) UA (dn AL YK [.t (.v (.string s))]):=by
 intro s
 rw[AB AL (fn:=Ou) rfl (xN rfl rfl _) (lB rfl)]
 have k0:= @Ou.eq_1;have f0:= @HU.eq_1;have t0:=bi
 exact gs
theorem PT : ∀ (s:ByteArray),Ok (Bv s) ae (dn AL FG [.t (.v (.string s))]):=by
 intro s
 rw[AB AL (fn:=Qm) rfl (xN rfl rfl _) (lB rfl)]
 have k0:= @Qm.eq_1;have f0:= @Bv.eq_1;have g0:=ib
 exact gs
theorem dt : ∀ (d:A2),Ok (Ge d) VC (ev AL af Q9 [] (BO (List.replicate 31 .dead) [(1, .ptr (1,0) [] 0 0 1 0)]) (BP (List.replicate 31 []) [(1,[.mem [[.v (.string d.Pre), .v (.string d.Uri)]] 0 false])])):=by
 intro d
 have k0:= @Q9.eq_1;have f0:= @Ge.eq_1;have g0:=PT
 exact gs
theorem lQ : ∀ (d:A2),Ok (Kg d) VC (dn AL aM [.agg ((A2.row d).map .t)]):=by
 intro d
 rw[AB AL (fn:=R4) rfl (xN rfl rfl _) (lB rfl)]
 have k0:= @R4.eq_1;have f0:= @Kg.eq_1;have g0:=Fs;have g1:=bG;have t0:=dt
 exact gs
theorem bj (l:List A2):∀(i:Int),Ok (CD l i) UB (ev AL YS (.loop P6) [.lv 0, .th P7] (BO (List.replicate 37 .dead) [(0, .t (.sl false (l.map A2.row))),(3, .t (.v (.int .i64 i)))]) (BP (List.replicate 37 []) [])):=by
 unfold Ok
 refine CD.partial_correctness l _ ?_
 intro F ih i
 show Ok _ _ _
 have ih:∀(i:Int),Ok (F i) _ _:=ih
 rw[AZ]
 have k0:= @P6.eq_1;have k1:= @P7.eq_1;have g0:=lQ;have t0:=ih
 exact gs
theorem ie : ∀ (l:List A2),Ok (Dt l) UB (dn AL YG [.t (.sl false (l.map A2.row))]):=by
 intro l
 rw[AB AL (fn:=P8) rfl (xN rfl rfl _) (lB rfl)]
 have k0:= @P8.eq_1;have f0:= @Dt.eq_1;have t0:=bj
 exact gs
theorem lR : ∀ (n:A0),Ok (J3 n) ah (dn AL QQ [.agg (((A0.row false) n).map .t)]):=by
 intro n
 rw[AB AL (fn:=R2) rfl (xN rfl rfl _) (lB rfl)]
 have k0:= @R2.eq_1;have f0:= @J3.eq_1
 exact gs
theorem fQ (s t:ByteArray):∀(i:Int),Ok (DN s t i) Wm (ev AL dV (.loop SJ) [.lv 0, .th SK] (BO (List.replicate 24 .dead) [(0, .t (.v (.string s))),(1, .t (.v (.string t))),(5, .t (.v (.int .i64 i)))]) (BP (List.replicate 24 []) [])):=by
 unfold Ok
 refine DN.partial_correctness s t _ ?_
 intro F ih i
 show Ok _ _ _
 have ih:∀(i:Int),Ok (F i) _ _:=ih
 rw[AZ]
 have k0:= @SJ.eq_1;have k1:= @SK.eq_1;have t0:=ih
 exact gs
theorem bI : ∀ (s:ByteArray) (t:ByteArray),Ok (Dz s t) Wm (dn AL J9 [.t (.v (.string s)), .t (.v (.string t))]):=by
 intro s t
 rw[AB AL (fn:=TH) rfl (xN rfl rfl _) (lB rfl)]
 have k0:= @TH.eq_1;have f0:= @Dz.eq_1;have t0:=fQ
 exact gs
end TT
