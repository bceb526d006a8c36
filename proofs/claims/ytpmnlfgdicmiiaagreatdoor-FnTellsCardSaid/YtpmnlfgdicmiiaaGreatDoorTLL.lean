import Derived.Test.YtpmnlfgdicmiiaaGreatDoorTLLj
set_option maxHeartbeats 2000000
set_option linter.unusedVariables false
set_option linter.unusedSimpArgs false
set_option linter.defProp false
set_option maxRecDepth 100000
namespace TT
open Go
open Nat (reduceAdd reduceSub reduceMul reduceLeDiff reduceLT reduceEqDiff)
theorem cJ (s:B8):(∀(out4:ByteArray) (x12:Int) (xDeep1:Bool) (x13:AE),Ok (DX out4 s x12 xDeep1 x13) Iu (ev AL Kv Mq [.lv 1, .th JB, .hk [.clean []], .th (.loop GU), .lv 0, .th GV] (BO (List.replicate 63 .dead) [(1, .ptr (1,0) [] 0 0 1 0),(3, .t (.v (.string out4))),(5, .ptr (5,0) [] 0 0 1 0),(20, .t (.sl false (s.Steps.map (AE.row false)))),(21, .t (.v (.int .i64 (AD s.Steps)))),(22, .t (.v (.int .i64 x12)))]) (BP (List.replicate 63 []) [(1,[.mem [[.v (.string s.Id), .sl false (s.Steps.map (AE.row false))]] 0 false]),(5,[.mem [[.v (.bool xDeep1), .v (.int .i64 x13.Kind), .v (.string x13.Pre), .v (.string x13.Local), .sl false (x13.Preds.map AH.row)]] 0 false])])))∧
  (∀(out5:ByteArray) (x12:Int) (x13:AE) (x20:Int),Ok (Iq out5 s x12 x13 x20) Iu (ev AL Kv (.loop Mp) [.lv 3, .lv 1, .th JB, .hk [.clean []], .th (.loop GU), .lv 0, .th GV] (BO (List.replicate 63 .dead) [(1, .ptr (1,0) [] 0 0 1 0),(3, .t (.v (.string out5))),(20, .t (.sl false (s.Steps.map (AE.row false)))),(21, .t (.v (.int .i64 (AD s.Steps)))),(22, .t (.v (.int .i64 x12))),(47, .t (.sl false (x13.Preds.map AH.row))),(48, .t (.v (.int .i64 (AD x13.Preds)))),(49, .t (.v (.int .i64 x20)))]) (BP (List.replicate 63 []) [(1,[.mem [[.v (.string s.Id), .sl false (s.Steps.map (AE.row false))]] 0 false])])))∧
  (∀(out3:ByteArray) (x12:Int),Ok (F8 out3 s x12) Iu (ev AL Kv (.loop GU) [.lv 0, .th GV] (BO (List.replicate 63 .dead) [(1, .ptr (1,0) [] 0 0 1 0),(3, .t (.v (.string out3))),(20, .t (.sl false (s.Steps.map (AE.row false)))),(21, .t (.v (.int .i64 (AD s.Steps)))),(22, .t (.v (.int .i64 x12)))]) (BP (List.replicate 63 []) [(1,[.mem [[.v (.string s.Id), .sl false (s.Steps.map (AE.row false))]] 0 false])]))):=by
 unfold Ok
 refine DX.mutual_partial_correctness s _ _ _ ?_ ?_ ?_
 ·intro F1 ih1 out4 x12 xDeep1 x13
  show Ok _ _ _
  have ih1:∀(out5:ByteArray) (x12:Int) (x13:AE) (x20:Int),Ok (F1 out5 x12 x13 x20) _ _:=ih1
  have k0:= @Mq.eq_1;have g0:=ff;have t0:=ih1
  exact gs
 ·intro F1 F2 ih1 ih2 out5 x12 x13 x20
  show Ok _ _ _
  have ih1:∀(out5:ByteArray) (x12:Int) (x13:AE) (x20:Int),Ok (F1 out5 x12 x13 x20) _ _:=ih1
  have ih2:∀(out3:ByteArray) (x12:Int),Ok (F2 out3 x12) _ _:=ih2
  rw[AZ]
  have k0:= @Mp.eq_1;have k1:= @JB.eq_1;have g0:=fh;have t0:=ih1;have t1:=ih2
  exact gs
 ·intro F0 ih0 out3 x12
  show Ok _ _ _
  have ih0:∀(out4:ByteArray) (x12:Int) (xDeep1:Bool) (x13:AE),Ok (F0 out4 x12 xDeep1 x13) _ _:=ih0
  rw[AZ]
  have k0:= @GU.eq_1;have k1:= @GV.eq_1;have t0:=ih0
  exact gs
theorem Zs : ∀ (out:ByteArray) (s:B8),Ok (Ir out s) Iu (ev AL Kv Mr [] (BO (List.replicate 63 .dead) [(1, .ptr (1,0) [] 0 0 1 0),(3, .t (.v (.string out)))]) (BP (List.replicate 63 []) [(1,[.mem [[.v (.string s.Id), .sl false (s.Steps.map (AE.row false))]] 0 false])])):=by
 intro out s
 have k0:= @Mr.eq_1;have f0:= @Ir.eq_1;have t0:=fun a0=>(cJ a0).2.2
 exact gs
theorem j5 : ∀ (s:B8),Ok (LU s) Iu (dn AL YC [.agg (((B8.row false) s).map .t)]):=by
 intro s
 rw[AB AL (fn:=O9) rfl (xN rfl rfl _) (lB rfl)]
 have k0:= @O9.eq_1;have f0:= @LU.eq_1;have g0:=VS;have g1:=Us;have t0:=Zs
 exact gs
theorem laws_FnTells_ok : ∀ (code:List Int),Ok (TU code) Yl (dn AL ku [.t (.sl false (code.map (rK .u8)))]):=by
 intro code
 rw[AB AL (fn:=Nz) rfl (xN rfl rfl _) (lB rfl)]
 have k0:= @Nz.eq_1;have f0:= @TU.eq_1;have g0:=wD;have g1:=bo;have g2:=Yt;have g3:=Yv;have g4:=Zl;have g5:=im;have g6:=io;have g7:=iq;have g8:=Iv;have g9:=tc;have g10:=WH;have g11:=j5
 exact gs
end TT
