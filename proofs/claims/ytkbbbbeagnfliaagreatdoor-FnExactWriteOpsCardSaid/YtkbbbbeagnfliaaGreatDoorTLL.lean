import Derived.Test.YtkbbbbeagnfliaaGreatDoorTLLk
set_option maxHeartbeats 2000000
set_option linter.unusedVariables false
set_option linter.unusedSimpArgs false
set_option linter.defProp false
set_option maxRecDepth 100000
namespace TT
open Go
open Nat (reduceAdd reduceSub reduceMul reduceLeDiff reduceLT reduceEqDiff)
theorem eh (a b:List GOp):∀(i:Int),Ok (HZ a b i) WS (ev AI eK (.loop PY) [.lv 0, .th PZ] (B8 (List.replicate 27 .dead) [(0, .t (.sl false (a.map (GOp.row false)))),(1, .t (.sl false (b.map (GOp.row false)))),(5, .t (.v (.int .i64 i)))]) (B9 (List.replicate 27 []) [])):=by
 unfold Ok
 refine HZ.partial_correctness a b _ ?_
 intro F ih i
 show Ok _ _ _
 have ih:∀(i:Int),Ok (F i) _ _:=ih
 rw[AV]
 have k0:= @PY.eq_1;have k1:= @PZ.eq_1;have g0:=uk;have t0:=ih
 exact gs
theorem qM : ∀ (a:List GOp) (b:List GOp),Ok (Pw a b) WS (dn AI dZ [.t (.sl false (a.map (GOp.row false))), .t (.sl false (b.map (GOp.row false)))]):=by
 intro a b
 rw[A5 AI (fn:=Sg) rfl (xN rfl rfl _) (lB rfl)]
 have k0:= @Sg.eq_1;have f0:= @Pw.eq_1;have t0:=eh
 exact gs
theorem laws_FnExactWriteOps_ok : ∀ (aL:List GOp),Ok (Gj aL) P4 (dn AI WH [.t (.sl false (aL.map (GOp.row false)))]):=by
 intro aL
 rw[A5 AI (fn:=FJ) rfl (xN rfl rfl _) (lB rfl)]
 have k0:= @FJ.eq_1;have f0:= @Gj.eq_1;have g0:=qC;have g1:=qE;have g2:=fu;have g3:=gI;have g4:=qM
 exact gs
end TT
