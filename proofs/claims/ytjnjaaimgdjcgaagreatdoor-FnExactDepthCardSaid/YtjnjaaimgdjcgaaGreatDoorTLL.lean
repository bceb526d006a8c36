import Derived.Test.YtjnjaaimgdjcgaaGreatDoorTLLf
set_option maxHeartbeats 2000000
set_option linter.unusedVariables false
set_option linter.unusedSimpArgs false
set_option linter.defProp false
set_option maxRecDepth 100000
namespace TT
open Go
open Nat (reduceAdd reduceSub reduceMul reduceLeDiff reduceLT reduceEqDiff)
theorem laws_FnExactDepth_ok : ∀ (aW : GWalk), Ok (laws_FnExactDepth aW) e_laws_FnExactDepth (dn FTA n_laws_FnExactDepth [.agg (((GWalk.row false) aW).map .t)]) := by
  intro aW
  rw [den_ev FTA (fn := k_laws_FnExactDepth) rfl (xN rfl rfl _) (lB rfl)]
  have k0 := @k_laws_FnExactDepth.eq_1; have f0 := @laws_FnExactDepth.eq_1; have g0 := laws_szWalk_ok; have g1 := laws_toWalk_ok; have g2 := spec_Depth_ok; have g3 := impl_Depth_ok; have g4 := laws_eqWalk_ok
  exact gs
end TT
