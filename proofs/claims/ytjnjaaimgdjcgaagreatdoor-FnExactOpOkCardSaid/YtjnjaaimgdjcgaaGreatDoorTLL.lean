import Derived.Test.YtjnjaaimgdjcgaaGreatDoorTLLh
set_option maxHeartbeats 2000000
set_option linter.unusedVariables false
set_option linter.unusedSimpArgs false
set_option linter.defProp false
set_option maxRecDepth 100000
namespace TT
open Go
open Nat (reduceAdd reduceSub reduceMul reduceLeDiff reduceLT reduceEqDiff)
theorem laws_FnExactOpOk_ok : ∀ (aO : GOp), Ok (laws_FnExactOpOk aO) e_laws_FnExactOpOk (dn FTA n_laws_FnExactOpOk [.agg (((GOp.row false) aO).map .t)]) := by
 intro aO
 rw [den_ev FTA (fn := k_laws_FnExactOpOk) rfl (xN rfl rfl _) (lB rfl)]
 have k0 := @k_laws_FnExactOpOk.eq_1; have f0 := @laws_FnExactOpOk.eq_1; have g0 := laws_szOp_ok; have g1 := laws_toOp_ok; have g2 := spec_OpOk_ok; have g3 := impl_OpOk_ok; have g4 := laws_eqOp_ok
 exact gs
end TT
