import Derived.Test.YtjnjaaimgdjcgaaGreatDoorTLLg
set_option maxHeartbeats 2000000
set_option linter.unusedVariables false
set_option linter.unusedSimpArgs false
set_option linter.defProp false
set_option maxRecDepth 100000
namespace TT
open Go
open Nat (reduceAdd reduceSub reduceMul reduceLeDiff reduceLT reduceEqDiff)
theorem laws_heldWalk_ok : ∀ (a : GWalk) (k : Int), Ok (laws_heldWalk a k) e_laws_heldWalk (dn FTA n_laws_heldWalk [.agg (((GWalk.row false) a).map .t), .t (.v (.int .i64 k))]) := by
  intro a k
  rw [den_ev FTA (fn := k_laws_heldWalk) rfl (xN rfl rfl _) (lB rfl)]
  have k0 := @k_laws_heldWalk.eq_1; have f0 := @laws_heldWalk.eq_1; have g0 := laws_heldNode_ok; have g1 := laws_heldIntS_ok
  exact gs
theorem laws_FnExactUp_ok : ∀ (aW : GWalk), Ok (laws_FnExactUp aW) e_laws_FnExactUp (dn FTA n_laws_FnExactUp [.agg (((GWalk.row false) aW).map .t)]) := by
  intro aW
  rw [den_ev FTA (fn := k_laws_FnExactUp) rfl (xN rfl rfl _) (lB rfl)]
  have k0 := @k_laws_FnExactUp.eq_1; have f0 := @laws_FnExactUp.eq_1; have g0 := laws_szWalk_ok; have g1 := laws_toWalk_ok; have g2 := spec_Up_ok; have g3 := impl_Up_ok; have g4 := laws_eqWalk_ok; have g5 := laws_markWalk_ok; have g6 := laws_heldWalk_ok
  exact gs
end TT
