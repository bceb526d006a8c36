import Derived.Test.YtjnjaaimgdjcgaaGreatDoorTLLg
set_option maxHeartbeats 2000000
set_option linter.unusedVariables false
set_option linter.unusedSimpArgs false
set_option linter.defProp false
set_option maxRecDepth 100000
namespace TT
open Go
open Nat (reduceAdd reduceSub reduceMul reduceLeDiff reduceLT reduceEqDiff)
theorem laws_heldNode_ok : ∀ (a : GNode) (k : Int), Ok (laws_heldNode a k) e_laws_heldNode (dn FTA n_laws_heldNode [.agg (((GNode.row false) a).map .t), .t (.v (.int .i64 k))]) := by
 intro a k
 rw [den_ev FTA (fn := k_laws_heldNode) rfl (xN rfl rfl _) (lB rfl)]
 have k0 := @k_laws_heldNode.eq_1; have f0 := @laws_heldNode.eq_1; have g0 := laws_heldDeclS_ok; have g1 := laws_heldAttrS_ok; have g2 := laws_heldNodeS_ok
 exact gs
theorem laws_heldIntS_l6_ok (a : List Int) : ∀ (k1 : Int) (i : Int), Ok (laws_heldIntS_l6 a k1 i) e_laws_heldIntS (ev FTA c_laws_heldIntS (.loop k_laws_heldIntS_l6) [.lv 0, .th k_laws_heldIntS_r2] (putS (List.replicate 21 .dead) [(0, .t (.sl false (a.map rI))), (1, .t (.v (.int .i64 k1))), (5, .t (.v (.int .i64 i)))]) (putR (List.replicate 21 []) [])) := by
 unfold Ok
 refine laws_heldIntS_l6.partial_correctness a _ ?_
 intro F ih k1 i
 show Ok _ _ _
 have ih : ∀ (k1 : Int) (i : Int), Ok (F k1 i) _ _ := ih
 rw [ev_loop]
 have k0 := @k_laws_heldIntS_l6.eq_1; have k1 := @k_laws_heldIntS_r2.eq_1; have t0 := ih
 exact gs
theorem laws_heldIntS_ok : ∀ (a : List Int) (k : Int), Ok (laws_heldIntS a k) e_laws_heldIntS (dn FTA n_laws_heldIntS [.t (.sl false (a.map rI)), .t (.v (.int .i64 k))]) := by
 intro a k
 rw [den_ev FTA (fn := k_laws_heldIntS) rfl (xN rfl rfl _) (lB rfl)]
 have k0 := @k_laws_heldIntS.eq_1; have f0 := @laws_heldIntS.eq_1; have t0 := laws_heldIntS_l6_ok
 exact gs
theorem laws_heldWalk_ok : ∀ (a : GWalk) (k : Int), Ok (laws_heldWalk a k) e_laws_heldWalk (dn FTA n_laws_heldWalk [.agg (((GWalk.row false) a).map .t), .t (.v (.int .i64 k))]) := by
 intro a k
 rw [den_ev FTA (fn := k_laws_heldWalk) rfl (xN rfl rfl _) (lB rfl)]
 have k0 := @k_laws_heldWalk.eq_1; have f0 := @laws_heldWalk.eq_1; have g0 := laws_heldNode_ok; have g1 := laws_heldIntS_ok
 exact gs
theorem laws_FnExactDown_ok : ∀ (aW : GWalk) (aI : Int), Ok (laws_FnExactDown aW aI) e_laws_FnExactDown (dn FTA n_laws_FnExactDown [.agg (((GWalk.row false) aW).map .t), .t (.v (.int .i64 aI))]) := by
 intro aW aI
 rw [den_ev FTA (fn := k_laws_FnExactDown) rfl (xN rfl rfl _) (lB rfl)]
 have k0 := @k_laws_FnExactDown.eq_1; have f0 := @laws_FnExactDown.eq_1; have g0 := laws_szWalk_ok; have g1 := laws_toWalk_ok; have g2 := spec_Down_ok; have g3 := impl_Down_ok; have g4 := laws_eqWalk_ok; have g5 := laws_markWalk_ok; have g6 := laws_heldWalk_ok
 exact gs
end TT
