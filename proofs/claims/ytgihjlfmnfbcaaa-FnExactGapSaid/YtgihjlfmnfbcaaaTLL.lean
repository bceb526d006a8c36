import Derived.Test.YtgihjlfmnfbcaaaTLLc
set_option maxHeartbeats 2000000
set_option linter.unusedVariables false
set_option linter.unusedSimpArgs false
set_option linter.defProp false
set_option maxRecDepth 100000
namespace TT
open Go
open Nat (reduceAdd reduceSub reduceMul reduceLeDiff reduceLT reduceEqDiff)
theorem laws_eqNodeS_ok (a : List GNode) (b : List GNode) : Ok (laws_eqNodeS a b) e_laws_eqNodeS (dn FTA n_laws_eqNodeS [.t (.sl false (a.map (GNode.row false))), .t (.sl false (b.map (GNode.row false)))]) := G_laws_eqNode.2.1 a b
theorem laws_FnExactGap_ok : ∀ (aA : GNode) (aB : GNode), Ok (laws_FnExactGap aA aB) e_laws_FnExactGap (dn FTA n_laws_FnExactGap [.agg (((GNode.row false) aA).map .t), .agg (((GNode.row false) aB).map .t)]) := by
 intro aA aB
 rw [den_ev FTA (fn := k_laws_FnExactGap) rfl (xN rfl rfl _) (lB rfl)]
 have k0 := @k_laws_FnExactGap.eq_1; have f0 := @laws_FnExactGap.eq_1; have g0 := laws_szNode_ok; have g1 := laws_toNode_ok; have g2 := spec_Gap_ok; have g3 := impl_Gap_ok; have g4 := laws_eqNode_ok
 exact gs
end TT
