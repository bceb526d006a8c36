import Derived.Test.YtjnjaaimgdjcgaaGreatDoorTLLg
set_option maxHeartbeats 2000000
set_option linter.unusedVariables false
set_option linter.unusedSimpArgs false
set_option linter.defProp false
set_option maxRecDepth 100000
namespace TT
open Go
open Nat (reduceAdd reduceSub reduceMul reduceLeDiff reduceLT reduceEqDiff)
theorem laws_markIntS_ok : ∀ (a : List (Int)) (k : Int), Ok (laws_markIntS a k) e_laws_markIntS (dn FTA n_laws_markIntS [.ln (a.map rI), .t (.v (.int .i64 k))]) := by
 intro a k
 rw [den_ev FTA (fn := k_laws_markIntS) rfl (xN rfl rfl _) (lB rfl)]
 have k0 := @k_laws_markIntS.eq_1; have f0 := @laws_markIntS.eq_1; have t0 := laws_markIntS_l6_ok
 exact gs
theorem laws_markWalk_ok : ∀ (a : GWalk) (k : Int), Ok (laws_markWalk a k) e_laws_markWalk (dn FTA n_laws_markWalk [.agg [.t (.v (.int .i64 a.Tre.Kind)), .t (.v (.string a.Tre.Pre)), .t (.v (.string a.Tre.Local)), .t (.v (.string a.Tre.Uri)), .ln (a.Tre.Decls.map GDecl.row), .ln (a.Tre.Attrs.map GAttr.row), .ln (a.Tre.Kids.map (GNode.row true)), .t (.v (.string a.Tre.Text)), .ln (a.Path.map rI)], .t (.v (.int .i64 k))]) := by
 intro a k
 rw [den_ev FTA (fn := k_laws_markWalk) rfl (xN rfl rfl _) (lB rfl)]
 have k0 := @k_laws_markWalk.eq_1; have f0 := @laws_markWalk.eq_1; have g0 := laws_markNode_ok; have g1 := laws_markIntS_ok
 exact gs
theorem laws_heldDeclS_l6_ok (a : List GDecl) : ∀ (k1 : Int) (i : Int), Ok (laws_heldDeclS_l6 a k1 i) e_laws_heldDeclS (ev FTA c_laws_heldDeclS (.loop k_laws_heldDeclS_l6) [.lv 0, .th k_laws_heldDeclS_r2] (putS (List.replicate 33 .dead) [(0, .t (.sl false (a.map GDecl.row))), (1, .t (.v (.int .i64 k1))), (5, .t (.v (.int .i64 i)))]) (putR (List.replicate 33 []) [])) := by
 unfold Ok
 refine laws_heldDeclS_l6.partial_correctness a _ ?_
 intro F ih k1 i
 show Ok _ _ _
 have ih : ∀ (k1 : Int) (i : Int), Ok (F k1 i) _ _ := ih
 rw [ev_loop]
 have k0 := @k_laws_heldDeclS_l6.eq_1; have k1 := @k_laws_heldDeclS_r2.eq_1; have g0 := laws_markText_ok; have t0 := ih
 exact gs
theorem laws_heldDeclS_ok : ∀ (a : List GDecl) (k : Int), Ok (laws_heldDeclS a k) e_laws_heldDeclS (dn FTA n_laws_heldDeclS [.t (.sl false (a.map GDecl.row)), .t (.v (.int .i64 k))]) := by
 intro a k
 rw [den_ev FTA (fn := k_laws_heldDeclS) rfl (xN rfl rfl _) (lB rfl)]
 have k0 := @k_laws_heldDeclS.eq_1; have f0 := @laws_heldDeclS.eq_1; have t0 := laws_heldDeclS_l6_ok
 exact gs
theorem laws_heldAttrS_l6_ok (a : List GAttr) : ∀ (k1 : Int) (i : Int), Ok (laws_heldAttrS_l6 a k1 i) e_laws_heldAttrS (ev FTA c_laws_heldAttrS (.loop k_laws_heldAttrS_l6) [.lv 0, .th k_laws_heldAttrS_r2] (putS (List.replicate 53 .dead) [(0, .t (.sl false (a.map GAttr.row))), (1, .t (.v (.int .i64 k1))), (5, .t (.v (.int .i64 i)))]) (putR (List.replicate 53 []) [])) := by
 unfold Ok
 refine laws_heldAttrS_l6.partial_correctness a _ ?_
 intro F ih k1 i
 show Ok _ _ _
 have ih : ∀ (k1 : Int) (i : Int), Ok (F k1 i) _ _ := ih
 rw [ev_loop]
 have k0 := @k_laws_heldAttrS_l6.eq_1; have k1 := @k_laws_heldAttrS_r2.eq_1; have g0 := laws_markText_ok; have t0 := ih
 exact gs
theorem laws_heldAttrS_ok : ∀ (a : List GAttr) (k : Int), Ok (laws_heldAttrS a k) e_laws_heldAttrS (dn FTA n_laws_heldAttrS [.t (.sl false (a.map GAttr.row)), .t (.v (.int .i64 k))]) := by
 intro a k
 rw [den_ev FTA (fn := k_laws_heldAttrS) rfl (xN rfl rfl _) (lB rfl)]
 have k0 := @k_laws_heldAttrS.eq_1; have f0 := @laws_heldAttrS.eq_1; have t0 := laws_heldAttrS_l6_ok
 exact gs
theorem G_laws_heldNodeS : (∀ (a : List GNode) (k : Int), Ok (laws_heldNodeS a k) e_laws_heldNodeS (dn FTA n_laws_heldNodeS [.t (.sl false (a.map (GNode.row false))), .t (.v (.int .i64 k))])) ∧
  (∀ (a : List GNode) (k1 : Int) (i : Int), Ok (laws_heldNodeS_l6 a k1 i) e_laws_heldNodeS (ev FTA c_laws_heldNodeS (.loop k_laws_heldNodeS_l6) [.lv 0, .th k_laws_heldNodeS_r2] (putS (List.replicate 89 .dead) [(0, .t (.sl false (a.map (GNode.row false)))), (1, .t (.v (.int .i64 k1))), (5, .t (.v (.int .i64 i)))]) (putR (List.replicate 89 []) []))) := by
 unfold Ok
 refine laws_heldNodeS.mutual_partial_correctness _ _ ?_ ?_
 ·intro F1 ih1 a k
  show Ok _ _ _
  have ih1 : ∀ (a : List GNode) (k1 : Int) (i : Int), Ok (F1 a k1 i) _ _ := ih1
  rw [den_ev FTA (fn := k_laws_heldNodeS) rfl (xN rfl rfl _) (lB rfl)]
  have k0 := @k_laws_heldNodeS.eq_1; have t0 := ih1
  exact gs
 ·intro F0 F1 ih0 ih1 a k1 i
  show Ok _ _ _
  have ih0 : ∀ (a : List GNode) (k : Int), Ok (F0 a k) _ _ := ih0
  have ih1 : ∀ (a : List GNode) (k1 : Int) (i : Int), Ok (F1 a k1 i) _ _ := ih1
  rw [ev_loop]
  have k0 := @k_laws_heldNodeS_l6.eq_1; have k1 := @k_laws_heldNodeS_r2.eq_1; have g0 := laws_markText_ok; have g1 := laws_heldDeclS_ok; have g2 := laws_heldAttrS_ok; have g3 := ih0; have t0 := ih1
  exact gs
theorem laws_heldNodeS_ok (a : List GNode) (k : Int) : Ok (laws_heldNodeS a k) e_laws_heldNodeS (dn FTA n_laws_heldNodeS [.t (.sl false (a.map (GNode.row false))), .t (.v (.int .i64 k))]) := G_laws_heldNodeS.1 a k
theorem laws_heldNode_ok : ∀ (a : GNode) (k : Int), Ok (laws_heldNode a k) e_laws_heldNode (dn FTA n_laws_heldNode [.agg (((GNode.row false) a).map .t), .t (.v (.int .i64 k))]) := by
 intro a k
 rw [den_ev FTA (fn := k_laws_heldNode) rfl (xN rfl rfl _) (lB rfl)]
 have k0 := @k_laws_heldNode.eq_1; have f0 := @laws_heldNode.eq_1; have g0 := laws_heldDeclS_ok; have g1 := laws_heldAttrS_ok; have g2 := laws_heldNodeS_ok
 exact gs
theorem laws_heldIntS_l6_ok (a : List Int) : ∀ (k1 : Int) (i : Int), Ok (laws_heldIntS_l6 a k1 i) e_laws_heldIntS (ev FTA c_laws_heldIntS (.loop k_laws_heldIntS_l6) [.lv 0, .th k_laws_heldIntS_r2] (putS (List.replicate 21 .dead) [(0, .t (.sl false (a.map rI))), (1, .t (.v (.int .i64 k1))), (5, .t (.v (.int .i64 i)))]) (putR (List.replicate 21 []) [])) := by
 unfold Ok
 refine laws_heldIntS_l6.partial_correctness a _ ?_
 intro F ih k1 i
 show Ok _ _ _
 have ih : ∀ (k1 : Int) (i : Int), Ok (F k1 i) _ _ := ih
 rw [ev_loop]
 have k0 := @k_laws_heldIntS_l6.eq_1; have k1 := @k_laws_heldIntS_r2.eq_1; have t0 := ih
 exact gs
theorem laws_heldIntS_ok : ∀ (a : List Int) (k : Int), Ok (laws_heldIntS a k) e_laws_heldIntS (dn FTA n_laws_heldIntS [.t (.sl false (a.map rI)), .t (.v (.int .i64 k))]) := by
 intro a k
 rw [den_ev FTA (fn := k_laws_heldIntS) rfl (xN rfl rfl _) (lB rfl)]
 have k0 := @k_laws_heldIntS.eq_1; have f0 := @laws_heldIntS.eq_1; have t0 := laws_heldIntS_l6_ok
 exact gs
theorem laws_heldWalk_ok : ∀ (a : GWalk) (k : Int), Ok (laws_heldWalk a k) e_laws_heldWalk (dn FTA n_laws_heldWalk [.agg (((GWalk.row false) a).map .t), .t (.v (.int .i64 k))]) := by
 intro a k
 rw [den_ev FTA (fn := k_laws_heldWalk) rfl (xN rfl rfl _) (lB rfl)]
 have k0 := @k_laws_heldWalk.eq_1; have f0 := @laws_heldWalk.eq_1; have g0 := laws_heldNode_ok; have g1 := laws_heldIntS_ok
 exact gs
theorem laws_FnExactSwap_ok : ∀ (aW : GWalk) (aN : GNode), Ok (laws_FnExactSwap aW aN) e_laws_FnExactSwap (dn FTA n_laws_FnExactSwap [.agg (((GWalk.row false) aW).map .t), .agg (((GNode.row false) aN).map .t)]) := by
 intro aW aN
 rw [den_ev FTA (fn := k_laws_FnExactSwap) rfl (xN rfl rfl _) (lB rfl)]
 have k0 := @k_laws_FnExactSwap.eq_1; have f0 := @laws_FnExactSwap.eq_1; have g0 := laws_szWalk_ok; have g1 := laws_szNode_ok; have g2 := laws_toWalk_ok; have g3 := laws_toNode_ok; have g4 := spec_Swap_ok; have g5 := impl_Swap_ok; have g6 := laws_eqWalk_ok; have g7 := laws_eqNode_ok; have g8 := laws_markWalk_ok; have g9 := laws_markNode_ok; have g10 := laws_heldWalk_ok
 exact gs
end TT
