import Derived.Test.YtjnjaaimgdjcgaaGreatDoorTLLf
set_option maxHeartbeats 2000000
set_option linter.unusedVariables false
set_option linter.unusedSimpArgs false
set_option linter.defProp false
set_option maxRecDepth 100000
namespace TT
open Go
open Nat (reduceAdd reduceSub reduceMul reduceLeDiff reduceLT reduceEqDiff)
theorem impl_turnedAt_PutAt_1_ok (turnc0 : Int) (turnc1 : List GNode) : ∀ (n : GNode) (path : List Int), Ok (impl_turnedAt_PutAt_1 n path turnc0 turnc1) e_impl_turnedAt_PutAt_1 (dn FTA n_impl_turnedAt [.agg (((GNode.row false) n).map .t), .t (.sl false (path.map rI)), .fn n_impl_PutAt_1 [.pp [.v (.int .i64 turnc0)], .pp [.sl false (turnc1.map (GNode.row false))]]]) := by
 unfold Ok
 refine impl_turnedAt_PutAt_1.partial_correctness turnc0 turnc1 _ ?_
 intro F ih n path
 show Ok _ _ _
 have ih : ∀ (n : GNode) (path : List Int), Ok (F n path) _ _ := ih
 rw [den_ev FTA (fn := k_impl_turnedAt) rfl (xN rfl rfl _) (lB rfl)]
 have k0 := @k_impl_turnedAt.eq_1; have g0 := impl_cloneNode_ok; have g1 := impl_PutAt_1_PP'_ok; have g2 := ih
 exact gs
theorem impl_PutAt_ok : ∀ (n : GNode) (path : List Int) (l : List GNode), Ok (impl_PutAt n path l) e_impl_PutAt (dn FTA n_impl_PutAt [.agg (((GNode.row false) n).map .t), .t (.sl false (path.map rI)), .t (.sl false (l.map (GNode.row false)))]) := by
 intro n path l
 rw [den_ev FTA (fn := k_impl_PutAt) rfl (xN rfl rfl _) (lB rfl)]
 have k0 := @k_impl_PutAt.eq_1; have f0 := @impl_PutAt.eq_1; have g0 := impl_NodeAt_ok; have g1 := impl_cloneNode_ok; have g2 := impl_turnedAt_PutAt_1_ok
 exact gs
theorem impl_Swap_ok : ∀ (w : GWalk) (n : GNode), Ok (impl_Swap w n) e_impl_Swap (dn FTA n_impl_Swap [.agg (((GWalk.row false) w).map .t), .agg (((GNode.row false) n).map .t)]) := by
 intro w n
 rw [den_ev FTA (fn := k_impl_Swap) rfl (xN rfl rfl _) (lB rfl)]
 have k0 := @k_impl_Swap.eq_1; have f0 := @impl_Swap.eq_1; have g0 := impl_cloneWalk_ok; have g1 := impl_WalkOk_ok; have g2 := impl_Here_ok; have g3 := impl_NodeOk_ok; have g4 := impl_PutAt_ok; have g5 := impl_TreeOk_ok
 exact gs
theorem laws_eqDecl_ok : ∀ (a : GDecl) (b : GDecl), Ok (laws_eqDecl a b) e_laws_eqDecl (dn FTA n_laws_eqDecl [.agg ((GDecl.row a).map .t), .agg ((GDecl.row b).map .t)]) := by
 intro a b
 rw [den_ev FTA (fn := k_laws_eqDecl) rfl (xN rfl rfl _) (lB rfl)]
 have k0 := @k_laws_eqDecl.eq_1; have f0 := @laws_eqDecl.eq_1
 exact gs
theorem laws_eqDeclS_l14_ok (a : List GDecl) (b : List GDecl) : ∀ (i : Int), Ok (laws_eqDeclS_l14 a b i) e_laws_eqDeclS (ev FTA c_laws_eqDeclS (.loop k_laws_eqDeclS_l14) [.lv 0, .th k_laws_eqDeclS_r10] (putS (List.replicate 27 .dead) [(0, .t (.sl false (a.map GDecl.row))), (1, .t (.sl false (b.map GDecl.row))), (5, .t (.v (.int .i64 i)))]) (putR (List.replicate 27 []) [])) := by
 unfold Ok
 refine laws_eqDeclS_l14.partial_correctness a b _ ?_
 intro F ih i
 show Ok _ _ _
 have ih : ∀ (i : Int), Ok (F i) _ _ := ih
 rw [ev_loop]
 have k0 := @k_laws_eqDeclS_l14.eq_1; have k1 := @k_laws_eqDeclS_r10.eq_1; have g0 := laws_eqDecl_ok; have t0 := ih
 exact gs
theorem laws_eqDeclS_ok : ∀ (a : List GDecl) (b : List GDecl), Ok (laws_eqDeclS a b) e_laws_eqDeclS (dn FTA n_laws_eqDeclS [.t (.sl false (a.map GDecl.row)), .t (.sl false (b.map GDecl.row))]) := by
 intro a b
 rw [den_ev FTA (fn := k_laws_eqDeclS) rfl (xN rfl rfl _) (lB rfl)]
 have k0 := @k_laws_eqDeclS.eq_1; have f0 := @laws_eqDeclS.eq_1; have t0 := laws_eqDeclS_l14_ok
 exact gs
theorem laws_eqAttr_ok : ∀ (a : GAttr) (b : GAttr), Ok (laws_eqAttr a b) e_laws_eqAttr (dn FTA n_laws_eqAttr [.agg ((GAttr.row a).map .t), .agg ((GAttr.row b).map .t)]) := by
 intro a b
 rw [den_ev FTA (fn := k_laws_eqAttr) rfl (xN rfl rfl _) (lB rfl)]
 have k0 := @k_laws_eqAttr.eq_1; have f0 := @laws_eqAttr.eq_1
 exact gs
theorem laws_eqAttrS_l14_ok (a : List GAttr) (b : List GAttr) : ∀ (i : Int), Ok (laws_eqAttrS_l14 a b i) e_laws_eqAttrS (ev FTA c_laws_eqAttrS (.loop k_laws_eqAttrS_l14) [.lv 0, .th k_laws_eqAttrS_r10] (putS (List.replicate 27 .dead) [(0, .t (.sl false (a.map GAttr.row))), (1, .t (.sl false (b.map GAttr.row))), (5, .t (.v (.int .i64 i)))]) (putR (List.replicate 27 []) [])) := by
 unfold Ok
 refine laws_eqAttrS_l14.partial_correctness a b _ ?_
 intro F ih i
 show Ok _ _ _
 have ih : ∀ (i : Int), Ok (F i) _ _ := ih
 rw [ev_loop]
 have k0 := @k_laws_eqAttrS_l14.eq_1; have k1 := @k_laws_eqAttrS_r10.eq_1; have g0 := laws_eqAttr_ok; have t0 := ih
 exact gs
theorem laws_eqAttrS_ok : ∀ (a : List GAttr) (b : List GAttr), Ok (laws_eqAttrS a b) e_laws_eqAttrS (dn FTA n_laws_eqAttrS [.t (.sl false (a.map GAttr.row)), .t (.sl false (b.map GAttr.row))]) := by
 intro a b
 rw [den_ev FTA (fn := k_laws_eqAttrS) rfl (xN rfl rfl _) (lB rfl)]
 have k0 := @k_laws_eqAttrS.eq_1; have f0 := @laws_eqAttrS.eq_1; have t0 := laws_eqAttrS_l14_ok
 exact gs
theorem G_laws_eqNode : (∀ (a : GNode) (b : GNode), Ok (laws_eqNode a b) e_laws_eqNode (dn FTA n_laws_eqNode [.agg (((GNode.row false) a).map .t), .agg (((GNode.row false) b).map .t)])) ∧
  (∀ (a : List GNode) (b : List GNode), Ok (laws_eqNodeS a b) e_laws_eqNodeS (dn FTA n_laws_eqNodeS [.t (.sl false (a.map (GNode.row false))), .t (.sl false (b.map (GNode.row false)))])) ∧
  (∀ (a : List GNode) (b : List GNode) (i : Int), Ok (laws_eqNodeS_l14 a b i) e_laws_eqNodeS (ev FTA c_laws_eqNodeS (.loop k_laws_eqNodeS_l14) [.lv 0, .th k_laws_eqNodeS_r10] (putS (List.replicate 27 .dead) [(0, .t (.sl false (a.map (GNode.row false)))), (1, .t (.sl false (b.map (GNode.row false)))), (5, .t (.v (.int .i64 i)))]) (putR (List.replicate 27 []) []))) := by
 unfold Ok
 refine laws_eqNode.mutual_partial_correctness _ _ _ ?_ ?_ ?_
 ·intro F1 ih1 a b
  show Ok _ _ _
  have ih1 : ∀ (a : List GNode) (b : List GNode), Ok (F1 a b) _ _ := ih1
  rw [den_ev FTA (fn := k_laws_eqNode) rfl (xN rfl rfl _) (lB rfl)]
  have k0 := @k_laws_eqNode.eq_1; have g0 := laws_eqDeclS_ok; have g1 := laws_eqAttrS_ok; have g2 := ih1
  exact gs
 ·intro F2 ih2 a b
  show Ok _ _ _
  have ih2 : ∀ (a : List GNode) (b : List GNode) (i : Int), Ok (F2 a b i) _ _ := ih2
  rw [den_ev FTA (fn := k_laws_eqNodeS) rfl (xN rfl rfl _) (lB rfl)]
  have k0 := @k_laws_eqNodeS.eq_1; have t0 := ih2
  exact gs
 ·intro F0 F2 ih0 ih2 a b i
  show Ok _ _ _
  have ih0 : ∀ (a : GNode) (b : GNode), Ok (F0 a b) _ _ := ih0
  have ih2 : ∀ (a : List GNode) (b : List GNode) (i : Int), Ok (F2 a b i) _ _ := ih2
  rw [ev_loop]
  have k0 := @k_laws_eqNodeS_l14.eq_1; have k1 := @k_laws_eqNodeS_r10.eq_1; have g0 := ih0; have t0 := ih2
  exact gs
theorem laws_eqNode_ok (a : GNode) (b : GNode) : Ok (laws_eqNode a b) e_laws_eqNode (dn FTA n_laws_eqNode [.agg (((GNode.row false) a).map .t), .agg (((GNode.row false) b).map .t)]) := G_laws_eqNode.1 a b
theorem laws_eqNodeS_ok (a : List GNode) (b : List GNode) : Ok (laws_eqNodeS a b) e_laws_eqNodeS (dn FTA n_laws_eqNodeS [.t (.sl false (a.map (GNode.row false))), .t (.sl false (b.map (GNode.row false)))]) := G_laws_eqNode.2.1 a b
theorem laws_eqIntS_l14_ok (a : List Int) (b : List Int) : ∀ (i : Int), Ok (laws_eqIntS_l14 a b i) e_laws_eqIntS (ev FTA c_laws_eqIntS (.loop k_laws_eqIntS_l14) [.lv 0, .th k_laws_eqIntS_r10] (putS (List.replicate 26 .dead) [(0, .t (.sl false (a.map rI))), (1, .t (.sl false (b.map rI))), (5, .t (.v (.int .i64 i)))]) (putR (List.replicate 26 []) [])) := by
 unfold Ok
 refine laws_eqIntS_l14.partial_correctness a b _ ?_
 intro F ih i
 show Ok _ _ _
 have ih : ∀ (i : Int), Ok (F i) _ _ := ih
 rw [ev_loop]
 have k0 := @k_laws_eqIntS_l14.eq_1; have k1 := @k_laws_eqIntS_r10.eq_1; have t0 := ih
 exact gs
theorem laws_eqIntS_ok : ∀ (a : List Int) (b : List Int), Ok (laws_eqIntS a b) e_laws_eqIntS (dn FTA n_laws_eqIntS [.t (.sl false (a.map rI)), .t (.sl false (b.map rI))]) := by
 intro a b
 rw [den_ev FTA (fn := k_laws_eqIntS) rfl (xN rfl rfl _) (lB rfl)]
 have k0 := @k_laws_eqIntS.eq_1; have f0 := @laws_eqIntS.eq_1; have t0 := laws_eqIntS_l14_ok
 exact gs
theorem laws_eqWalk_ok : ∀ (a : GWalk) (b : GWalk), Ok (laws_eqWalk a b) e_laws_eqWalk (dn FTA n_laws_eqWalk [.agg (((GWalk.row false) a).map .t), .agg (((GWalk.row false) b).map .t)]) := by
 intro a b
 rw [den_ev FTA (fn := k_laws_eqWalk) rfl (xN rfl rfl _) (lB rfl)]
 have k0 := @k_laws_eqWalk.eq_1; have f0 := @laws_eqWalk.eq_1; have g0 := laws_eqNode_ok; have g1 := laws_eqIntS_ok
 exact gs
theorem laws_markText_l14_ok : ∀ (k1 : Int) (out : ByteArray), Ok (laws_markText_l14 k1 out) e_laws_markText (ev FTA c_laws_markText (.loop k_laws_markText_l14) [.lv 0, .th k_laws_markText_r12] (putS (List.replicate 20 .dead) [(0, .t (.v (.int .i64 k1))), (3, .t (.v (.string out)))]) (putR (List.replicate 20 []) [])) := by
 unfold Ok
 refine laws_markText_l14.partial_correctness _ ?_
 intro F ih k1 out
 show Ok _ _ _
 have ih : ∀ (k1 : Int) (out : ByteArray), Ok (F k1 out) _ _ := ih
 rw [ev_loop]
 have k0 := @k_laws_markText_l14.eq_1; have k1 := @k_laws_markText_r12.eq_1; have t0 := ih
 exact gs
theorem laws_markText_ok : ∀ (k : Int), Ok (laws_markText k) e_laws_markText (dn FTA n_laws_markText [.t (.v (.int .i64 k))]) := by
 intro k
 rw [den_ev FTA (fn := k_laws_markText) rfl (xN rfl rfl _) (lB rfl)]
 have k0 := @k_laws_markText.eq_1; have f0 := @laws_markText.eq_1; have t0 := laws_markText_l14_ok
 exact gs
theorem laws_markDeclS_l6_ok : ∀ (a1 : List (GDecl)) (k1 : Int) (i : Int), Ok (laws_markDeclS_l6 a1 k1 i) e_laws_markDeclS (ev FTA c_laws_markDeclS (.loop k_laws_markDeclS_l6) [.lv 0, .th k_laws_markDeclS_r2] (putS (List.replicate 29 .dead) [(0, .ref (0, 0) a1.length), (1, .t (.v (.int .i64 k1))), (5, .t (.v (.int .i64 i)))]) (putR (List.replicate 29 []) [(0, [.mem (a1.map GDecl.row) 0 true])])) := by
 unfold Ok
 refine laws_markDeclS_l6.partial_correctness _ ?_
 intro F ih a1 k1 i
 show Ok _ _ _
 have ih : ∀ (a1 : List (GDecl)) (k1 : Int) (i : Int), Ok (F a1 k1 i) _ _ := ih
 rw [ev_loop]
 have k0 := @k_laws_markDeclS_l6.eq_1; have k1 := @k_laws_markDeclS_r2.eq_1; have g0 := laws_markText_ok; have t0 := ih
 exact gs
theorem laws_markDeclS_ok : ∀ (a : List (GDecl)) (k : Int), Ok (laws_markDeclS a k) e_laws_markDeclS (dn FTA n_laws_markDeclS [.ln (a.map GDecl.row), .t (.v (.int .i64 k))]) := by
 intro a k
 rw [den_ev FTA (fn := k_laws_markDeclS) rfl (xN rfl rfl _) (lB rfl)]
 have k0 := @k_laws_markDeclS.eq_1; have f0 := @laws_markDeclS.eq_1; have t0 := laws_markDeclS_l6_ok
 exact gs
theorem laws_markAttrS_l6_ok : ∀ (a1 : List (GAttr)) (k1 : Int) (i : Int), Ok (laws_markAttrS_l6 a1 k1 i) e_laws_markAttrS (ev FTA c_laws_markAttrS (.loop k_laws_markAttrS_l6) [.lv 0, .th k_laws_markAttrS_r2] (putS (List.replicate 45 .dead) [(0, .ref (0, 0) a1.length), (1, .t (.v (.int .i64 k1))), (5, .t (.v (.int .i64 i)))]) (putR (List.replicate 45 []) [(0, [.mem (a1.map GAttr.row) 0 true])])) := by
 unfold Ok
 refine laws_markAttrS_l6.partial_correctness _ ?_
 intro F ih a1 k1 i
 show Ok _ _ _
 have ih : ∀ (a1 : List (GAttr)) (k1 : Int) (i : Int), Ok (F a1 k1 i) _ _ := ih
 rw [ev_loop]
 have k0 := @k_laws_markAttrS_l6.eq_1; have k1 := @k_laws_markAttrS_r2.eq_1; have g0 := laws_markText_ok; have t0 := ih
 exact gs
theorem laws_markAttrS_ok : ∀ (a : List (GAttr)) (k : Int), Ok (laws_markAttrS a k) e_laws_markAttrS (dn FTA n_laws_markAttrS [.ln (a.map GAttr.row), .t (.v (.int .i64 k))]) := by
 intro a k
 rw [den_ev FTA (fn := k_laws_markAttrS) rfl (xN rfl rfl _) (lB rfl)]
 have k0 := @k_laws_markAttrS.eq_1; have f0 := @laws_markAttrS.eq_1; have t0 := laws_markAttrS_l6_ok
 exact gs
theorem G_laws_markNodeS : (∀ (a : List (GNode)) (k : Int), Ok (laws_markNodeS a k) e_laws_markNodeS (dn FTA n_laws_markNodeS [.ln (a.map (GNode.row true)), .t (.v (.int .i64 k))])) ∧
  (∀ (a1 : List (GNode)) (k1 : Int) (i : Int), Ok (laws_markNodeS_l6 a1 k1 i) e_laws_markNodeS (ev FTA c_laws_markNodeS (.loop k_laws_markNodeS_l6) [.lv 0, .th k_laws_markNodeS_r2] (putS (List.replicate 73 .dead) [(0, .ref (0, 0) a1.length), (1, .t (.v (.int .i64 k1))), (5, .t (.v (.int .i64 i)))]) (putR (List.replicate 73 []) [(0, [.mem (a1.map (GNode.row true)) 0 true])]))) := by
 unfold Ok
 refine laws_markNodeS.mutual_partial_correctness _ _ ?_ ?_
 ·intro F1 ih1 a k
  show Ok _ _ _
  have ih1 : ∀ (a1 : List (GNode)) (k1 : Int) (i : Int), Ok (F1 a1 k1 i) _ _ := ih1
  rw [den_ev FTA (fn := k_laws_markNodeS) rfl (xN rfl rfl _) (lB rfl)]
  have k0 := @k_laws_markNodeS.eq_1; have t0 := ih1
  exact gs
 ·intro F0 F1 ih0 ih1 a1 k1 i
  show Ok _ _ _
  have ih0 : ∀ (a : List (GNode)) (k : Int), Ok (F0 a k) _ _ := ih0
  have ih1 : ∀ (a1 : List (GNode)) (k1 : Int) (i : Int), Ok (F1 a1 k1 i) _ _ := ih1
  rw [ev_loop]
  have k0 := @k_laws_markNodeS_l6.eq_1; have k1 := @k_laws_markNodeS_r2.eq_1; have g0 := laws_markText_ok; have g1 := laws_markDeclS_ok; have g2 := laws_markAttrS_ok; have g3 := ih0; have t0 := ih1
  exact gs
theorem laws_markNodeS_ok (a : List (GNode)) (k : Int) : Ok (laws_markNodeS a k) e_laws_markNodeS (dn FTA n_laws_markNodeS [.ln (a.map (GNode.row true)), .t (.v (.int .i64 k))]) := G_laws_markNodeS.1 a k
theorem laws_markNode_ok : ∀ (a : GNode) (k : Int), Ok (laws_markNode a k) e_laws_markNode (dn FTA n_laws_markNode [.agg [.t (.v (.int .i64 a.Kind)), .t (.v (.string a.Pre)), .t (.v (.string a.Local)), .t (.v (.string a.Uri)), .ln (a.Decls.map GDecl.row), .ln (a.Attrs.map GAttr.row), .ln (a.Kids.map (GNode.row true)), .t (.v (.string a.Text))], .t (.v (.int .i64 k))]) := by
 intro a k
 rw [den_ev FTA (fn := k_laws_markNode) rfl (xN rfl rfl _) (lB rfl)]
 have k0 := @k_laws_markNode.eq_1; have f0 := @laws_markNode.eq_1; have g0 := laws_markDeclS_ok; have g1 := laws_markAttrS_ok; have g2 := laws_markNodeS_ok
 exact gs
theorem laws_markIntS_l6_ok : ∀ (a1 : List (Int)) (k1 : Int) (i : Int), Ok (laws_markIntS_l6 a1 k1 i) e_laws_markIntS (ev FTA c_laws_markIntS (.loop k_laws_markIntS_l6) [.lv 0, .th k_laws_markIntS_r2] (putS (List.replicate 19 .dead) [(0, .ref (0, 0) a1.length), (1, .t (.v (.int .i64 k1))), (5, .t (.v (.int .i64 i)))]) (putR (List.replicate 19 []) [(0, [.mem (a1.map rI) 0 true])])) := by
 unfold Ok
 refine laws_markIntS_l6.partial_correctness _ ?_
 intro F ih a1 k1 i
 show Ok _ _ _
 have ih : ∀ (a1 : List (Int)) (k1 : Int) (i : Int), Ok (F a1 k1 i) _ _ := ih
 rw [ev_loop]
 have k0 := @k_laws_markIntS_l6.eq_1; have k1 := @k_laws_markIntS_r2.eq_1; have t0 := ih
 exact gs
end TT
