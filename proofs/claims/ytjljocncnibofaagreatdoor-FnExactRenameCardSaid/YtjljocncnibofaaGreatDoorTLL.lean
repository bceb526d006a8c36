import Derived.Test.YtjljocncnibofaaGreatDoorTLLf
set_option maxHeartbeats 40000000
set_option linter.unusedVariables false
set_option linter.unusedSimpArgs false
set_option linter.defProp false
set_option maxRecDepth 100000
namespace TT
open Go
open Nat (reduceAdd reduceSub reduceMul reduceLeDiff reduceLT reduceEqDiff)
theorem laws_eqAttrS_l14_ok (a : List GAttr) (b : List GAttr) : ∀ (i : Int), Ok (laws_eqAttrS_l14 a b i) e_laws_eqAttrS (ev FTA c_laws_eqAttrS (.loop k_laws_eqAttrS_l14) [.lv 0, .th k_laws_eqAttrS_r10] (putS (List.replicate 27 .dead) [(0, .t (.sl false (a.map GAttr.row))), (1, .t (.sl false (b.map GAttr.row))), (5, .t (.v (.int .i64 i)))]) (putR (List.replicate 27 []) [])) := by
 unfold Ok
 refine laws_eqAttrS_l14.partial_correctness a b _ ?_
 intro F ih i
 show Ok _ _ _
 have ih : ∀ (i : Int), Ok (F i) _ _ := ih
 rw [ev_loop]
 have k0 := @k_laws_eqAttrS_l14.eq_1; have k1 := @k_laws_eqAttrS_r10.eq_1; have g0 := laws_eqAttr_ok; have t0 := ih
 exact gs
theorem laws_eqAttrS_ok : ∀ (a : List GAttr) (b : List GAttr), Ok (laws_eqAttrS a b) e_laws_eqAttrS (dn FTA n_laws_eqAttrS [.t (.sl false (a.map GAttr.row)), .t (.sl false (b.map GAttr.row))]) := by
 intro a b
 rw [den_ev FTA (fn := k_laws_eqAttrS) rfl (xN rfl rfl _) (lB rfl)]
 have k0 := @k_laws_eqAttrS.eq_1; have f0 := @laws_eqAttrS.eq_1; have t0 := laws_eqAttrS_l14_ok
 exact gs
theorem G_laws_eqNode : (∀ (a : GNode) (b : GNode), Ok (laws_eqNode a b) e_laws_eqNode (dn FTA n_laws_eqNode [.agg (((GNode.row false) a).map .t), .agg (((GNode.row false) b).map .t)])) ∧
  (∀ (a : List GNode) (b : List GNode), Ok (laws_eqNodeS a b) e_laws_eqNodeS (dn FTA n_laws_eqNodeS [.t (.sl false (a.map (GNode.row false))), .t (.sl false (b.map (GNode.row false)))])) ∧
  (∀ (a : List GNode) (b : List GNode) (i : Int), Ok (laws_eqNodeS_l14 a b i) e_laws_eqNodeS (ev FTA c_laws_eqNodeS (.loop k_laws_eqNodeS_l14) [.lv 0, .th k_laws_eqNodeS_r10] (putS (List.replicate 27 .dead) [(0, .t (.sl false (a.map (GNode.row false)))), (1, .t (.sl false (b.map (GNode.row false)))), (5, .t (.v (.int .i64 i)))]) (putR (List.replicate 27 []) []))) := by
 unfold Ok
 refine laws_eqNode.mutual_partial_correctness _ _ _ ?_ ?_ ?_
 ·intro F1 ih1 a b
  show Ok _ _ _
  have ih1 : ∀ (a : List GNode) (b : List GNode), Ok (F1 a b) _ _ := ih1
  rw [den_ev FTA (fn := k_laws_eqNode) rfl (xN rfl rfl _) (lB rfl)]
  have k0 := @k_laws_eqNode.eq_1; have g0 := laws_eqDeclS_ok; have g1 := laws_eqAttrS_ok; have g2 := ih1
  exact gs
 ·intro F2 ih2 a b
  show Ok _ _ _
  have ih2 : ∀ (a : List GNode) (b : List GNode) (i : Int), Ok (F2 a b i) _ _ := ih2
  rw [den_ev FTA (fn := k_laws_eqNodeS) rfl (xN rfl rfl _) (lB rfl)]
  have k0 := @k_laws_eqNodeS.eq_1; have t0 := ih2
  exact gs
 ·intro F0 F2 ih0 ih2 a b i
  show Ok _ _ _
  have ih0 : ∀ (a : GNode) (b : GNode), Ok (F0 a b) _ _ := ih0
  have ih2 : ∀ (a : List GNode) (b : List GNode) (i : Int), Ok (F2 a b i) _ _ := ih2
  rw [ev_loop]
  have k0 := @k_laws_eqNodeS_l14.eq_1; have k1 := @k_laws_eqNodeS_r10.eq_1; have g0 := ih0; have t0 := ih2
  exact gs
theorem laws_eqNode_ok (a : GNode) (b : GNode) : Ok (laws_eqNode a b) e_laws_eqNode (dn FTA n_laws_eqNode [.agg (((GNode.row false) a).map .t), .agg (((GNode.row false) b).map .t)]) := G_laws_eqNode.1 a b
theorem laws_eqNodeS_ok (a : List GNode) (b : List GNode) : Ok (laws_eqNodeS a b) e_laws_eqNodeS (dn FTA n_laws_eqNodeS [.t (.sl false (a.map (GNode.row false))), .t (.sl false (b.map (GNode.row false)))]) := G_laws_eqNode.2.1 a b
theorem laws_markText_l14_ok : ∀ (k1 : Int) (out : ByteArray), Ok (laws_markText_l14 k1 out) e_laws_markText (ev FTA c_laws_markText (.loop k_laws_markText_l14) [.lv 0, .th k_laws_markText_r12] (putS (List.replicate 20 .dead) [(0, .t (.v (.int .i64 k1))), (3, .t (.v (.string out)))]) (putR (List.replicate 20 []) [])) := by
 unfold Ok
 refine laws_markText_l14.partial_correctness _ ?_
 intro F ih k1 out
 show Ok _ _ _
 have ih : ∀ (k1 : Int) (out : ByteArray), Ok (F k1 out) _ _ := ih
 rw [ev_loop]
 have k0 := @k_laws_markText_l14.eq_1; have k1 := @k_laws_markText_r12.eq_1; have t0 := ih
 exact gs
theorem laws_markText_ok : ∀ (k : Int), Ok (laws_markText k) e_laws_markText (dn FTA n_laws_markText [.t (.v (.int .i64 k))]) := by
 intro k
 rw [den_ev FTA (fn := k_laws_markText) rfl (xN rfl rfl _) (lB rfl)]
 have k0 := @k_laws_markText.eq_1; have f0 := @laws_markText.eq_1; have t0 := laws_markText_l14_ok
 exact gs
theorem laws_markDeclS_l6_ok : ∀ (a1 : List (GDecl)) (k1 : Int) (i : Int), Ok (laws_markDeclS_l6 a1 k1 i) e_laws_markDeclS (ev FTA c_laws_markDeclS (.loop k_laws_markDeclS_l6) [.lv 0, .th k_laws_markDeclS_r2] (putS (List.replicate 29 .dead) [(0, .ref (0, 0) a1.length), (1, .t (.v (.int .i64 k1))), (5, .t (.v (.int .i64 i)))]) (putR (List.replicate 29 []) [(0, [.mem (a1.map GDecl.row) 0 true])])) := by
 unfold Ok
 refine laws_markDeclS_l6.partial_correctness _ ?_
 intro F ih a1 k1 i
 show Ok _ _ _
 have ih : ∀ (a1 : List (GDecl)) (k1 : Int) (i : Int), Ok (F a1 k1 i) _ _ := ih
 rw [ev_loop]
 have k0 := @k_laws_markDeclS_l6.eq_1; have k1 := @k_laws_markDeclS_r2.eq_1; have g0 := laws_markText_ok; have t0 := ih
 exact gs
theorem laws_markDeclS_ok : ∀ (a : List (GDecl)) (k : Int), Ok (laws_markDeclS a k) e_laws_markDeclS (dn FTA n_laws_markDeclS [.ln (a.map GDecl.row), .t (.v (.int .i64 k))]) := by
 intro a k
 rw [den_ev FTA (fn := k_laws_markDeclS) rfl (xN rfl rfl _) (lB rfl)]
 have k0 := @k_laws_markDeclS.eq_1; have f0 := @laws_markDeclS.eq_1; have t0 := laws_markDeclS_l6_ok
 exact gs
theorem laws_markAttrS_l6_ok : ∀ (a1 : List (GAttr)) (k1 : Int) (i : Int), Ok (laws_markAttrS_l6 a1 k1 i) e_laws_markAttrS (ev FTA c_laws_markAttrS (.loop k_laws_markAttrS_l6) [.lv 0, .th k_laws_markAttrS_r2] (putS (List.replicate 45 .dead) [(0, .ref (0, 0) a1.length), (1, .t (.v (.int .i64 k1))), (5, .t (.v (.int .i64 i)))]) (putR (List.replicate 45 []) [(0, [.mem (a1.map GAttr.row) 0 true])])) := by
 unfold Ok
 refine laws_markAttrS_l6.partial_correctness _ ?_
 intro F ih a1 k1 i
 show Ok _ _ _
 have ih : ∀ (a1 : List (GAttr)) (k1 : Int) (i : Int), Ok (F a1 k1 i) _ _ := ih
 rw [ev_loop]
 have k0 := @k_laws_markAttrS_l6.eq_1; have k1 := @k_laws_markAttrS_r2.eq_1; have g0 := laws_markText_ok; have t0 := ih
 exact gs
theorem laws_markAttrS_ok : ∀ (a : List (GAttr)) (k : Int), Ok (laws_markAttrS a k) e_laws_markAttrS (dn FTA n_laws_markAttrS [.ln (a.map GAttr.row), .t (.v (.int .i64 k))]) := by
 intro a k
 rw [den_ev FTA (fn := k_laws_markAttrS) rfl (xN rfl rfl _) (lB rfl)]
 have k0 := @k_laws_markAttrS.eq_1; have f0 := @laws_markAttrS.eq_1; have t0 := laws_markAttrS_l6_ok
 exact gs
theorem G_laws_markNodeS : (∀ (a : List (GNode)) (k : Int), Ok (laws_markNodeS a k) e_laws_markNodeS (dn FTA n_laws_markNodeS [.ln (a.map (GNode.row true)), .t (.v (.int .i64 k))])) ∧
  (∀ (a1 : List (GNode)) (k1 : Int) (i : Int), Ok (laws_markNodeS_l6 a1 k1 i) e_laws_markNodeS (ev FTA c_laws_markNodeS (.loop k_laws_markNodeS_l6) [.lv 0, .th k_laws_markNodeS_r2] (putS (List.replicate 73 .dead) [(0, .ref (0, 0) a1.length), (1, .t (.v (.int .i64 k1))), (5, .t (.v (.int .i64 i)))]) (putR (List.replicate 73 []) [(0, [.mem (a1.map (GNode.row true)) 0 true])]))) := by
 unfold Ok
 refine laws_markNodeS.mutual_partial_correctness _ _ ?_ ?_
 ·intro F1 ih1 a k
  show Ok _ _ _
  have ih1 : ∀ (a1 : List (GNode)) (k1 : Int) (i : Int), Ok (F1 a1 k1 i) _ _ := ih1
  rw [den_ev FTA (fn := k_laws_markNodeS) rfl (xN rfl rfl _) (lB rfl)]
  have k0 := @k_laws_markNodeS.eq_1; have t0 := ih1
  exact gs
 ·intro F0 F1 ih0 ih1 a1 k1 i
  show Ok _ _ _
  have ih0 : ∀ (a : List (GNode)) (k : Int), Ok (F0 a k) _ _ := ih0
  have ih1 : ∀ (a1 : List (GNode)) (k1 : Int) (i : Int), Ok (F1 a1 k1 i) _ _ := ih1
  rw [ev_loop]
  have k0 := @k_laws_markNodeS_l6.eq_1; have k1 := @k_laws_markNodeS_r2.eq_1; have g0 := laws_markText_ok; have g1 := laws_markDeclS_ok; have g2 := laws_markAttrS_ok; have g3 := ih0; have t0 := ih1
  exact gs
theorem laws_markNodeS_ok (a : List (GNode)) (k : Int) : Ok (laws_markNodeS a k) e_laws_markNodeS (dn FTA n_laws_markNodeS [.ln (a.map (GNode.row true)), .t (.v (.int .i64 k))]) := G_laws_markNodeS.1 a k
theorem laws_markNode_ok : ∀ (a : GNode) (k : Int), Ok (laws_markNode a k) e_laws_markNode (dn FTA n_laws_markNode [.agg [.t (.v (.int .i64 a.Kind)), .t (.v (.string a.Pre)), .t (.v (.string a.Local)), .t (.v (.string a.Uri)), .ln (a.Decls.map GDecl.row), .ln (a.Attrs.map GAttr.row), .ln (a.Kids.map (GNode.row true)), .t (.v (.string a.Text))], .t (.v (.int .i64 k))]) := by
 intro a k
 rw [den_ev FTA (fn := k_laws_markNode) rfl (xN rfl rfl _) (lB rfl)]
 have k0 := @k_laws_markNode.eq_1; have f0 := @laws_markNode.eq_1; have g0 := laws_markDeclS_ok; have g1 := laws_markAttrS_ok; have g2 := laws_markNodeS_ok
 exact gs
theorem laws_heldDeclS_l6_ok (a : List GDecl) : ∀ (k1 : Int) (i : Int), Ok (laws_heldDeclS_l6 a k1 i) e_laws_heldDeclS (ev FTA c_laws_heldDeclS (.loop k_laws_heldDeclS_l6) [.lv 0, .th k_laws_heldDeclS_r2] (putS (List.replicate 33 .dead) [(0, .t (.sl false (a.map GDecl.row))), (1, .t (.v (.int .i64 k1))), (5, .t (.v (.int .i64 i)))]) (putR (List.replicate 33 []) [])) := by
 unfold Ok
 refine laws_heldDeclS_l6.partial_correctness a _ ?_
 intro F ih k1 i
 show Ok _ _ _
 have ih : ∀ (k1 : Int) (i : Int), Ok (F k1 i) _ _ := ih
 rw [ev_loop]
 have k0 := @k_laws_heldDeclS_l6.eq_1; have k1 := @k_laws_heldDeclS_r2.eq_1; have g0 := laws_markText_ok; have t0 := ih
 exact gs
theorem laws_heldDeclS_ok : ∀ (a : List GDecl) (k : Int), Ok (laws_heldDeclS a k) e_laws_heldDeclS (dn FTA n_laws_heldDeclS [.t (.sl false (a.map GDecl.row)), .t (.v (.int .i64 k))]) := by
 intro a k
 rw [den_ev FTA (fn := k_laws_heldDeclS) rfl (xN rfl rfl _) (lB rfl)]
 have k0 := @k_laws_heldDeclS.eq_1; have f0 := @laws_heldDeclS.eq_1; have t0 := laws_heldDeclS_l6_ok
 exact gs
theorem laws_heldAttrS_l6_ok (a : List GAttr) : ∀ (k1 : Int) (i : Int), Ok (laws_heldAttrS_l6 a k1 i) e_laws_heldAttrS (ev FTA c_laws_heldAttrS (.loop k_laws_heldAttrS_l6) [.lv 0, .th k_laws_heldAttrS_r2] (putS (List.replicate 53 .dead) [(0, .t (.sl false (a.map GAttr.row))), (1, .t (.v (.int .i64 k1))), (5, .t (.v (.int .i64 i)))]) (putR (List.replicate 53 []) [])) := by
 unfold Ok
 refine laws_heldAttrS_l6.partial_correctness a _ ?_
 intro F ih k1 i
 show Ok _ _ _
 have ih : ∀ (k1 : Int) (i : Int), Ok (F k1 i) _ _ := ih
 rw [ev_loop]
 have k0 := @k_laws_heldAttrS_l6.eq_1; have k1 := @k_laws_heldAttrS_r2.eq_1; have g0 := laws_markText_ok; have t0 := ih
 exact gs
theorem laws_heldAttrS_ok : ∀ (a : List GAttr) (k : Int), Ok (laws_heldAttrS a k) e_laws_heldAttrS (dn FTA n_laws_heldAttrS [.t (.sl false (a.map GAttr.row)), .t (.v (.int .i64 k))]) := by
 intro a k
 rw [den_ev FTA (fn := k_laws_heldAttrS) rfl (xN rfl rfl _) (lB rfl)]
 have k0 := @k_laws_heldAttrS.eq_1; have f0 := @laws_heldAttrS.eq_1; have t0 := laws_heldAttrS_l6_ok
 exact gs
theorem G_laws_heldNodeS : (∀ (a : List GNode) (k : Int), Ok (laws_heldNodeS a k) e_laws_heldNodeS (dn FTA n_laws_heldNodeS [.t (.sl false (a.map (GNode.row false))), .t (.v (.int .i64 k))])) ∧
  (∀ (a : List GNode) (k1 : Int) (i : Int), Ok (laws_heldNodeS_l6 a k1 i) e_laws_heldNodeS (ev FTA c_laws_heldNodeS (.loop k_laws_heldNodeS_l6) [.lv 0, .th k_laws_heldNodeS_r2] (putS (List.replicate 89 .dead) [(0, .t (.sl false (a.map (GNode.row false)))), (1, .t (.v (.int .i64 k1))), (5, .t (.v (.int .i64 i)))]) (putR (List.replicate 89 []) []))) := by
 unfold Ok
 refine laws_heldNodeS.mutual_partial_correctness _ _ ?_ ?_
 ·intro F1 ih1 a k
  show Ok _ _ _
  have ih1 : ∀ (a : List GNode) (k1 : Int) (i : Int), Ok (F1 a k1 i) _ _ := ih1
  rw [den_ev FTA (fn := k_laws_heldNodeS) rfl (xN rfl rfl _) (lB rfl)]
  have k0 := @k_laws_heldNodeS.eq_1; have t0 := ih1
  exact gs
 ·intro F0 F1 ih0 ih1 a k1 i
  show Ok _ _ _
  have ih0 : ∀ (a : List GNode) (k : Int), Ok (F0 a k) _ _ := ih0
  have ih1 : ∀ (a : List GNode) (k1 : Int) (i : Int), Ok (F1 a k1 i) _ _ := ih1
  rw [ev_loop]
  have k0 := @k_laws_heldNodeS_l6.eq_1; have k1 := @k_laws_heldNodeS_r2.eq_1; have g0 := laws_markText_ok; have g1 := laws_heldDeclS_ok; have g2 := laws_heldAttrS_ok; have g3 := ih0; have t0 := ih1
  exact gs
theorem laws_heldNodeS_ok (a : List GNode) (k : Int) : Ok (laws_heldNodeS a k) e_laws_heldNodeS (dn FTA n_laws_heldNodeS [.t (.sl false (a.map (GNode.row false))), .t (.v (.int .i64 k))]) := G_laws_heldNodeS.1 a k
theorem laws_heldNode_ok : ∀ (a : GNode) (k : Int), Ok (laws_heldNode a k) e_laws_heldNode (dn FTA n_laws_heldNode [.agg (((GNode.row false) a).map .t), .t (.v (.int .i64 k))]) := by
 intro a k
 rw [den_ev FTA (fn := k_laws_heldNode) rfl (xN rfl rfl _) (lB rfl)]
 have k0 := @k_laws_heldNode.eq_1; have f0 := @laws_heldNode.eq_1; have g0 := laws_heldDeclS_ok; have g1 := laws_heldAttrS_ok; have g2 := laws_heldNodeS_ok
 exact gs
theorem laws_FnExactRename_ok : ∀ (aN : GNode) (aL : List GDecl), Ok (laws_FnExactRename aN aL) e_laws_FnExactRename (dn FTA n_laws_FnExactRename [.agg (((GNode.row false) aN).map .t), .t (.sl false (aL.map GDecl.row))]) := by
 intro aN aL
 rw [den_ev FTA (fn := k_laws_FnExactRename) rfl (xN rfl rfl _) (lB rfl)]
 have k0 := @k_laws_FnExactRename.eq_1; have f0 := @laws_FnExactRename.eq_1; have g0 := laws_szNode_ok; have g1 := laws_szDeclS_ok; have g2 := laws_toNode_ok; have g3 := laws_toDeclS_ok; have g4 := spec_Rename_ok; have g5 := impl_Rename_ok; have g6 := laws_eqNode_ok; have g7 := laws_eqDeclS_ok; have g8 := laws_markNode_ok; have g9 := laws_markDeclS_ok; have g10 := laws_heldNode_ok
 exact gs
end TT
