import Derived.Test.YtdpdfjkjlkmjaaaTLLb
set_option maxHeartbeats 2000000
set_option linter.unusedVariables false
set_option linter.unusedSimpArgs false
set_option linter.defProp false
set_option maxRecDepth 100000
namespace TT
open Go
open Nat (reduceAdd reduceSub reduceMul reduceLeDiff reduceLT reduceEqDiff)
theorem G_spec_SameNode : (∀ (a : GNode) (b : GNode), Ok (spec_SameNode a b) e_spec_SameNode (dn FTA n_spec_SameNode [.agg (((GNode.row false) a).map .t), .agg (((GNode.row false) b).map .t)])) ∧
  (∀ (i3 : Int) (a : GNode) (b : GNode), Ok (spec_SameNode_l14 i3 a b) e_spec_SameNode (ev FTA c_spec_SameNode (.loop k_spec_SameNode_l14) [.lv 0, .th k_spec_SameNode_r10] (putS (List.replicate 123 .dead) [(2, .ptr (2, 0) [] 0 0 1 0), (3, .ptr (3, 0) [] 0 0 1 0), (5, .t (.v (.int .i64 i3)))]) (putR (List.replicate 123 []) [(2, [.mem [[.v (.int .i64 a.Kind), .v (.string a.Pre), .v (.string a.Local), .v (.string a.Uri), .sl false (a.Decls.map GDecl.row), .sl false (a.Attrs.map GAttr.row), .sl false (a.Kids.map (GNode.row false)), .v (.string a.Text)]] 0 false]), (3, [.mem [[.v (.int .i64 b.Kind), .v (.string b.Pre), .v (.string b.Local), .v (.string b.Uri), .sl false (b.Decls.map GDecl.row), .sl false (b.Attrs.map GAttr.row), .sl false (b.Kids.map (GNode.row false)), .v (.string b.Text)]] 0 false])]))) ∧
  (∀ (i5 : Int) (a : GNode) (b : GNode), Ok (spec_SameNode_l35 i5 a b) e_spec_SameNode (ev FTA c_spec_SameNode (.loop k_spec_SameNode_l35) [.lv 2, .th k_spec_SameNode_r31] (putS (List.replicate 123 .dead) [(2, .ptr (2, 0) [] 0 0 1 0), (3, .ptr (3, 0) [] 0 0 1 0), (6, .t (.v (.int .i64 i5)))]) (putR (List.replicate 123 []) [(2, [.mem [[.v (.int .i64 a.Kind), .v (.string a.Pre), .v (.string a.Local), .v (.string a.Uri), .sl false (a.Decls.map GDecl.row), .sl false (a.Attrs.map GAttr.row), .sl false (a.Kids.map (GNode.row false)), .v (.string a.Text)]] 0 false]), (3, [.mem [[.v (.int .i64 b.Kind), .v (.string b.Pre), .v (.string b.Local), .v (.string b.Uri), .sl false (b.Decls.map GDecl.row), .sl false (b.Attrs.map GAttr.row), .sl false (b.Kids.map (GNode.row false)), .v (.string b.Text)]] 0 false])]))) ∧
  (∀ (i6 : Int) (a : GNode) (b : GNode), Ok (spec_SameNode_l56 i6 a b) e_spec_SameNode (ev FTA c_spec_SameNode (.loop k_spec_SameNode_l56) [.lv 4, .th k_spec_SameNode_r52] (putS (List.replicate 123 .dead) [(2, .ptr (2, 0) [] 0 0 1 0), (3, .ptr (3, 0) [] 0 0 1 0), (7, .t (.v (.int .i64 i6)))]) (putR (List.replicate 123 []) [(2, [.mem [[.v (.int .i64 a.Kind), .v (.string a.Pre), .v (.string a.Local), .v (.string a.Uri), .sl false (a.Decls.map GDecl.row), .sl false (a.Attrs.map GAttr.row), .sl false (a.Kids.map (GNode.row false)), .v (.string a.Text)]] 0 false]), (3, [.mem [[.v (.int .i64 b.Kind), .v (.string b.Pre), .v (.string b.Local), .v (.string b.Uri), .sl false (b.Decls.map GDecl.row), .sl false (b.Attrs.map GAttr.row), .sl false (b.Kids.map (GNode.row false)), .v (.string b.Text)]] 0 false])]))) := by
 unfold Ok
 refine spec_SameNode.mutual_partial_correctness _ _ _ _ ?_ ?_ ?_ ?_
 ·intro F1 ih1 a b
  show Ok _ _ _
  have ih1 : ∀ (i3 : Int) (a : GNode) (b : GNode), Ok (F1 i3 a b) _ _ := ih1
  rw [den_ev FTA (fn := k_spec_SameNode) rfl (xN rfl rfl _) (lB rfl)]
  have k0 := @k_spec_SameNode.eq_1; have t0 := ih1
  exact gs
 ·intro F1 F2 ih1 ih2 i3 a b
  show Ok _ _ _
  have ih1 : ∀ (i3 : Int) (a : GNode) (b : GNode), Ok (F1 i3 a b) _ _ := ih1
  have ih2 : ∀ (i5 : Int) (a : GNode) (b : GNode), Ok (F2 i5 a b) _ _ := ih2
  rw [ev_loop]
  have k0 := @k_spec_SameNode_l14.eq_1; have k1 := @k_spec_SameNode_r10.eq_1; have t0 := ih1; have t1 := ih2
  exact gs
 ·intro F2 F3 ih2 ih3 i5 a b
  show Ok _ _ _
  have ih2 : ∀ (i5 : Int) (a : GNode) (b : GNode), Ok (F2 i5 a b) _ _ := ih2
  have ih3 : ∀ (i6 : Int) (a : GNode) (b : GNode), Ok (F3 i6 a b) _ _ := ih3
  rw [ev_loop]
  have k0 := @k_spec_SameNode_l35.eq_1; have k1 := @k_spec_SameNode_r31.eq_1; have t0 := ih2; have t1 := ih3
  exact gs
 ·intro F0 F3 ih0 ih3 i6 a b
  show Ok _ _ _
  have ih0 : ∀ (a : GNode) (b : GNode), Ok (F0 a b) _ _ := ih0
  have ih3 : ∀ (i6 : Int) (a : GNode) (b : GNode), Ok (F3 i6 a b) _ _ := ih3
  rw [ev_loop]
  have k0 := @k_spec_SameNode_l56.eq_1; have k1 := @k_spec_SameNode_r52.eq_1; have g0 := ih0; have t0 := ih3
  exact gs
theorem spec_SameNode_ok (a : GNode) (b : GNode) : Ok (spec_SameNode a b) e_spec_SameNode (dn FTA n_spec_SameNode [.agg (((GNode.row false) a).map .t), .agg (((GNode.row false) b).map .t)]) := G_spec_SameNode.1 a b
theorem G_spec_l18Forest_j67 (a : List GNode) (fa : List Int) (b : List GNode) (fb : List Int) (x : Int) (x1 : Int) : (∀ (td12 : List (List Int)) (fd14 : List (List Int)) (p4 : Int) (q9 : Int) (r61 : Int) (x385 : Bool), Ok (spec_l18Forest_j67 a fa b fb td12 x x1 fd14 p4 q9 r61 x385) e_spec_l18Forest (ev FTA c_spec_l18Forest k_spec_l18Forest_r67 [.th k_spec_l18Forest_r66, .lv 7, .th k_spec_l18Forest_r58, .hk [.clean []], .th (.loop k_spec_l18Forest_l51), .lv 6, .lv 5, .th k_spec_l18Forest_r46, .hk [.clean []], .th (.loop k_spec_l18Forest_l39), .lv 4] (putS (List.replicate 185 .dead) [(0, .t (.sl false (a.map (GNode.row false)))), (1, .t (.sl false (fa.map rI))), (2, .t (.sl false (b.map (GNode.row false)))), (3, .t (.sl false (fb.map rI))), (6, .ref (6, 0) td12.length), (14, .t (.v (.int .i64 x))), (15, .t (.v (.int .i64 x1))), (16, .ref (41, 0) fd14.length), (19, .t (.v (.int .i64 p4))), (20, .t (.v (.int .i64 q9))), (21, .t (.v (.int .i64 (subI (addI x p4) 1)))), (22, .t (.v (.int .i64 (subI (addI x1 q9) 1)))), (23, .t (.v (.int .i64 (addI r61 1)))), (121, .t (.v (.bool x385)))]) (putR (List.replicate 185 []) [(6, [.mem (td12.map (rL true rI)) 0 true]), (41, [.mem (fd14.map (rL true rI)) 0 false])]))) ∧
  (∀ (td12 : List (List Int)) (fd14 : List (List Int)) (p4 : Int) (q9 : Int), Ok (spec_l18Forest_l51 a fa b fb td12 x x1 fd14 p4 q9) e_spec_l18Forest (ev FTA c_spec_l18Forest (.loop k_spec_l18Forest_l51) [.lv 6, .lv 5, .th k_spec_l18Forest_r46, .hk [.clean []], .th (.loop k_spec_l18Forest_l39), .lv 4] (putS (List.replicate 185 .dead) [(0, .t (.sl false (a.map (GNode.row false)))), (1, .t (.sl false (fa.map rI))), (2, .t (.sl false (b.map (GNode.row false)))), (3, .t (.sl false (fb.map rI))), (6, .ref (6, 0) td12.length), (14, .t (.v (.int .i64 x))), (15, .t (.v (.int .i64 x1))), (16, .ref (41, 0) fd14.length), (19, .t (.v (.int .i64 p4))), (20, .t (.v (.int .i64 q9)))]) (putR (List.replicate 185 []) [(6, [.mem (td12.map (rL true rI)) 0 true]), (41, [.mem (fd14.map (rL true rI)) 0 false])]))) ∧
  (∀ (td11 : List (List Int)) (fd13 : List (List Int)) (p4 : Int), Ok (spec_l18Forest_l39 a fa b fb td11 x x1 fd13 p4) e_spec_l18Forest (ev FTA c_spec_l18Forest (.loop k_spec_l18Forest_l39) [.lv 4] (putS (List.replicate 185 .dead) [(0, .t (.sl false (a.map (GNode.row false)))), (1, .t (.sl false (fa.map rI))), (2, .t (.sl false (b.map (GNode.row false)))), (3, .t (.sl false (fb.map rI))), (6, .ref (6, 0) td11.length), (14, .t (.v (.int .i64 x))), (15, .t (.v (.int .i64 x1))), (16, .ref (41, 0) fd13.length), (19, .t (.v (.int .i64 p4)))]) (putR (List.replicate 185 []) [(6, [.mem (td11.map (rL true rI)) 0 true]), (41, [.mem (fd13.map (rL true rI)) 0 false])]))) ∧
  (∀ (td12 : List (List Int)) (fd14 : List (List Int)) (p4 : Int) (q9 : Int) (r61 : Int) (same15 : Int), Ok (spec_l18Forest_j72 a fa b fb td12 x x1 fd14 p4 q9 r61 same15) e_spec_l18Forest (ev FTA c_spec_l18Forest k_spec_l18Forest_r72 [.th k_spec_l18Forest_r66, .lv 7, .th k_spec_l18Forest_r58, .hk [.clean []], .th (.loop k_spec_l18Forest_l51), .lv 6, .lv 5, .th k_spec_l18Forest_r46, .hk [.clean []], .th (.loop k_spec_l18Forest_l39), .lv 4] (putS (List.replicate 185 .dead) [(0, .t (.sl false (a.map (GNode.row false)))), (1, .t (.sl false (fa.map rI))), (2, .t (.sl false (b.map (GNode.row false)))), (3, .t (.sl false (fb.map rI))), (6, .ref (6, 0) td12.length), (14, .t (.v (.int .i64 x))), (15, .t (.v (.int .i64 x1))), (16, .ref (41, 0) fd14.length), (19, .t (.v (.int .i64 p4))), (20, .t (.v (.int .i64 q9))), (21, .t (.v (.int .i64 (subI (addI x p4) 1)))), (22, .t (.v (.int .i64 (subI (addI x1 q9) 1)))), (23, .t (.v (.int .i64 (addI r61 1)))), (24, .t (.v (.int .i64 same15)))]) (putR (List.replicate 185 []) [(6, [.mem (td12.map (rL true rI)) 0 true]), (41, [.mem (fd14.map (rL true rI)) 0 false])]))) := by
 unfold Ok
 refine spec_l18Forest_j67.mutual_partial_correctness a fa b fb x x1 _ _ _ _ ?_ ?_ ?_ ?_
 ·intro F1 F3 ih1 ih3 td12 fd14 p4 q9 r61 x385
  show Ok _ _ _
  have ih3 : ∀ (td12 : List (List Int)) (fd14 : List (List Int)) (p4 : Int) (q9 : Int) (r61 : Int) (same15 : Int), Ok (F3 td12 fd14 p4 q9 r61 same15) _ _ := ih3
  have ih1 : ∀ (td12 : List (List Int)) (fd14 : List (List Int)) (p4 : Int) (q9 : Int), Ok (F1 td12 fd14 p4 q9) _ _ := ih1
  have k0 := @k_spec_l18Forest_r67.eq_1; have k1 := @k_spec_l18Forest_r58.eq_1; have k2 := @k_spec_l18Forest_r66.eq_1; have g0 := spec_SameNode_ok; have g1 := spec_l18Min_ok; have t0 := ih3; have t1 := ih1
  exact gs
 ·intro F0 F2 ih0 ih2 td12 fd14 p4 q9
  show Ok _ _ _
  have ih0 : ∀ (td12 : List (List Int)) (fd14 : List (List Int)) (p4 : Int) (q9 : Int) (r61 : Int) (x385 : Bool), Ok (F0 td12 fd14 p4 q9 r61 x385) _ _ := ih0
  have ih2 : ∀ (td11 : List (List Int)) (fd13 : List (List Int)) (p4 : Int), Ok (F2 td11 fd13 p4) _ _ := ih2
  rw [ev_loop]
  have k0 := @k_spec_l18Forest_l51.eq_1; have k1 := @k_spec_l18Forest_r46.eq_1; have g0 := spec_l18Min_ok; have t0 := ih0; have t1 := ih2
  exact gs
 ·intro F1 ih1 td11 fd13 p4
  show Ok _ _ _
  have ih1 : ∀ (td12 : List (List Int)) (fd14 : List (List Int)) (p4 : Int) (q9 : Int), Ok (F1 td12 fd14 p4 q9) _ _ := ih1
  rw [ev_loop]
  have k0 := @k_spec_l18Forest_l39.eq_1; have t0 := ih1
  exact gs
 ·intro F1 ih1 td12 fd14 p4 q9 r61 same15
  show Ok _ _ _
  have ih1 : ∀ (td12 : List (List Int)) (fd14 : List (List Int)) (p4 : Int) (q9 : Int), Ok (F1 td12 fd14 p4 q9) _ _ := ih1
  have k0 := @k_spec_l18Forest_r72.eq_1; have k1 := @k_spec_l18Forest_r58.eq_1; have k2 := @k_spec_l18Forest_r66.eq_1; have g0 := spec_l18Min_ok; have t0 := ih1
  exact gs
theorem spec_l18Forest_l25_ok (a : List GNode) (fa : List Int) (b : List GNode) (fb : List Int) (td : List (List Int)) (x : Int) (x1 : Int) : ∀ (fd11 : List (List Int)) (q7 : Int), Ok (spec_l18Forest_l25 a fa b fb td x x1 fd11 q7) e_spec_l18Forest (ev FTA c_spec_l18Forest (.loop k_spec_l18Forest_l25) [.lv 2, .th k_spec_l18Forest_r21] (putS (List.replicate 185 .dead) [(0, .t (.sl false (a.map (GNode.row false)))), (1, .t (.sl false (fa.map rI))), (2, .t (.sl false (b.map (GNode.row false)))), (3, .t (.sl false (fb.map rI))), (6, .ref (6, 0) td.length), (14, .t (.v (.int .i64 x))), (15, .t (.v (.int .i64 x1))), (16, .ref (41, 0) fd11.length), (18, .t (.v (.int .i64 q7)))]) (putR (List.replicate 185 []) [(6, [.mem (td.map (rL true rI)) 0 true]), (41, [.mem (fd11.map (rL true rI)) 0 false])])) := by
 unfold Ok
 refine spec_l18Forest_l25.partial_correctness a fa b fb td x x1 _ ?_
 intro F ih fd11 q7
 show Ok _ _ _
 have ih : ∀ (fd11 : List (List Int)) (q7 : Int), Ok (F fd11 q7) _ _ := ih
 rw [ev_loop]
 have k0 := @k_spec_l18Forest_l25.eq_1; have k1 := @k_spec_l18Forest_r21.eq_1; have t0 := ih; have t1 := fun a0 a1 a2 a3 a4 a5 => (G_spec_l18Forest_j67 a0 a1 a2 a3 a4 a5).2.2.1
 exact gs
theorem spec_l18Forest_l10_ok (a : List GNode) (fa : List Int) (b : List GNode) (fb : List Int) (td : List (List Int)) (x : Int) (x1 : Int) : ∀ (fd7 : List (List Int)) (p2 : Int), Ok (spec_l18Forest_l10 a fa b fb td x x1 fd7 p2) e_spec_l18Forest (ev FTA c_spec_l18Forest (.loop k_spec_l18Forest_l10) [.lv 0, .th k_spec_l18Forest_r6] (putS (List.replicate 185 .dead) [(0, .t (.sl false (a.map (GNode.row false)))), (1, .t (.sl false (fa.map rI))), (2, .t (.sl false (b.map (GNode.row false)))), (3, .t (.sl false (fb.map rI))), (6, .ref (6, 0) td.length), (14, .t (.v (.int .i64 x))), (15, .t (.v (.int .i64 x1))), (16, .ref (41, 0) fd7.length), (17, .t (.v (.int .i64 p2)))]) (putR (List.replicate 185 []) [(6, [.mem (td.map (rL true rI)) 0 true]), (41, [.mem (fd7.map (rL true rI)) 0 false])])) := by
 unfold Ok
 refine spec_l18Forest_l10.partial_correctness a fa b fb td x x1 _ ?_
 intro F ih fd7 p2
 show Ok _ _ _
 have ih : ∀ (fd7 : List (List Int)) (p2 : Int), Ok (F fd7 p2) _ _ := ih
 rw [ev_loop]
 have k0 := @k_spec_l18Forest_l10.eq_1; have k1 := @k_spec_l18Forest_r6.eq_1; have t0 := ih; have t1 := spec_l18Forest_l25_ok
 exact gs
theorem spec_l18Forest_ok : ∀ (a : List GNode) (fa : List Int) (b : List GNode) (fb : List Int) (i : Int) (j : Int) (td : List (List Int)), Ok (spec_l18Forest a fa b fb i j td) e_spec_l18Forest (dn FTA n_spec_l18Forest [.t (.sl false (a.map (GNode.row false))), .t (.sl false (fa.map rI)), .t (.sl false (b.map (GNode.row false))), .t (.sl false (fb.map rI)), .t (.v (.int .i64 i)), .t (.v (.int .i64 j)), .ln (td.map (rL true rI))]) := by
 intro a fa b fb i j td
 rw [den_ev FTA (fn := k_spec_l18Forest) rfl (xN rfl rfl _) (lB rfl)]
 have k0 := @k_spec_l18Forest.eq_1; have f0 := @spec_l18Forest.eq_1; have g0 := spec_l18Grid_ok; have t0 := spec_l18Forest_l10_ok
 exact gs
theorem G_spec_Gap_l36 (r2 : List GNode × List Int) (r3 : List GNode × List Int) (r5 : List Int) (r6 : List Int) : (∀ (td2 : List (List Int)) (i : Int) (k1 : Int), Ok (spec_Gap_l36 r2 r3 td2 r5 r6 i k1) e_spec_Gap (ev FTA c_spec_Gap (.loop k_spec_Gap_l36) [.lv 2, .lv 1, .th k_spec_Gap_r31, .hk [.clean []], .th (.loop k_spec_Gap_l24), .lv 0, .th k_spec_Gap_r20] (putS (List.replicate 78 .dead) [(5, .ref (24, 0) r2.1.length), (6, .ref (24, 1) r2.2.length), (7, .ref (29, 0) r3.1.length), (8, .ref (29, 1) r3.2.length), (9, .ref (36, 0) td2.length), (10, .ref (38, 0) r5.length), (11, .ref (40, 0) r6.length), (12, .t (.v (.int .i64 i))), (13, .t (.v (.int .i64 k1)))]) (putR (List.replicate 78 []) [(24, [.mem (r2.1.map (GNode.row true)) 0 false, .mem (r2.2.map rI) 0 false]), (29, [.mem (r3.1.map (GNode.row true)) 0 false, .mem (r3.2.map rI) 0 false]), (36, [.mem (td2.map (rL true rI)) 0 false]), (38, [.mem (r5.map rI) 0 false]), (40, [.mem (r6.map rI) 0 false])]))) ∧
  (∀ (td1 : List (List Int)) (i : Int), Ok (spec_Gap_l24 r2 r3 td1 r5 r6 i) e_spec_Gap (ev FTA c_spec_Gap (.loop k_spec_Gap_l24) [.lv 0, .th k_spec_Gap_r20] (putS (List.replicate 78 .dead) [(5, .ref (24, 0) r2.1.length), (6, .ref (24, 1) r2.2.length), (7, .ref (29, 0) r3.1.length), (8, .ref (29, 1) r3.2.length), (9, .ref (36, 0) td1.length), (10, .ref (38, 0) r5.length), (11, .ref (40, 0) r6.length), (12, .t (.v (.int .i64 i)))]) (putR (List.replicate 78 []) [(24, [.mem (r2.1.map (GNode.row true)) 0 false, .mem (r2.2.map rI) 0 false]), (29, [.mem (r3.1.map (GNode.row true)) 0 false, .mem (r3.2.map rI) 0 false]), (36, [.mem (td1.map (rL true rI)) 0 false]), (38, [.mem (r5.map rI) 0 false]), (40, [.mem (r6.map rI) 0 false])]))) := by
 unfold Ok
 refine spec_Gap_l36.mutual_partial_correctness r2 r3 r5 r6 _ _ ?_ ?_
 ·intro F0 F1 ih0 ih1 td2 i k1
  show Ok _ _ _
  have ih0 : ∀ (td2 : List (List Int)) (i : Int) (k1 : Int), Ok (F0 td2 i k1) _ _ := ih0
  have ih1 : ∀ (td1 : List (List Int)) (i : Int), Ok (F1 td1 i) _ _ := ih1
  rw [ev_loop]
  have k0 := @k_spec_Gap_l36.eq_1; have k1 := @k_spec_Gap_r31.eq_1; have g0 := spec_l18Forest_ok; have t0 := ih0; have t1 := ih1
  exact gs
 ·intro F0 ih0 td1 i
  show Ok _ _ _
  have ih0 : ∀ (td2 : List (List Int)) (i : Int) (k1 : Int), Ok (F0 td2 i k1) _ _ := ih0
  rw [ev_loop]
  have k0 := @k_spec_Gap_l24.eq_1; have k1 := @k_spec_Gap_r20.eq_1; have t0 := ih0
  exact gs
theorem spec_Gap_ok : ∀ (a : GNode) (b : GNode), Ok (spec_Gap a b) e_spec_Gap (dn FTA n_spec_Gap [.agg (((GNode.row false) a).map .t), .agg (((GNode.row false) b).map .t)]) := by
 intro a b
 rw [den_ev FTA (fn := k_spec_Gap) rfl (xN rfl rfl _) (lB rfl)]
 have k0 := @k_spec_Gap.eq_1; have f0 := @spec_Gap.eq_1; have g0 := spec_Nodes_ok; have g1 := spec_l18Post_ok; have g2 := spec_l18Grid_ok; have g3 := spec_l18Keys_ok; have t0 := fun a0 a1 a2 a3 => (G_spec_Gap_l36 a0 a1 a2 a3).2
 exact gs
theorem laws_FnWayRound_ok : ∀ (code : List Int), Ok (laws_FnWayRound code) e_laws_FnWayRound (dn FTA n_laws_FnWayRound [.t (.sl false (code.map (rK .u8)))]) := by
 intro code
 rw [den_ev FTA (fn := k_laws_FnWayRound) rfl (xN rfl rfl _) (lB rfl)]
 have k0 := @k_laws_FnWayRound.eq_1; have f0 := @laws_FnWayRound.eq_1; have g0 := laws_big_ok; have g1 := spec_DrawSmall_ok; have g2 := impl_Gap_ok; have g3 := spec_Gap_ok
 exact gs
end TT
