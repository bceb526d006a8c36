import Derived.Test.YtdpdfjkjlkmjaaaTLLa
set_option maxHeartbeats 2000000
set_option linter.unusedVariables false
set_option linter.unusedSimpArgs false
set_option linter.defProp false
set_option maxRecDepth 100000
namespace TT
open Go
open Nat (reduceAdd reduceSub reduceMul reduceLeDiff reduceLT reduceEqDiff)
theorem slices_Equal_Attr_l14_ok (s1 : List GAttr) (s2 : List GAttr) : ∀ (x2 : Int), Ok (slices_Equal_Attr_l14 s1 s2 x2) e_slices_Equal_Attr (ev FTA c_slices_Equal_Attr (.loop k_slices_Equal_Attr_l14) [.lv 0, .th k_slices_Equal_Attr_r10] (putS (List.replicate 26 .dead) [(0, .t (.sl false (s1.map GAttr.row))), (1, .t (.sl false (s2.map GAttr.row))), (12, .t (.v (.int .i64 (lenL s1)))), (13, .t (.v (.int .i64 x2)))]) (putR (List.replicate 26 []) [])) := by
 unfold Ok
 refine slices_Equal_Attr_l14.partial_correctness s1 s2 _ ?_
 intro F ih x2
 show Ok _ _ _
 have ih : ∀ (x2 : Int), Ok (F x2) _ _ := ih
 rw [ev_loop]
 have k0 := @k_slices_Equal_Attr_l14.eq_1; have k1 := @k_slices_Equal_Attr_r10.eq_1; have t0 := ih
 exact gs
theorem slices_Equal_Attr_ok : ∀ (s1 : List GAttr) (s2 : List GAttr), Ok (slices_Equal_Attr s1 s2) e_slices_Equal_Attr (dn FTA n_slices_Equal_Attr [.t (.sl false (s1.map GAttr.row)), .t (.sl false (s2.map GAttr.row))]) := by
 intro s1 s2
 rw [den_ev FTA (fn := k_slices_Equal_Attr) rfl (xN rfl rfl _) (lB rfl)]
 have k0 := @k_slices_Equal_Attr.eq_1; have f0 := @slices_Equal_Attr.eq_1; have t0 := slices_Equal_Attr_l14_ok
 exact gs
theorem impl_sameAlone_ok : ∀ (a : GNode) (b : GNode), Ok (impl_sameAlone a b) e_impl_sameAlone (dn FTA n_impl_sameAlone [.agg (((GNode.row false) a).map .t), .agg (((GNode.row false) b).map .t)]) := by
 intro a b
 rw [den_ev FTA (fn := k_impl_sameAlone) rfl (xN rfl rfl _) (lB rfl)]
 have k0 := @k_impl_sameAlone.eq_1; have f0 := @impl_sameAlone.eq_1; have g0 := slices_Equal_Decl_ok; have g1 := slices_Equal_Attr_ok
 exact gs
theorem impl_gaps_least_j12_ok : ∀ (forest : List (List Int)) (p : Int) (q : Int) (a2 : Int) (y : Int) (x1 : Int) (x3 : Int) (change : Int) (g : Ggaps), Ok (impl_gaps_least_j12 forest p q a2 y x1 x3 change g) e_impl_gaps_least (ev FTA c_impl_gaps_least k_impl_gaps_least_r12 [.hk [.kill [4, 5, 64], .clean []], .th k_impl_gaps_least_r6] (putS (List.replicate 144 .dead) [(0, .ptr (0, 0) [] 0 0 1 0), (1, .t (.sl false (forest.map (rL false rI)))), (4, .t (.v (.int .i64 p))), (5, .t (.v (.int .i64 q))), (13, .t (.v (.int .i64 (subI (addI a2 p) 1)))), (14, .t (.v (.int .i64 (subI (addI y q) 1)))), (15, .t (.v (.int .i64 (addI (minI x1 x3) 1)))), (16, .t (.v (.int .i64 change)))]) (putR (List.replicate 144 []) [(0, [.mem [[.sl true (g.xa.xnodes.map (GNode.row true)), .sl true (g.xa.xfirst.map rI), .sl true (g.xb.xnodes.map (GNode.row true)), .sl true (g.xb.xfirst.map rI), .sl true (g.xtree.map (rL true rI))]] 0 true])])) := by
 intro forest p q a2 y x1 x3 change g
 have k0 := @k_impl_gaps_least_r12.eq_1; have f0 := @impl_gaps_least_j12.eq_1
 exact gs
theorem impl_gaps_least_j7_ok : ∀ (forest : List (List Int)) (a2 : Int) (y : Int) (p : Int) (q : Int) (x1 : Int) (x3 : Int) (x6 : Bool) (g : Ggaps), Ok (impl_gaps_least_j7 forest a2 y p q x1 x3 x6 g) e_impl_gaps_least (ev FTA c_impl_gaps_least k_impl_gaps_least_r7 [.hk [.kill [4, 5, 64], .clean []], .th k_impl_gaps_least_r6] (putS (List.replicate 144 .dead) [(0, .ptr (0, 0) [] 0 0 1 0), (1, .t (.sl false (forest.map (rL false rI)))), (2, .t (.v (.int .i64 a2))), (3, .t (.v (.int .i64 y))), (4, .t (.v (.int .i64 p))), (5, .t (.v (.int .i64 q))), (13, .t (.v (.int .i64 (subI (addI a2 p) 1)))), (14, .t (.v (.int .i64 (subI (addI y q) 1)))), (15, .t (.v (.int .i64 (addI (minI x1 x3) 1)))), (64, .t (.v (.bool x6)))]) (putR (List.replicate 144 []) [(0, [.mem [[.sl true (g.xa.xnodes.map (GNode.row true)), .sl true (g.xa.xfirst.map rI), .sl true (g.xb.xnodes.map (GNode.row true)), .sl true (g.xb.xfirst.map rI), .sl true (g.xtree.map (rL true rI))]] 0 true])])) := by
 intro forest a2 y p q x1 x3 x6 g
 have k0 := @k_impl_gaps_least_r7.eq_1; have k1 := @k_impl_gaps_least_r6.eq_1; have f0 := @impl_gaps_least_j7.eq_1; have g0 := impl_sameAlone_ok; have t0 := impl_gaps_least_j12_ok
 exact gs
theorem impl_gaps_least_ok : ∀ (g : Ggaps) (forest : List (List Int)) (a2 : Int) (y : Int) (p : Int) (q : Int), Ok (impl_gaps_least g forest a2 y p q) e_impl_gaps_least (dn FTA n_impl_gaps_least [.lp [.sl true (g.xa.xnodes.map (GNode.row true)), .sl true (g.xa.xfirst.map rI), .sl true (g.xb.xnodes.map (GNode.row true)), .sl true (g.xb.xfirst.map rI), .sl true (g.xtree.map (rL true rI))] 0, .t (.sl false (forest.map (rL false rI))), .t (.v (.int .i64 a2)), .t (.v (.int .i64 y)), .t (.v (.int .i64 p)), .t (.v (.int .i64 q))]) := by
 intro g forest a2 y p q
 rw [den_ev FTA (fn := k_impl_gaps_least) rfl (xN rfl rfl _) (lB rfl)]
 have k0 := @k_impl_gaps_least.eq_1; have f0 := @impl_gaps_least.eq_1; have t0 := impl_gaps_least_j7_ok
 exact gs
theorem G_impl_gaps_count_l38 (x : Int) (x1 : Int) (forest3 : List (List Int)) : (∀ (forest6 : List (List Int)) (x48 : Int) (x49 : List Int) (x56 : Int) (g6 : Ggaps), Ok (impl_gaps_count_l38 x x1 forest6 x48 forest3 x49 x56 g6) e_impl_gaps_count (ev FTA c_impl_gaps_count (.loop k_impl_gaps_count_l38) [.lv 4, .lv 3, .th k_impl_gaps_count_r31, .hk [.clean []], .th (.loop k_impl_gaps_count_l24), .lv 2] (putS (List.replicate 95 .dead) [(0, .ptr (0, 0) [] 0 0 1 0), (6, .t (.v (.int .i64 x))), (7, .t (.v (.int .i64 x1))), (8, .ref (32, 0) forest6.length), (10, .t (.v (.int .i64 x48))), (48, .t (.v (.int .i64 (lenL forest3)))), (49, .t (.v (.int .i64 x48))), (56, .t (.v (.int .i64 (lenL x49)))), (57, .t (.v (.int .i64 x56)))]) (putR (List.replicate 95 []) [(0, [.mem [[.sl true (g6.xa.xnodes.map (GNode.row true)), .sl true (g6.xa.xfirst.map rI), .sl true (g6.xb.xnodes.map (GNode.row true)), .sl true (g6.xb.xfirst.map rI), .sl true (g6.xtree.map (rL true rI))]] 0 true]), (32, [.mem (forest6.map (rL true rI)) 0 false])]))) ∧
  (∀ (forest5 : List (List Int)) (x48 : Int) (g5 : Ggaps), Ok (impl_gaps_count_l24 x x1 forest5 forest3 x48 g5) e_impl_gaps_count (ev FTA c_impl_gaps_count (.loop k_impl_gaps_count_l24) [.lv 2] (putS (List.replicate 95 .dead) [(0, .ptr (0, 0) [] 0 0 1 0), (6, .t (.v (.int .i64 x))), (7, .t (.v (.int .i64 x1))), (8, .ref (32, 0) forest5.length), (48, .t (.v (.int .i64 (lenL forest3)))), (49, .t (.v (.int .i64 x48)))]) (putR (List.replicate 95 []) [(0, [.mem [[.sl true (g5.xa.xnodes.map (GNode.row true)), .sl true (g5.xa.xfirst.map rI), .sl true (g5.xb.xnodes.map (GNode.row true)), .sl true (g5.xb.xfirst.map rI), .sl true (g5.xtree.map (rL true rI))]] 0 true]), (32, [.mem (forest5.map (rL true rI)) 0 false])]))) := by
 unfold Ok
 refine impl_gaps_count_l38.mutual_partial_correctness x x1 forest3 _ _ ?_ ?_
 ·intro F0 F1 ih0 ih1 forest6 x48 x49 x56 g6
  show Ok _ _ _
  have ih0 : ∀ (forest6 : List (List Int)) (x48 : Int) (x49 : List Int) (x56 : Int) (g6 : Ggaps), Ok (F0 forest6 x48 x49 x56 g6) _ _ := ih0
  have ih1 : ∀ (forest5 : List (List Int)) (x48 : Int) (g5 : Ggaps), Ok (F1 forest5 x48 g5) _ _ := ih1
  rw [ev_loop]
  have k0 := @k_impl_gaps_count_l38.eq_1; have k1 := @k_impl_gaps_count_r31.eq_1; have g0 := impl_gaps_least_ok; have t0 := ih0; have t1 := ih1
  exact gs
 ·intro F0 ih0 forest5 x48 g5
  show Ok _ _ _
  have ih0 : ∀ (forest6 : List (List Int)) (x48 : Int) (x49 : List Int) (x56 : Int) (g6 : Ggaps), Ok (F0 forest6 x48 x49 x56 g6) _ _ := ih0
  rw [ev_loop]
  have k0 := @k_impl_gaps_count_l24.eq_1; have t0 := ih0
  exact gs
theorem impl_gaps_count_l8_ok (k : Int) (x : Int) (x1 : Int) (m : Nat) (g : Ggaps) : ∀ (forest3 : List (List Int)) (x32 : Int), Ok (impl_gaps_count_l8 k x x1 forest3 m x32 g) e_impl_gaps_count (ev FTA c_impl_gaps_count (.loop k_impl_gaps_count_l8) [.lv 0, .th k_impl_gaps_count_r4] (putS (List.replicate 95 .dead) [(0, .ptr (0, 0) [] 0 0 1 0), (2, .t (.v (.int .i64 k))), (6, .t (.v (.int .i64 x))), (7, .t (.v (.int .i64 x1))), (8, .ref (32, 0) forest3.length), (34, .t (.v (.int .i64 ((m : Nat) : Int)))), (35, .t (.v (.int .i64 x32)))]) (putR (List.replicate 95 []) [(0, [.mem [[.sl true (g.xa.xnodes.map (GNode.row true)), .sl true (g.xa.xfirst.map rI), .sl true (g.xb.xnodes.map (GNode.row true)), .sl true (g.xb.xfirst.map rI), .sl true (g.xtree.map (rL true rI))]] 0 true]), (32, [.mem (forest3.map (rL true rI)) 0 false])])) := by
 unfold Ok
 refine impl_gaps_count_l8.partial_correctness k x x1 m g _ ?_
 intro F ih forest3 x32
 show Ok _ _ _
 have ih : ∀ (forest3 : List (List Int)) (x32 : Int), Ok (F forest3 x32) _ _ := ih
 rw [ev_loop]
 have k0 := @k_impl_gaps_count_l8.eq_1; have k1 := @k_impl_gaps_count_r4.eq_1; have t0 := ih; have t1 := fun a0 a1 a2 => (G_impl_gaps_count_l38 a0 a1 a2).2
 exact gs
theorem impl_gaps_count_ok : ∀ (g : Ggaps) (i : Int) (k : Int), Ok (impl_gaps_count g i k) e_impl_gaps_count (dn FTA n_impl_gaps_count [.lp [.sl true (g.xa.xnodes.map (GNode.row true)), .sl true (g.xa.xfirst.map rI), .sl true (g.xb.xnodes.map (GNode.row true)), .sl true (g.xb.xfirst.map rI), .sl true (g.xtree.map (rL true rI))] 0, .t (.v (.int .i64 i)), .t (.v (.int .i64 k))]) := by
 intro g i k
 rw [den_ev FTA (fn := k_impl_gaps_count) rfl (xN rfl rfl _) (lB rfl)]
 have k0 := @k_impl_gaps_count.eq_1; have f0 := @impl_gaps_count.eq_1; have t0 := impl_gaps_count_l8_ok
 exact gs
theorem G_impl_Gap_l49 (r3 : Ggaps) : (∀ (x11 : Int) (g4 : Ggaps) (x12 : Int) (g5 : Ggaps), Ok (impl_Gap_l49 x11 r3 g4 x12 g5) e_impl_Gap (ev FTA c_impl_Gap (.loop k_impl_Gap_l49) [.lv 4, .lv 3, .th k_impl_Gap_r42, .hk [.clean []], .th (.loop k_impl_Gap_l35), .lv 2, .th k_impl_Gap_r31] (putS (List.replicate 99 .dead) [(5, .ptr (17, 0) [] 0 0 1 0), (6, .t (.v (.int .i64 x11))), (58, .t (.v (.int .i64 (lenL r3.xa.xnodes)))), (59, .t (.v (.int .i64 x11))), (67, .t (.v (.int .i64 (lenL g4.xb.xnodes)))), (68, .t (.v (.int .i64 x12)))]) (putR (List.replicate 99 []) [(17, [.mem [[.sl true (g5.xa.xnodes.map (GNode.row true)), .sl true (g5.xa.xfirst.map rI), .sl true (g5.xb.xnodes.map (GNode.row true)), .sl true (g5.xb.xfirst.map rI), .sl true (g5.xtree.map (rL true rI))]] 0 false])]))) ∧
  (∀ (x11 : Int) (g4 : Ggaps), Ok (impl_Gap_l35 r3 x11 g4) e_impl_Gap (ev FTA c_impl_Gap (.loop k_impl_Gap_l35) [.lv 2, .th k_impl_Gap_r31] (putS (List.replicate 99 .dead) [(5, .ptr (17, 0) [] 0 0 1 0), (58, .t (.v (.int .i64 (lenL r3.xa.xnodes)))), (59, .t (.v (.int .i64 x11)))]) (putR (List.replicate 99 []) [(17, [.mem [[.sl true (g4.xa.xnodes.map (GNode.row true)), .sl true (g4.xa.xfirst.map rI), .sl true (g4.xb.xnodes.map (GNode.row true)), .sl true (g4.xb.xfirst.map rI), .sl true (g4.xtree.map (rL true rI))]] 0 false])]))) := by
 unfold Ok
 refine impl_Gap_l49.mutual_partial_correctness r3 _ _ ?_ ?_
 ·intro F0 F1 ih0 ih1 x11 g4 x12 g5
  show Ok _ _ _
  have ih0 : ∀ (x11 : Int) (g4 : Ggaps) (x12 : Int) (g5 : Ggaps), Ok (F0 x11 g4 x12 g5) _ _ := ih0
  have ih1 : ∀ (x11 : Int) (g4 : Ggaps), Ok (F1 x11 g4) _ _ := ih1
  rw [ev_loop]
  have k0 := @k_impl_Gap_l49.eq_1; have k1 := @k_impl_Gap_r42.eq_1; have g0 := impl_gaps_count_ok; have t0 := ih0; have t1 := ih1
  exact gs
 ·intro F0 ih0 x11 g4
  show Ok _ _ _
  have ih0 : ∀ (x11 : Int) (g4 : Ggaps) (x12 : Int) (g5 : Ggaps), Ok (F0 x11 g4 x12 g5) _ _ := ih0
  rw [ev_loop]
  have k0 := @k_impl_Gap_l35.eq_1; have k1 := @k_impl_Gap_r31.eq_1; have t0 := ih0
  exact gs
theorem impl_Gap_l20_ok (r3 : Ggaps) : ∀ (x7 : Int) (gxtree : List (List Int)), Ok (impl_Gap_l20 r3 x7 gxtree) e_impl_Gap (ev FTA c_impl_Gap (.loop k_impl_Gap_l20) [.lv 0, .th k_impl_Gap_r16] (putS (List.replicate 99 .dead) [(5, .ptr (17, 0) [] 0 0 1 0), (33, .t (.v (.int .i64 (lenL r3.xa.xnodes)))), (34, .t (.v (.int .i64 x7)))]) (putR (List.replicate 99 []) [(17, [.mem [[.sl true (r3.xa.xnodes.map (GNode.row true)), .sl true (r3.xa.xfirst.map rI), .sl true (r3.xb.xnodes.map (GNode.row true)), .sl true (r3.xb.xfirst.map rI), .sl true (gxtree.map (rL true rI))]] 0 false])])) := by
 unfold Ok
 refine impl_Gap_l20.partial_correctness r3 _ ?_
 intro F ih x7 gxtree
 show Ok _ _ _
 have ih : ∀ (x7 : Int) (gxtree : List (List Int)), Ok (F x7 gxtree) _ _ := ih
 rw [ev_loop]
 have k0 := @k_impl_Gap_l20.eq_1; have k1 := @k_impl_Gap_r16.eq_1; have t0 := ih; have t1 := fun a0 => (G_impl_Gap_l49 a0).2
 exact gs
theorem impl_Gap_ok : ∀ (a : GNode) (b : GNode), Ok (impl_Gap a b) e_impl_Gap (dn FTA n_impl_Gap [.agg (((GNode.row false) a).map .t), .agg (((GNode.row false) b).map .t)]) := by
 intro a b
 rw [den_ev FTA (fn := k_impl_Gap) rfl (xN rfl rfl _) (lB rfl)]
 have k0 := @k_impl_Gap.eq_1; have f0 := @impl_Gap.eq_1; have g0 := impl_Nodes_ok; have g1 := impl_row_put_ok; have g2 := impl_row_put''_ok; have t0 := impl_Gap_l20_ok
 exact gs
theorem G_spec_Nodes : (∀ (n : GNode), Ok (spec_Nodes n) e_spec_Nodes (dn FTA n_spec_Nodes [.agg (((GNode.row false) n).map .t)])) ∧
  (∀ (k : Int) (i : Int) (n : GNode), Ok (spec_Nodes_l8 k i n) e_spec_Nodes (ev FTA c_spec_Nodes (.loop k_spec_Nodes_l8) [.lv 0, .th k_spec_Nodes_r4] (putS (List.replicate 21 .dead) [(1, .ptr (1, 0) [] 0 0 1 0), (3, .t (.v (.int .i64 k))), (4, .t (.v (.int .i64 i)))]) (putR (List.replicate 21 []) [(1, [.mem [[.v (.int .i64 n.Kind), .v (.string n.Pre), .v (.string n.Local), .v (.string n.Uri), .sl false (n.Decls.map GDecl.row), .sl false (n.Attrs.map GAttr.row), .sl false (n.Kids.map (GNode.row false)), .v (.string n.Text)]] 0 false])]))) := by
 unfold Ok
 refine spec_Nodes.mutual_partial_correctness _ _ ?_ ?_
 ·intro F1 ih1 n
  show Ok _ _ _
  have ih1 : ∀ (k : Int) (i : Int) (n : GNode), Ok (F1 k i n) _ _ := ih1
  rw [den_ev FTA (fn := k_spec_Nodes) rfl (xN rfl rfl _) (lB rfl)]
  have k0 := @k_spec_Nodes.eq_1; have t0 := ih1
  exact gs
 ·intro F0 F1 ih0 ih1 k i n
  show Ok _ _ _
  have ih0 : ∀ (n : GNode), Ok (F0 n) _ _ := ih0
  have ih1 : ∀ (k : Int) (i : Int) (n : GNode), Ok (F1 k i n) _ _ := ih1
  rw [ev_loop]
  have k0 := @k_spec_Nodes_l8.eq_1; have k1 := @k_spec_Nodes_r4.eq_1; have g0 := ih0; have t0 := ih1
  exact gs
theorem spec_Nodes_ok (n : GNode) : Ok (spec_Nodes n) e_spec_Nodes (dn FTA n_spec_Nodes [.agg (((GNode.row false) n).map .t)]) := G_spec_Nodes.1 n
theorem G_spec_l5All : (∀ (l : List GNode), Ok (spec_l5All l) e_spec_l5All (dn FTA n_spec_l5All [.t (.sl false (l.map (GNode.row false)))])) ∧
  (∀ (l : List GNode) (out : List (GNode)) (i : Int), Ok (spec_l5All_l8 l out i) e_spec_l5All (ev FTA c_spec_l5All (.loop k_spec_l5All_l8) [.lv 0, .th k_spec_l5All_r4] (putS (List.replicate 23 .dead) [(0, .t (.sl false (l.map (GNode.row false)))), (3, .ref (6, 0) out.length), (4, .t (.v (.int .i64 i)))]) (putR (List.replicate 23 []) [(6, [.mem (out.map (GNode.row true)) 0 false])]))) ∧
  (∀ (n : GNode), Ok (spec_l5Copy n) e_spec_l5Copy (dn FTA n_spec_l5Copy [.agg (((GNode.row false) n).map .t)])) := by
 unfold Ok
 refine spec_l5All.mutual_partial_correctness _ _ _ ?_ ?_ ?_
 ·intro F1 ih1 l
  show Ok _ _ _
  have ih1 : ∀ (l : List GNode) (out : List (GNode)) (i : Int), Ok (F1 l out i) _ _ := ih1
  rw [den_ev FTA (fn := k_spec_l5All) rfl (xN rfl rfl _) (lB rfl)]
  have k0 := @k_spec_l5All.eq_1; have t0 := ih1
  exact gs
 ·intro F1 F2 ih1 ih2 l out i
  show Ok _ _ _
  have ih2 : ∀ (n : GNode), Ok (F2 n) _ _ := ih2
  have ih1 : ∀ (l : List GNode) (out : List (GNode)) (i : Int), Ok (F1 l out i) _ _ := ih1
  rw [ev_loop]
  have k0 := @k_spec_l5All_l8.eq_1; have k1 := @k_spec_l5All_r4.eq_1; have g0 := ih2; have t0 := ih1
  exact gs
 ·intro F0 ih0 n
  show Ok _ _ _
  have ih0 : ∀ (l : List GNode), Ok (F0 l) _ _ := ih0
  rw [den_ev FTA (fn := k_spec_l5Copy) rfl (xN rfl rfl _) (lB rfl)]
  have k0 := @k_spec_l5Copy.eq_1; have g0 := ih0
  exact gs
theorem spec_l5All_ok (l : List GNode) : Ok (spec_l5All l) e_spec_l5All (dn FTA n_spec_l5All [.t (.sl false (l.map (GNode.row false)))]) := G_spec_l5All.1 l
theorem spec_l5Copy_ok (n : GNode) : Ok (spec_l5Copy n) e_spec_l5Copy (dn FTA n_spec_l5Copy [.agg (((GNode.row false) n).map .t)]) := G_spec_l5All.2.2 n
theorem spec_Alone_ok : ∀ (n : GNode), Ok (spec_Alone n) e_spec_Alone (dn FTA n_spec_Alone [.agg (((GNode.row false) n).map .t)]) := by
 intro n
 rw [den_ev FTA (fn := k_spec_Alone) rfl (xN rfl rfl _) (lB rfl)]
 have k0 := @k_spec_Alone.eq_1; have f0 := @spec_Alone.eq_1; have g0 := spec_l5Copy_ok
 exact gs
theorem G_spec_l18Post : (∀ (n : GNode) (at1 : Int), Ok (spec_l18Post n at1) e_spec_l18Post (dn FTA n_spec_l18Post [.agg (((GNode.row false) n).map .t), .t (.v (.int .i64 at1))])) ∧
  (∀ (at1 : Int) (l : List (GNode)) (first : List (Int)) (i : Int) (n : GNode), Ok (spec_l18Post_l10 at1 l first i n) e_spec_l18Post (ev FTA c_spec_l18Post (.loop k_spec_l18Post_l10) [.lv 0, .th k_spec_l18Post_r6] (putS (List.replicate 50 .dead) [(1, .t (.v (.int .i64 at1))), (2, .ptr (2, 0) [] 0 0 1 0), (6, .ref (12, 0) l.length), (7, .ref (13, 0) first.length), (8, .t (.v (.int .i64 i)))]) (putR (List.replicate 50 []) [(2, [.mem [[.v (.int .i64 n.Kind), .v (.string n.Pre), .v (.string n.Local), .v (.string n.Uri), .sl false (n.Decls.map GDecl.row), .sl false (n.Attrs.map GAttr.row), .sl false (n.Kids.map (GNode.row false)), .v (.string n.Text)]] 0 false]), (12, [.mem (l.map (GNode.row true)) 0 false]), (13, [.mem (first.map rI) 0 false])]))) := by
 unfold Ok
 refine spec_l18Post.mutual_partial_correctness _ _ ?_ ?_
 ·intro F1 ih1 n at1
  show Ok _ _ _
  have ih1 : ∀ (at1 : Int) (l : List (GNode)) (first : List (Int)) (i : Int) (n : GNode), Ok (F1 at1 l first i n) _ _ := ih1
  rw [den_ev FTA (fn := k_spec_l18Post) rfl (xN rfl rfl _) (lB rfl)]
  have k0 := @k_spec_l18Post.eq_1; have t0 := ih1
  exact gs
 ·intro F0 F1 ih0 ih1 at1 l first i n
  show Ok _ _ _
  have ih0 : ∀ (n : GNode) (at1 : Int), Ok (F0 n at1) _ _ := ih0
  have ih1 : ∀ (at1 : Int) (l : List (GNode)) (first : List (Int)) (i : Int) (n : GNode), Ok (F1 at1 l first i n) _ _ := ih1
  rw [ev_loop]
  have k0 := @k_spec_l18Post_l10.eq_1; have k1 := @k_spec_l18Post_r6.eq_1; have g0 := ih0; have g1 := spec_Alone_ok; have t0 := ih1
  exact gs
theorem spec_l18Post_ok (n : GNode) (at1 : Int) : Ok (spec_l18Post n at1) e_spec_l18Post (dn FTA n_spec_l18Post [.agg (((GNode.row false) n).map .t), .t (.v (.int .i64 at1))]) := G_spec_l18Post.1 n at1
theorem G_spec_l18Grid_l23 (n : Int) (m : Int) : (∀ (t : List (List Int)) (i : Int) (row1 : List (Int)) (k1 : Int), Ok (spec_l18Grid_l23 n m t i row1 k1) e_spec_l18Grid (ev FTA c_spec_l18Grid (.loop k_spec_l18Grid_l23) [.lv 2, .th k_spec_l18Grid_r19, .lv 1, .th k_spec_l18Grid_r15, .hk [.clean [15, 26]], .th (.loop k_spec_l18Grid_l8), .lv 0, .th k_spec_l18Grid_r4] (putS (List.replicate 29 .dead) [(0, .t (.v (.int .i64 n))), (1, .t (.v (.int .i64 m))), (5, .ref (9, 0) t.length), (6, .t (.v (.int .i64 i))), (7, .ref (15, 0) row1.length), (8, .t (.v (.int .i64 k1)))]) (putR (List.replicate 29 []) [(9, [.mem (t.map (rL true rI)) 0 false]), (15, [.mem (row1.map rI) 0 false])]))) ∧
  (∀ (t : List (List Int)) (i : Int), Ok (spec_l18Grid_l8 n m t i) e_spec_l18Grid (ev FTA c_spec_l18Grid (.loop k_spec_l18Grid_l8) [.lv 0, .th k_spec_l18Grid_r4] (putS (List.replicate 29 .dead) [(0, .t (.v (.int .i64 n))), (1, .t (.v (.int .i64 m))), (5, .ref (9, 0) t.length), (6, .t (.v (.int .i64 i)))]) (putR (List.replicate 29 []) [(9, [.mem (t.map (rL true rI)) 0 false])]))) := by
 unfold Ok
 refine spec_l18Grid_l23.mutual_partial_correctness n m _ _ ?_ ?_
 ·intro F0 F1 ih0 ih1 t i row1 k1
  show Ok _ _ _
  have ih0 : ∀ (t : List (List Int)) (i : Int) (row1 : List (Int)) (k1 : Int), Ok (F0 t i row1 k1) _ _ := ih0
  have ih1 : ∀ (t : List (List Int)) (i : Int), Ok (F1 t i) _ _ := ih1
  rw [ev_loop]
  have k0 := @k_spec_l18Grid_l23.eq_1; have k1 := @k_spec_l18Grid_r15.eq_1; have k2 := @k_spec_l18Grid_r19.eq_1; have t0 := ih0; have t1 := ih1
  exact gs
 ·intro F0 ih0 t i
  show Ok _ _ _
  have ih0 : ∀ (t : List (List Int)) (i : Int) (row1 : List (Int)) (k1 : Int), Ok (F0 t i row1 k1) _ _ := ih0
  rw [ev_loop]
  have k0 := @k_spec_l18Grid_l8.eq_1; have k1 := @k_spec_l18Grid_r4.eq_1; have t0 := ih0
  exact gs
theorem spec_l18Grid_ok : ∀ (n : Int) (m : Int), Ok (spec_l18Grid n m) e_spec_l18Grid (dn FTA n_spec_l18Grid [.t (.v (.int .i64 n)), .t (.v (.int .i64 m))]) := by
 intro n m
 rw [den_ev FTA (fn := k_spec_l18Grid) rfl (xN rfl rfl _) (lB rfl)]
 have k0 := @k_spec_l18Grid.eq_1; have f0 := @spec_l18Grid.eq_1; have t0 := fun a0 a1 => (G_spec_l18Grid_l23 a0 a1).2
 exact gs
theorem G_spec_l18Keys_l23 (first : List Int) : (∀ (out : List (Int)) (i : Int) (last1 : Bool) (k1 : Int), Ok (spec_l18Keys_l23 first out i last1 k1) e_spec_l18Keys (ev FTA c_spec_l18Keys (.loop k_spec_l18Keys_l23) [.lv 2, .th k_spec_l18Keys_r19, .lv 1, .th k_spec_l18Keys_r15, .hk [.clean [37]], .th (.loop k_spec_l18Keys_l8), .lv 0, .th k_spec_l18Keys_r4] (putS (List.replicate 40 .dead) [(0, .t (.sl false (first.map rI))), (3, .ref (7, 0) out.length), (4, .t (.v (.int .i64 i))), (5, .t (.v (.bool last1))), (6, .t (.v (.int .i64 k1)))]) (putR (List.replicate 40 []) [(7, [.mem (out.map rI) 0 false])]))) ∧
  (∀ (out : List (Int)) (i : Int), Ok (spec_l18Keys_l8 first out i) e_spec_l18Keys (ev FTA c_spec_l18Keys (.loop k_spec_l18Keys_l8) [.lv 0, .th k_spec_l18Keys_r4] (putS (List.replicate 40 .dead) [(0, .t (.sl false (first.map rI))), (3, .ref (7, 0) out.length), (4, .t (.v (.int .i64 i)))]) (putR (List.replicate 40 []) [(7, [.mem (out.map rI) 0 false])]))) := by
 unfold Ok
 refine spec_l18Keys_l23.mutual_partial_correctness first _ _ ?_ ?_
 ·intro F0 F1 ih0 ih1 out i last1 k1
  show Ok _ _ _
  have ih0 : ∀ (out : List (Int)) (i : Int) (last1 : Bool) (k1 : Int), Ok (F0 out i last1 k1) _ _ := ih0
  have ih1 : ∀ (out : List (Int)) (i : Int), Ok (F1 out i) _ _ := ih1
  rw [ev_loop]
  have k0 := @k_spec_l18Keys_l23.eq_1; have k1 := @k_spec_l18Keys_r15.eq_1; have k2 := @k_spec_l18Keys_r19.eq_1; have t0 := ih0; have t1 := ih1
  exact gs
 ·intro F0 ih0 out i
  show Ok _ _ _
  have ih0 : ∀ (out : List (Int)) (i : Int) (last1 : Bool) (k1 : Int), Ok (F0 out i last1 k1) _ _ := ih0
  rw [ev_loop]
  have k0 := @k_spec_l18Keys_l8.eq_1; have k1 := @k_spec_l18Keys_r4.eq_1; have t0 := ih0
  exact gs
theorem spec_l18Keys_ok : ∀ (first : List Int), Ok (spec_l18Keys first) e_spec_l18Keys (dn FTA n_spec_l18Keys [.t (.sl false (first.map rI))]) := by
 intro first
 rw [den_ev FTA (fn := k_spec_l18Keys) rfl (xN rfl rfl _) (lB rfl)]
 have k0 := @k_spec_l18Keys.eq_1; have f0 := @spec_l18Keys.eq_1; have t0 := fun a0 => (G_spec_l18Keys_l23 a0).2
 exact gs
theorem spec_l18Min_ok : ∀ (a : Int) (b : Int), Ok (spec_l18Min a b) e_spec_l18Min (dn FTA n_spec_l18Min [.t (.v (.int .i64 a)), .t (.v (.int .i64 b))]) := by
 intro a b
 rw [den_ev FTA (fn := k_spec_l18Min) rfl (xN rfl rfl _) (lB rfl)]
 have k0 := @k_spec_l18Min.eq_1; have f0 := @spec_l18Min.eq_1
 exact gs
end TT
