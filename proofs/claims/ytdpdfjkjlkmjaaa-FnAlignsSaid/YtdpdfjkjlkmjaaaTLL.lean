import Derived.Test.YtdpdfjkjlkmjaaaTLLc
set_option maxHeartbeats 2000000
set_option linter.unusedVariables false
set_option linter.unusedSimpArgs false
set_option linter.defProp false
set_option maxRecDepth 100000
namespace TT
open Go
open Nat (reduceAdd reduceSub reduceMul reduceLeDiff reduceLT reduceEqDiff)
theorem G_impl_SameNode : (∀ (a : GNode) (b : GNode), Ok (impl_SameNode a b) e_impl_SameNode (dn FTA n_impl_SameNode [.agg (((GNode.row false) a).map .t), .agg (((GNode.row false) b).map .t)])) ∧
  (∀ (s1 : List GNode) (s2 : List GNode), Ok (slices_EqualFunc_Node_SameNode s1 s2) e_slices_EqualFunc_Node_SameNode (dn FTA n_slices_EqualFunc_Node [.t (.sl false (s1.map (GNode.row false))), .t (.sl false (s2.map (GNode.row false))), .fn n_impl_SameNode []])) ∧
  (∀ (s2 : List GNode) (s1 : List GNode) (x2 : Int), Ok (slices_EqualFunc_Node_SameNode_l14 s2 s1 x2) e_slices_EqualFunc_Node_SameNode (ev FTA c_slices_EqualFunc_Node_SameNode (.loop k_slices_EqualFunc_Node_l14) [.lv 0, .th k_slices_EqualFunc_Node_r10] (putS (List.replicate 32 .dead) [(1, .t (.sl false (s2.map (GNode.row false)))), (2, .fn n_impl_SameNode []), (15, .t (.sl false (s1.map (GNode.row false)))), (16, .t (.v (.int .i64 (lenL s1)))), (17, .t (.v (.int .i64 x2)))]) (putR (List.replicate 32 []) []))) := by
 unfold Ok
 refine impl_SameNode.mutual_partial_correctness _ _ _ ?_ ?_ ?_
 ·intro F1 ih1 a b
  show Ok _ _ _
  have ih1 : ∀ (s1 : List GNode) (s2 : List GNode), Ok (F1 s1 s2) _ _ := ih1
  rw [den_ev FTA (fn := k_impl_SameNode) rfl (xN rfl rfl _) (lB rfl)]
  have k0 := @k_impl_SameNode.eq_1; have g0 := impl_sameAlone_ok; have g1 := ih1
  exact gs
 ·intro F2 ih2 s1 s2
  show Ok _ _ _
  have ih2 : ∀ (s2 : List GNode) (s1 : List GNode) (x2 : Int), Ok (F2 s2 s1 x2) _ _ := ih2
  rw [den_ev FTA (fn := k_slices_EqualFunc_Node) rfl (xN rfl rfl _) (lB rfl)]
  have k0 := @k_slices_EqualFunc_Node.eq_1; have t0 := ih2
  exact gs
 ·intro F0 F2 ih0 ih2 s2 s1 x2
  show Ok _ _ _
  have ih0 : ∀ (a : GNode) (b : GNode), Ok (F0 a b) _ _ := ih0
  have ih2 : ∀ (s2 : List GNode) (s1 : List GNode) (x2 : Int), Ok (F2 s2 s1 x2) _ _ := ih2
  rw [ev_loop]
  have k0 := @k_slices_EqualFunc_Node_l14.eq_1; have k1 := @k_slices_EqualFunc_Node_r10.eq_1; have g0 := ih0; have t0 := ih2
  exact gs
theorem impl_SameNode_ok (a : GNode) (b : GNode) : Ok (impl_SameNode a b) e_impl_SameNode (dn FTA n_impl_SameNode [.agg (((GNode.row false) a).map .t), .agg (((GNode.row false) b).map .t)]) := G_impl_SameNode.1 a b
theorem slices_EqualFunc_Node_SameNode_ok (s1 : List GNode) (s2 : List GNode) : Ok (slices_EqualFunc_Node_SameNode s1 s2) e_slices_EqualFunc_Node_SameNode (dn FTA n_slices_EqualFunc_Node [.t (.sl false (s1.map (GNode.row false))), .t (.sl false (s2.map (GNode.row false))), .fn n_impl_SameNode []]) := G_impl_SameNode.2.1 s1 s2
theorem G_impl_longest_l37 (a : List GNode) (b : List GNode) : (∀ (out6 : List (List Int)) (i1 : Int) (k3 : Int), Ok (impl_longest_l37 a b out6 i1 k3) e_impl_longest (ev FTA c_impl_longest (.loop k_impl_longest_l37) [.lv 4, .lv 3, .th k_impl_longest_r32, .hk [.clean []], .th (.loop k_impl_longest_l25), .lv 2, .th k_impl_longest_r21] (putS (List.replicate 97 .dead) [(0, .t (.sl false (a.map (GNode.row false)))), (1, .t (.sl false (b.map (GNode.row false)))), (5, .ref (12, 0) out6.length), (7, .t (.v (.int .i64 i1))), (8, .t (.v (.int .i64 k3)))]) (putR (List.replicate 97 []) [(12, [.mem (out6.map (rL true rI)) 0 false])]))) ∧
  (∀ (out5 : List (List Int)) (i1 : Int), Ok (impl_longest_l25 a b out5 i1) e_impl_longest (ev FTA c_impl_longest (.loop k_impl_longest_l25) [.lv 2, .th k_impl_longest_r21] (putS (List.replicate 97 .dead) [(0, .t (.sl false (a.map (GNode.row false)))), (1, .t (.sl false (b.map (GNode.row false)))), (5, .ref (12, 0) out5.length), (7, .t (.v (.int .i64 i1)))]) (putR (List.replicate 97 []) [(12, [.mem (out5.map (rL true rI)) 0 false])]))) := by
 unfold Ok
 refine impl_longest_l37.mutual_partial_correctness a b _ _ ?_ ?_
 ·intro F0 F1 ih0 ih1 out6 i1 k3
  show Ok _ _ _
  have ih0 : ∀ (out6 : List (List Int)) (i1 : Int) (k3 : Int), Ok (F0 out6 i1 k3) _ _ := ih0
  have ih1 : ∀ (out5 : List (List Int)) (i1 : Int), Ok (F1 out5 i1) _ _ := ih1
  rw [ev_loop]
  have k0 := @k_impl_longest_l37.eq_1; have k1 := @k_impl_longest_r32.eq_1; have g0 := impl_SameNode_ok; have t0 := ih0; have t1 := ih1
  exact gs
 ·intro F0 ih0 out5 i1
  show Ok _ _ _
  have ih0 : ∀ (out6 : List (List Int)) (i1 : Int) (k3 : Int), Ok (F0 out6 i1 k3) _ _ := ih0
  rw [ev_loop]
  have k0 := @k_impl_longest_l25.eq_1; have k1 := @k_impl_longest_r21.eq_1; have t0 := ih0
  exact gs
theorem impl_longest_l8_ok (a : List GNode) (b : List GNode) (m : Nat) : ∀ (out3 : List (List Int)) (x57 : Int), Ok (impl_longest_l8 a b out3 m x57) e_impl_longest (ev FTA c_impl_longest (.loop k_impl_longest_l8) [.lv 0, .th k_impl_longest_r4] (putS (List.replicate 97 .dead) [(0, .t (.sl false (a.map (GNode.row false)))), (1, .t (.sl false (b.map (GNode.row false)))), (5, .ref (12, 0) out3.length), (14, .t (.v (.int .i64 ((m : Nat) : Int)))), (15, .t (.v (.int .i64 x57)))]) (putR (List.replicate 97 []) [(12, [.mem (out3.map (rL true rI)) 0 false])])) := by
 unfold Ok
 refine impl_longest_l8.partial_correctness a b m _ ?_
 intro F ih out3 x57
 show Ok _ _ _
 have ih : ∀ (out3 : List (List Int)) (x57 : Int), Ok (F out3 x57) _ _ := ih
 rw [ev_loop]
 have k0 := @k_impl_longest_l8.eq_1; have k1 := @k_impl_longest_r4.eq_1; have t0 := ih; have t1 := fun a0 a1 => (G_impl_longest_l37 a0 a1).2
 exact gs
theorem impl_longest_ok : ∀ (a : List GNode) (b : List GNode), Ok (impl_longest a b) e_impl_longest (dn FTA n_impl_longest [.t (.sl false (a.map (GNode.row false))), .t (.sl false (b.map (GNode.row false)))]) := by
 intro a b
 rw [den_ev FTA (fn := k_impl_longest) rfl (xN rfl rfl _) (lB rfl)]
 have k0 := @k_impl_longest.eq_1; have f0 := @impl_longest.eq_1; have t0 := impl_longest_l8_ok
 exact gs
theorem impl_Align_l12_ok (a : List GNode) (b : List GNode) (r : List (List Int)) : ∀ (out : List (Int)) (k : Int) (i : Int), Ok (impl_Align_l12 a b r out k i) e_impl_Align (ev FTA c_impl_Align (.loop k_impl_Align_l12) [.lv 0, .th k_impl_Align_r8] (putS (List.replicate 71 .dead) [(0, .t (.sl false (a.map (GNode.row false)))), (1, .t (.sl false (b.map (GNode.row false)))), (5, .ref (11, 0) r.length), (6, .ref (12, 0) out.length), (7, .t (.v (.int .i64 k))), (8, .t (.v (.int .i64 i)))]) (putR (List.replicate 71 []) [(11, [.mem (r.map (rL true rI)) 0 false]), (12, [.mem (out.map rI) 0 false])])) := by
 unfold Ok
 refine impl_Align_l12.partial_correctness a b r _ ?_
 intro F ih out k i
 show Ok _ _ _
 have ih : ∀ (out : List (Int)) (k : Int) (i : Int), Ok (F out k i) _ _ := ih
 rw [ev_loop]
 have k0 := @k_impl_Align_l12.eq_1; have k1 := @k_impl_Align_r8.eq_1; have g0 := impl_SameNode_ok; have t0 := ih
 exact gs
theorem impl_Align_ok : ∀ (a : List GNode) (b : List GNode), Ok (impl_Align a b) e_impl_Align (dn FTA n_impl_Align [.t (.sl false (a.map (GNode.row false))), .t (.sl false (b.map (GNode.row false)))]) := by
 intro a b
 rw [den_ev FTA (fn := k_impl_Align) rfl (xN rfl rfl _) (lB rfl)]
 have k0 := @k_impl_Align.eq_1; have f0 := @impl_Align.eq_1; have g0 := impl_longest_ok; have t0 := impl_Align_l12_ok
 exact gs
theorem spec_DrawSameName_ok : ∀ (code : List Int), Ok (spec_DrawSameName code) e_spec_DrawSameName (dn FTA n_spec_DrawSameName [.t (.sl false (code.map (rK .u8)))]) := by
 intro code
 rw [den_ev FTA (fn := k_spec_DrawSameName) rfl (xN rfl rfl _) (lB rfl)]
 have k0 := @k_spec_DrawSameName.eq_1; have f0 := @spec_DrawSameName.eq_1; have g0 := spec_l1New_ok; have g1 := spec_l5El_ok; have g2 := spec_l1Once_ok
 exact gs
theorem G_spec_SameNode : (∀ (a : GNode) (b : GNode), Ok (spec_SameNode a b) e_spec_SameNode (dn FTA n_spec_SameNode [.agg (((GNode.row false) a).map .t), .agg (((GNode.row false) b).map .t)])) ∧
  (∀ (i3 : Int) (a : GNode) (b : GNode), Ok (spec_SameNode_l14 i3 a b) e_spec_SameNode (ev FTA c_spec_SameNode (.loop k_spec_SameNode_l14) [.lv 0, .th k_spec_SameNode_r10] (putS (List.replicate 123 .dead) [(2, .ptr (2, 0) [] 0 0 1 0), (3, .ptr (3, 0) [] 0 0 1 0), (5, .t (.v (.int .i64 i3)))]) (putR (List.replicate 123 []) [(2, [.mem [[.v (.int .i64 a.Kind), .v (.string a.Pre), .v (.string a.Local), .v (.string a.Uri), .sl false (a.Decls.map GDecl.row), .sl false (a.Attrs.map GAttr.row), .sl false (a.Kids.map (GNode.row false)), .v (.string a.Text)]] 0 false]), (3, [.mem [[.v (.int .i64 b.Kind), .v (.string b.Pre), .v (.string b.Local), .v (.string b.Uri), .sl false (b.Decls.map GDecl.row), .sl false (b.Attrs.map GAttr.row), .sl false (b.Kids.map (GNode.row false)), .v (.string b.Text)]] 0 false])]))) ∧
  (∀ (i5 : Int) (a : GNode) (b : GNode), Ok (spec_SameNode_l35 i5 a b) e_spec_SameNode (ev FTA c_spec_SameNode (.loop k_spec_SameNode_l35) [.lv 2, .th k_spec_SameNode_r31] (putS (List.replicate 123 .dead) [(2, .ptr (2, 0) [] 0 0 1 0), (3, .ptr (3, 0) [] 0 0 1 0), (6, .t (.v (.int .i64 i5)))]) (putR (List.replicate 123 []) [(2, [.mem [[.v (.int .i64 a.Kind), .v (.string a.Pre), .v (.string a.Local), .v (.string a.Uri), .sl false (a.Decls.map GDecl.row), .sl false (a.Attrs.map GAttr.row), .sl false (a.Kids.map (GNode.row false)), .v (.string a.Text)]] 0 false]), (3, [.mem [[.v (.int .i64 b.Kind), .v (.string b.Pre), .v (.string b.Local), .v (.string b.Uri), .sl false (b.Decls.map GDecl.row), .sl false (b.Attrs.map GAttr.row), .sl false (b.Kids.map (GNode.row false)), .v (.string b.Text)]] 0 false])]))) ∧
  (∀ (i6 : Int) (a : GNode) (b : GNode), Ok (spec_SameNode_l56 i6 a b) e_spec_SameNode (ev FTA c_spec_SameNode (.loop k_spec_SameNode_l56) [.lv 4, .th k_spec_SameNode_r52] (putS (List.replicate 123 .dead) [(2, .ptr (2, 0) [] 0 0 1 0), (3, .ptr (3, 0) [] 0 0 1 0), (7, .t (.v (.int .i64 i6)))]) (putR (List.replicate 123 []) [(2, [.mem [[.v (.int .i64 a.Kind), .v (.string a.Pre), .v (.string a.Local), .v (.string a.Uri), .sl false (a.Decls.map GDecl.row), .sl false (a.Attrs.map GAttr.row), .sl false (a.Kids.map (GNode.row false)), .v (.string a.Text)]] 0 false]), (3, [.mem [[.v (.int .i64 b.Kind), .v (.string b.Pre), .v (.string b.Local), .v (.string b.Uri), .sl false (b.Decls.map GDecl.row), .sl false (b.Attrs.map GAttr.row), .sl false (b.Kids.map (GNode.row false)), .v (.string b.Text)]] 0 false])]))) := by
 unfold Ok
 refine spec_SameNode.mutual_partial_correctness _ _ _ _ ?_ ?_ ?_ ?_
 ·intro F1 ih1 a b
  show Ok _ _ _
  have ih1 : ∀ (i3 : Int) (a : GNode) (b : GNode), Ok (F1 i3 a b) _ _ := ih1
  rw [den_ev FTA (fn := k_spec_SameNode) rfl (xN rfl rfl _) (lB rfl)]
  have k0 := @k_spec_SameNode.eq_1; have t0 := ih1
  exact gs
 ·intro F1 F2 ih1 ih2 i3 a b
  show Ok _ _ _
  have ih1 : ∀ (i3 : Int) (a : GNode) (b : GNode), Ok (F1 i3 a b) _ _ := ih1
  have ih2 : ∀ (i5 : Int) (a : GNode) (b : GNode), Ok (F2 i5 a b) _ _ := ih2
  rw [ev_loop]
  have k0 := @k_spec_SameNode_l14.eq_1; have k1 := @k_spec_SameNode_r10.eq_1; have t0 := ih1; have t1 := ih2
  exact gs
 ·intro F2 F3 ih2 ih3 i5 a b
  show Ok _ _ _
  have ih2 : ∀ (i5 : Int) (a : GNode) (b : GNode), Ok (F2 i5 a b) _ _ := ih2
  have ih3 : ∀ (i6 : Int) (a : GNode) (b : GNode), Ok (F3 i6 a b) _ _ := ih3
  rw [ev_loop]
  have k0 := @k_spec_SameNode_l35.eq_1; have k1 := @k_spec_SameNode_r31.eq_1; have t0 := ih2; have t1 := ih3
  exact gs
 ·intro F0 F3 ih0 ih3 i6 a b
  show Ok _ _ _
  have ih0 : ∀ (a : GNode) (b : GNode), Ok (F0 a b) _ _ := ih0
  have ih3 : ∀ (i6 : Int) (a : GNode) (b : GNode), Ok (F3 i6 a b) _ _ := ih3
  rw [ev_loop]
  have k0 := @k_spec_SameNode_l56.eq_1; have k1 := @k_spec_SameNode_r52.eq_1; have g0 := ih0; have t0 := ih3
  exact gs
theorem spec_SameNode_ok (a : GNode) (b : GNode) : Ok (spec_SameNode a b) e_spec_SameNode (dn FTA n_spec_SameNode [.agg (((GNode.row false) a).map .t), .agg (((GNode.row false) b).map .t)]) := G_spec_SameNode.1 a b
theorem G_spec_l17Table_j63 (a : List GNode) (b : List GNode) : (∀ (t6 : List (List Int)) (i2 : Int) (k5 : Int) (n7 : Int), Ok (spec_l17Table_j63 a b t6 i2 k5 n7) e_spec_l17Table (ev FTA c_spec_l17Table k_spec_l17Table_r63 [.lv 7, .th k_spec_l17Table_r59, .hk [.clean []], .th (.loop k_spec_l17Table_l52), .lv 6, .lv 5, .th k_spec_l17Table_r47, .hk [.clean []], .th (.loop k_spec_l17Table_l40), .lv 4, .th k_spec_l17Table_r36] (putS (List.replicate 100 .dead) [(0, .t (.sl false (a.map (GNode.row false)))), (1, .t (.sl false (b.map (GNode.row false)))), (5, .ref (12, 0) t6.length), (9, .t (.v (.int .i64 i2))), (10, .t (.v (.int .i64 k5))), (11, .t (.v (.int .i64 n7)))]) (putR (List.replicate 100 []) [(12, [.mem (t6.map (rL true rI)) 0 false])]))) ∧
  (∀ (t6 : List (List Int)) (i2 : Int) (k5 : Int), Ok (spec_l17Table_l52 a b t6 i2 k5) e_spec_l17Table (ev FTA c_spec_l17Table (.loop k_spec_l17Table_l52) [.lv 6, .lv 5, .th k_spec_l17Table_r47, .hk [.clean []], .th (.loop k_spec_l17Table_l40), .lv 4, .th k_spec_l17Table_r36] (putS (List.replicate 100 .dead) [(0, .t (.sl false (a.map (GNode.row false)))), (1, .t (.sl false (b.map (GNode.row false)))), (5, .ref (12, 0) t6.length), (9, .t (.v (.int .i64 i2))), (10, .t (.v (.int .i64 k5)))]) (putR (List.replicate 100 []) [(12, [.mem (t6.map (rL true rI)) 0 false])]))) ∧
  (∀ (t5 : List (List Int)) (i2 : Int), Ok (spec_l17Table_l40 a b t5 i2) e_spec_l17Table (ev FTA c_spec_l17Table (.loop k_spec_l17Table_l40) [.lv 4, .th k_spec_l17Table_r36] (putS (List.replicate 100 .dead) [(0, .t (.sl false (a.map (GNode.row false)))), (1, .t (.sl false (b.map (GNode.row false)))), (5, .ref (12, 0) t5.length), (9, .t (.v (.int .i64 i2)))]) (putR (List.replicate 100 []) [(12, [.mem (t5.map (rL true rI)) 0 false])]))) := by
 unfold Ok
 refine spec_l17Table_j63.mutual_partial_correctness a b _ _ _ ?_ ?_ ?_
 ·intro F1 ih1 t6 i2 k5 n7
  show Ok _ _ _
  have ih1 : ∀ (t6 : List (List Int)) (i2 : Int) (k5 : Int), Ok (F1 t6 i2 k5) _ _ := ih1
  have k0 := @k_spec_l17Table_r63.eq_1; have k1 := @k_spec_l17Table_r59.eq_1; have g0 := spec_SameNode_ok; have t0 := ih1
  exact gs
 ·intro F0 F2 ih0 ih2 t6 i2 k5
  show Ok _ _ _
  have ih0 : ∀ (t6 : List (List Int)) (i2 : Int) (k5 : Int) (n7 : Int), Ok (F0 t6 i2 k5 n7) _ _ := ih0
  have ih2 : ∀ (t5 : List (List Int)) (i2 : Int), Ok (F2 t5 i2) _ _ := ih2
  rw [ev_loop]
  have k0 := @k_spec_l17Table_l52.eq_1; have k1 := @k_spec_l17Table_r47.eq_1; have t0 := ih0; have t1 := ih2
  exact gs
 ·intro F1 ih1 t5 i2
  show Ok _ _ _
  have ih1 : ∀ (t6 : List (List Int)) (i2 : Int) (k5 : Int), Ok (F1 t6 i2 k5) _ _ := ih1
  rw [ev_loop]
  have k0 := @k_spec_l17Table_l40.eq_1; have k1 := @k_spec_l17Table_r36.eq_1; have t0 := ih1
  exact gs
theorem G_spec_l17Table_l23 (a : List GNode) (b : List GNode) : (∀ (t3 : List (List Int)) (i1 : Int) (row1 : List (Int)) (k3 : Int), Ok (spec_l17Table_l23 a b t3 i1 row1 k3) e_spec_l17Table (ev FTA c_spec_l17Table (.loop k_spec_l17Table_l23) [.lv 2, .th k_spec_l17Table_r19, .lv 1, .th k_spec_l17Table_r15, .hk [.clean [19, 31]], .th (.loop k_spec_l17Table_l8), .lv 0, .th k_spec_l17Table_r4] (putS (List.replicate 100 .dead) [(0, .t (.sl false (a.map (GNode.row false)))), (1, .t (.sl false (b.map (GNode.row false)))), (5, .ref (12, 0) t3.length), (6, .t (.v (.int .i64 i1))), (7, .ref (19, 0) row1.length), (8, .t (.v (.int .i64 k3)))]) (putR (List.replicate 100 []) [(12, [.mem (t3.map (rL true rI)) 0 false]), (19, [.mem (row1.map rI) 0 false])]))) ∧
  (∀ (t3 : List (List Int)) (i1 : Int), Ok (spec_l17Table_l8 a b t3 i1) e_spec_l17Table (ev FTA c_spec_l17Table (.loop k_spec_l17Table_l8) [.lv 0, .th k_spec_l17Table_r4] (putS (List.replicate 100 .dead) [(0, .t (.sl false (a.map (GNode.row false)))), (1, .t (.sl false (b.map (GNode.row false)))), (5, .ref (12, 0) t3.length), (6, .t (.v (.int .i64 i1)))]) (putR (List.replicate 100 []) [(12, [.mem (t3.map (rL true rI)) 0 false])]))) := by
 unfold Ok
 refine spec_l17Table_l23.mutual_partial_correctness a b _ _ ?_ ?_
 ·intro F0 F1 ih0 ih1 t3 i1 row1 k3
  show Ok _ _ _
  have ih0 : ∀ (t3 : List (List Int)) (i1 : Int) (row1 : List (Int)) (k3 : Int), Ok (F0 t3 i1 row1 k3) _ _ := ih0
  have ih1 : ∀ (t3 : List (List Int)) (i1 : Int), Ok (F1 t3 i1) _ _ := ih1
  rw [ev_loop]
  have k0 := @k_spec_l17Table_l23.eq_1; have k1 := @k_spec_l17Table_r15.eq_1; have k2 := @k_spec_l17Table_r19.eq_1; have t0 := ih0; have t1 := ih1
  exact gs
 ·intro F0 ih0 t3 i1
  show Ok _ _ _
  have ih0 : ∀ (t3 : List (List Int)) (i1 : Int) (row1 : List (Int)) (k3 : Int), Ok (F0 t3 i1 row1 k3) _ _ := ih0
  rw [ev_loop]
  have k0 := @k_spec_l17Table_l8.eq_1; have k1 := @k_spec_l17Table_r4.eq_1; have t0 := ih0; have t1 := fun a0 a1 => (G_spec_l17Table_j63 a0 a1).2.2
  exact gs
theorem spec_l17Table_ok : ∀ (a : List GNode) (b : List GNode), Ok (spec_l17Table a b) e_spec_l17Table (dn FTA n_spec_l17Table [.t (.sl false (a.map (GNode.row false))), .t (.sl false (b.map (GNode.row false)))]) := by
 intro a b
 rw [den_ev FTA (fn := k_spec_l17Table) rfl (xN rfl rfl _) (lB rfl)]
 have k0 := @k_spec_l17Table.eq_1; have f0 := @spec_l17Table.eq_1; have t0 := fun a0 a1 => (G_spec_l17Table_l23 a0 a1).2
 exact gs
theorem spec_Align_l12_ok (a : List GNode) (b : List GNode) (r : List (List Int)) : ∀ (out : List (Int)) (k : Int) (i : Int), Ok (spec_Align_l12 a b r out k i) e_spec_Align (ev FTA c_spec_Align (.loop k_spec_Align_l12) [.lv 0, .th k_spec_Align_r8] (putS (List.replicate 70 .dead) [(0, .t (.sl false (a.map (GNode.row false)))), (1, .t (.sl false (b.map (GNode.row false)))), (5, .ref (11, 0) r.length), (6, .ref (12, 0) out.length), (7, .t (.v (.int .i64 k))), (8, .t (.v (.int .i64 i)))]) (putR (List.replicate 70 []) [(11, [.mem (r.map (rL true rI)) 0 false]), (12, [.mem (out.map rI) 0 false])])) := by
 unfold Ok
 refine spec_Align_l12.partial_correctness a b r _ ?_
 intro F ih out k i
 show Ok _ _ _
 have ih : ∀ (out : List (Int)) (k : Int) (i : Int), Ok (F out k i) _ _ := ih
 rw [ev_loop]
 have k0 := @k_spec_Align_l12.eq_1; have k1 := @k_spec_Align_r8.eq_1; have g0 := spec_SameNode_ok; have t0 := ih
 exact gs
theorem spec_Align_ok : ∀ (a : List GNode) (b : List GNode), Ok (spec_Align a b) e_spec_Align (dn FTA n_spec_Align [.t (.sl false (a.map (GNode.row false))), .t (.sl false (b.map (GNode.row false)))]) := by
 intro a b
 rw [den_ev FTA (fn := k_spec_Align) rfl (xN rfl rfl _) (lB rfl)]
 have k0 := @k_spec_Align.eq_1; have f0 := @spec_Align.eq_1; have g0 := spec_l17Table_ok; have t0 := spec_Align_l12_ok
 exact gs
theorem laws_sameInts_l14_ok (a : List Int) (b : List Int) : ∀ (i : Int), Ok (laws_sameInts_l14 a b i) e_laws_sameInts (ev FTA c_laws_sameInts (.loop k_laws_sameInts_l14) [.lv 0, .th k_laws_sameInts_r10] (putS (List.replicate 26 .dead) [(0, .t (.sl false (a.map rI))), (1, .t (.sl false (b.map rI))), (5, .t (.v (.int .i64 i)))]) (putR (List.replicate 26 []) [])) := by
 unfold Ok
 refine laws_sameInts_l14.partial_correctness a b _ ?_
 intro F ih i
 show Ok _ _ _
 have ih : ∀ (i : Int), Ok (F i) _ _ := ih
 rw [ev_loop]
 have k0 := @k_laws_sameInts_l14.eq_1; have k1 := @k_laws_sameInts_r10.eq_1; have t0 := ih
 exact gs
theorem laws_sameInts_ok : ∀ (a : List Int) (b : List Int), Ok (laws_sameInts a b) e_laws_sameInts (dn FTA n_laws_sameInts [.t (.sl false (a.map rI)), .t (.sl false (b.map rI))]) := by
 intro a b
 rw [den_ev FTA (fn := k_laws_sameInts) rfl (xN rfl rfl _) (lB rfl)]
 have k0 := @k_laws_sameInts.eq_1; have f0 := @laws_sameInts.eq_1; have t0 := laws_sameInts_l14_ok
 exact gs
theorem impl_SameName_l14_ok (a : GNode) (b : GNode) : ∀ (x2 : Int), Ok (impl_SameName_l14 a x2 b) e_impl_SameName (ev FTA c_impl_SameName (.loop k_impl_SameName_l14) [.lv 0, .th k_impl_SameName_r10] (putS (List.replicate 61 .dead) [(3, .ptr (3, 0) [] 0 0 1 0), (46, .t (.sl false (a.Decls.map GDecl.row))), (47, .t (.v (.int .i64 (lenL a.Decls)))), (48, .t (.v (.int .i64 x2)))]) (putR (List.replicate 61 []) [(3, [.mem [[.v (.int .i64 b.Kind), .v (.string b.Pre), .v (.string b.Local), .v (.string b.Uri), .sl false (b.Decls.map GDecl.row), .sl false (b.Attrs.map GAttr.row), .sl false (b.Kids.map (GNode.row false)), .v (.string b.Text)]] 0 false])])) := by
 unfold Ok
 refine impl_SameName_l14.partial_correctness a b _ ?_
 intro F ih x2
 show Ok _ _ _
 have ih : ∀ (x2 : Int), Ok (F x2) _ _ := ih
 rw [ev_loop]
 have k0 := @k_impl_SameName_l14.eq_1; have k1 := @k_impl_SameName_r10.eq_1; have t0 := ih
 exact gs
theorem impl_SameName_ok : ∀ (a : GNode) (b : GNode), Ok (impl_SameName a b) e_impl_SameName (dn FTA n_impl_SameName [.agg (((GNode.row false) a).map .t), .agg (((GNode.row false) b).map .t)]) := by
 intro a b
 rw [den_ev FTA (fn := k_impl_SameName) rfl (xN rfl rfl _) (lB rfl)]
 have k0 := @k_impl_SameName.eq_1; have f0 := @impl_SameName.eq_1; have t0 := impl_SameName_l14_ok
 exact gs
theorem spec_SameName_l14_ok (a : GNode) (b : GNode) : ∀ (i : Int), Ok (spec_SameName_l14 i a b) e_spec_SameName (ev FTA c_spec_SameName (.loop k_spec_SameName_l14) [.lv 0, .th k_spec_SameName_r10] (putS (List.replicate 62 .dead) [(2, .ptr (2, 0) [] 0 0 1 0), (3, .ptr (3, 0) [] 0 0 1 0), (5, .t (.v (.int .i64 i)))]) (putR (List.replicate 62 []) [(2, [.mem [[.v (.int .i64 a.Kind), .v (.string a.Pre), .v (.string a.Local), .v (.string a.Uri), .sl false (a.Decls.map GDecl.row), .sl false (a.Attrs.map GAttr.row), .sl false (a.Kids.map (GNode.row false)), .v (.string a.Text)]] 0 false]), (3, [.mem [[.v (.int .i64 b.Kind), .v (.string b.Pre), .v (.string b.Local), .v (.string b.Uri), .sl false (b.Decls.map GDecl.row), .sl false (b.Attrs.map GAttr.row), .sl false (b.Kids.map (GNode.row false)), .v (.string b.Text)]] 0 false])])) := by
 unfold Ok
 refine spec_SameName_l14.partial_correctness a b _ ?_
 intro F ih i
 show Ok _ _ _
 have ih : ∀ (i : Int), Ok (F i) _ _ := ih
 rw [ev_loop]
 have k0 := @k_spec_SameName_l14.eq_1; have k1 := @k_spec_SameName_r10.eq_1; have t0 := ih
 exact gs
theorem spec_SameName_ok : ∀ (a : GNode) (b : GNode), Ok (spec_SameName a b) e_spec_SameName (dn FTA n_spec_SameName [.agg (((GNode.row false) a).map .t), .agg (((GNode.row false) b).map .t)]) := by
 intro a b
 rw [den_ev FTA (fn := k_spec_SameName) rfl (xN rfl rfl _) (lB rfl)]
 have k0 := @k_spec_SameName.eq_1; have f0 := @spec_SameName.eq_1; have t0 := spec_SameName_l14_ok
 exact gs
theorem impl_Longest_ok : ∀ (a : List GNode) (b : List GNode), Ok (impl_Longest a b) e_impl_Longest (dn FTA n_impl_Longest [.t (.sl false (a.map (GNode.row false))), .t (.sl false (b.map (GNode.row false)))]) := by
 intro a b
 rw [den_ev FTA (fn := k_impl_Longest) rfl (xN rfl rfl _) (lB rfl)]
 have k0 := @k_impl_Longest.eq_1; have f0 := @impl_Longest.eq_1; have g0 := impl_longest_ok
 exact gs
theorem laws_FnAligns_l32_ok (r1 : List GNode × List GNode) (r2 : List Int) : ∀ (n : Int) (last : Int) (i : Int), Ok (laws_FnAligns_l32 r1 r2 n last i) e_laws_FnAligns (ev FTA c_laws_FnAligns (.loop k_laws_FnAligns_l32) [.lv 0, .th k_laws_FnAligns_r28] (putS (List.replicate 127 .dead) [(3, .t (.sl false (r1.1.map (GNode.row false)))), (4, .t (.sl false (r1.2.map (GNode.row false)))), (5, .t (.sl false (r2.map rI))), (8, .t (.v (.int .i64 n))), (9, .t (.v (.int .i64 last))), (10, .t (.v (.int .i64 i)))]) (putR (List.replicate 127 []) [])) := by
 unfold Ok
 refine laws_FnAligns_l32.partial_correctness r1 r2 _ ?_
 intro F ih n last i
 show Ok _ _ _
 have ih : ∀ (n : Int) (last : Int) (i : Int), Ok (F n last i) _ _ := ih
 rw [ev_loop]
 have k0 := @k_laws_FnAligns_l32.eq_1; have k1 := @k_laws_FnAligns_r28.eq_1; have g0 := impl_SameNode_ok; have g1 := impl_Longest_ok; have t0 := ih
 exact gs
theorem laws_FnAligns_ok : ∀ (code : List Int), Ok (laws_FnAligns code) e_laws_FnAligns (dn FTA n_laws_FnAligns [.t (.sl false (code.map (rK .u8)))]) := by
 intro code
 rw [den_ev FTA (fn := k_laws_FnAligns) rfl (xN rfl rfl _) (lB rfl)]
 have k0 := @k_laws_FnAligns.eq_1; have f0 := @laws_FnAligns.eq_1; have g0 := laws_big_ok; have g1 := spec_DrawAlign_ok; have g2 := impl_Align_ok; have g3 := spec_DrawSameName_ok; have g4 := spec_Align_ok; have g5 := laws_sameInts_ok; have g6 := impl_SameName_ok; have g7 := spec_SameName_ok; have t0 := laws_FnAligns_l32_ok
 exact gs
end TT
