import Derived.Test.YtdpdfjkjlkmjaaaTLLd
set_option maxHeartbeats 2000000
set_option linter.unusedVariables false
set_option linter.unusedSimpArgs false
set_option linter.defProp false
set_option maxRecDepth 100000
namespace TT
open Go
open Nat (reduceAdd reduceSub reduceMul reduceLeDiff reduceLT reduceEqDiff)
theorem impl_SameNode_ok (a : GNode) (b : GNode) : Ok (impl_SameNode a b) e_impl_SameNode (dn FTA n_impl_SameNode [.agg (((GNode.row false) a).map .t), .agg (((GNode.row false) b).map .t)]) := G_impl_SameNode.1 a b
theorem slices_EqualFunc_Node_SameNode_ok (s1 : List GNode) (s2 : List GNode) : Ok (slices_EqualFunc_Node_SameNode s1 s2) e_slices_EqualFunc_Node_SameNode (dn FTA n_slices_EqualFunc_Node [.t (.sl false (s1.map (GNode.row false))), .t (.sl false (s2.map (GNode.row false))), .fn n_impl_SameNode []]) := G_impl_SameNode.2.1 s1 s2
theorem slices_Equal_int_l14_ok (s1 : List Int) (s2 : List Int) : ∀ (x2 : Int), Ok (slices_Equal_int_l14 s1 s2 x2) e_slices_Equal_int (ev FTA c_slices_Equal_int (.loop k_slices_Equal_int_l14) [.lv 0, .th k_slices_Equal_int_r10] (putS (List.replicate 26 .dead) [(0, .t (.sl false (s1.map rI))), (1, .t (.sl false (s2.map rI))), (12, .t (.v (.int .i64 (lenL s1)))), (13, .t (.v (.int .i64 x2)))]) (putR (List.replicate 26 []) [])) := by
 unfold Ok
 refine slices_Equal_int_l14.partial_correctness s1 s2 _ ?_
 intro F ih x2
 show Ok _ _ _
 have ih : ∀ (x2 : Int), Ok (F x2) _ _ := ih
 rw [ev_loop]
 have k0 := @k_slices_Equal_int_l14.eq_1; have k1 := @k_slices_Equal_int_r10.eq_1; have t0 := ih
 exact gs
theorem slices_Equal_int_ok : ∀ (s1 : List Int) (s2 : List Int), Ok (slices_Equal_int s1 s2) e_slices_Equal_int (dn FTA n_slices_Equal_int [.t (.sl false (s1.map rI)), .t (.sl false (s2.map rI))]) := by
 intro s1 s2
 rw [den_ev FTA (fn := k_slices_Equal_int) rfl (xN rfl rfl _) (lB rfl)]
 have k0 := @k_slices_Equal_int.eq_1; have f0 := @slices_Equal_int.eq_1; have t0 := slices_Equal_int_l14_ok
 exact gs
theorem impl_SamePath_ok : ∀ (a : List Int) (b : List Int), Ok (impl_SamePath a b) e_impl_SamePath (dn FTA n_impl_SamePath [.t (.sl false (a.map rI)), .t (.sl false (b.map rI))]) := by
 intro a b
 rw [den_ev FTA (fn := k_impl_SamePath) rfl (xN rfl rfl _) (lB rfl)]
 have k0 := @k_impl_SamePath.eq_1; have f0 := @impl_SamePath.eq_1; have g0 := slices_Equal_int_ok
 exact gs
theorem spec_Under_l6_ok (a : List Int) (b : List Int) : ∀ (i : Int), Ok (spec_Under_l6 a b i) e_spec_Under (ev FTA c_spec_Under (.loop k_spec_Under_l6) [.lv 0, .th k_spec_Under_r2] (putS (List.replicate 27 .dead) [(0, .t (.sl false (a.map rI))), (1, .t (.sl false (b.map rI))), (5, .t (.v (.int .i64 i)))]) (putR (List.replicate 27 []) [])) := by
 unfold Ok
 refine spec_Under_l6.partial_correctness a b _ ?_
 intro F ih i
 show Ok _ _ _
 have ih : ∀ (i : Int), Ok (F i) _ _ := ih
 rw [ev_loop]
 have k0 := @k_spec_Under_l6.eq_1; have k1 := @k_spec_Under_r2.eq_1; have t0 := ih
 exact gs
theorem spec_Under_ok : ∀ (a : List Int) (b : List Int), Ok (spec_Under a b) e_spec_Under (dn FTA n_spec_Under [.t (.sl false (a.map rI)), .t (.sl false (b.map rI))]) := by
 intro a b
 rw [den_ev FTA (fn := k_spec_Under) rfl (xN rfl rfl _) (lB rfl)]
 have k0 := @k_spec_Under.eq_1; have f0 := @spec_Under.eq_1; have t0 := spec_Under_l6_ok
 exact gs
theorem spec_SamePath_ok : ∀ (a : List Int) (b : List Int), Ok (spec_SamePath a b) e_spec_SamePath (dn FTA n_spec_SamePath [.t (.sl false (a.map rI)), .t (.sl false (b.map rI))]) := by
 intro a b
 rw [den_ev FTA (fn := k_spec_SamePath) rfl (xN rfl rfl _) (lB rfl)]
 have k0 := @k_spec_SamePath.eq_1; have f0 := @spec_SamePath.eq_1; have g0 := spec_Under_ok
 exact gs
theorem impl_Under_ok : ∀ (a : List Int) (b : List Int), Ok (impl_Under a b) e_impl_Under (dn FTA n_impl_Under [.t (.sl false (a.map rI)), .t (.sl false (b.map rI))]) := by
 intro a b
 rw [den_ev FTA (fn := k_impl_Under) rfl (xN rfl rfl _) (lB rfl)]
 have k0 := @k_impl_Under.eq_1; have f0 := @impl_Under.eq_1; have g0 := slices_Equal_int_ok
 exact gs
theorem G_spec_Nodes : (∀ (n : GNode), Ok (spec_Nodes n) e_spec_Nodes (dn FTA n_spec_Nodes [.agg (((GNode.row false) n).map .t)])) ∧
  (∀ (k : Int) (i : Int) (n : GNode), Ok (spec_Nodes_l8 k i n) e_spec_Nodes (ev FTA c_spec_Nodes (.loop k_spec_Nodes_l8) [.lv 0, .th k_spec_Nodes_r4] (putS (List.replicate 21 .dead) [(1, .ptr (1, 0) [] 0 0 1 0), (3, .t (.v (.int .i64 k))), (4, .t (.v (.int .i64 i)))]) (putR (List.replicate 21 []) [(1, [.mem [[.v (.int .i64 n.Kind), .v (.string n.Pre), .v (.string n.Local), .v (.string n.Uri), .sl false (n.Decls.map GDecl.row), .sl false (n.Attrs.map GAttr.row), .sl false (n.Kids.map (GNode.row false)), .v (.string n.Text)]] 0 false])]))) := by
 unfold Ok
 refine spec_Nodes.mutual_partial_correctness _ _ ?_ ?_
 ·intro F1 ih1 n
  show Ok _ _ _
  have ih1 : ∀ (k : Int) (i : Int) (n : GNode), Ok (F1 k i n) _ _ := ih1
  rw [den_ev FTA (fn := k_spec_Nodes) rfl (xN rfl rfl _) (lB rfl)]
  have k0 := @k_spec_Nodes.eq_1; have t0 := ih1
  exact gs
 ·intro F0 F1 ih0 ih1 k i n
  show Ok _ _ _
  have ih0 : ∀ (n : GNode), Ok (F0 n) _ _ := ih0
  have ih1 : ∀ (k : Int) (i : Int) (n : GNode), Ok (F1 k i n) _ _ := ih1
  rw [ev_loop]
  have k0 := @k_spec_Nodes_l8.eq_1; have k1 := @k_spec_Nodes_r4.eq_1; have g0 := ih0; have t0 := ih1
  exact gs
theorem spec_Nodes_ok (n : GNode) : Ok (spec_Nodes n) e_spec_Nodes (dn FTA n_spec_Nodes [.agg (((GNode.row false) n).map .t)]) := G_spec_Nodes.1 n
theorem G_impl_CountOf : (∀ (n : GNode), Ok (impl_CountOf n) e_impl_CountOf (dn FTA n_impl_CountOf [.agg (((GNode.row false) n).map .t)])) ∧
  (∀ (out : Int) (n : GNode) (x1 : Int), Ok (impl_CountOf_l8 out n x1) e_impl_CountOf (ev FTA c_impl_CountOf (.loop k_impl_CountOf_l8) [.lv 0, .th k_impl_CountOf_r4] (putS (List.replicate 23 .dead) [(3, .t (.v (.int .i64 out))), (11, .t (.sl false (n.Kids.map (GNode.row false)))), (12, .t (.v (.int .i64 (lenL n.Kids)))), (13, .t (.v (.int .i64 x1)))]) (putR (List.replicate 23 []) []))) := by
 unfold Ok
 refine impl_CountOf.mutual_partial_correctness _ _ ?_ ?_
 ·intro F1 ih1 n
  show Ok _ _ _
  have ih1 : ∀ (out : Int) (n : GNode) (x1 : Int), Ok (F1 out n x1) _ _ := ih1
  rw [den_ev FTA (fn := k_impl_CountOf) rfl (xN rfl rfl _) (lB rfl)]
  have k0 := @k_impl_CountOf.eq_1; have t0 := ih1
  exact gs
 ·intro F0 F1 ih0 ih1 out n x1
  show Ok _ _ _
  have ih0 : ∀ (n : GNode), Ok (F0 n) _ _ := ih0
  have ih1 : ∀ (out : Int) (n : GNode) (x1 : Int), Ok (F1 out n x1) _ _ := ih1
  rw [ev_loop]
  have k0 := @k_impl_CountOf_l8.eq_1; have k1 := @k_impl_CountOf_r4.eq_1; have g0 := ih0; have t0 := ih1
  exact gs
theorem impl_CountOf_ok (n : GNode) : Ok (impl_CountOf n) e_impl_CountOf (dn FTA n_impl_CountOf [.agg (((GNode.row false) n).map .t)]) := G_impl_CountOf.1 n
theorem laws_FnPlaces_l38_ok (r2 : List (List Int)) (r1 : GNode) : ∀ (k : Int) (i : Int), Ok (laws_FnPlaces_l38 r2 k i r1) e_laws_FnPlaces (ev FTA c_laws_FnPlaces (.loop k_laws_FnPlaces_l38) [.lv 0, .th k_laws_FnPlaces_r34] (putS (List.replicate 145 .dead) [(3, .ptr (3, 0) [] 0 0 1 0), (4, .t (.sl false (r2.map (rL false rI)))), (15, .t (.v (.int .i64 k))), (16, .t (.v (.int .i64 i)))]) (putR (List.replicate 145 []) [(3, [.mem [[.v (.int .i64 r1.Kind), .v (.string r1.Pre), .v (.string r1.Local), .v (.string r1.Uri), .sl false (r1.Decls.map GDecl.row), .sl false (r1.Attrs.map GAttr.row), .sl false (r1.Kids.map (GNode.row false)), .v (.string r1.Text)]] 0 false])])) := by
 unfold Ok
 refine laws_FnPlaces_l38.partial_correctness r2 r1 _ ?_
 intro F ih k i
 show Ok _ _ _
 have ih : ∀ (k : Int) (i : Int), Ok (F k i) _ _ := ih
 rw [ev_loop]
 have k0 := @k_laws_FnPlaces_l38.eq_1; have k1 := @k_laws_FnPlaces_r34.eq_1; have g0 := impl_NodeAt_ok; have g1 := impl_SamePath_ok; have g2 := impl_Under_ok; have g3 := impl_CountOf_ok; have t0 := ih
 exact gs
theorem laws_FnPlaces_ok : ∀ (code : List Int), Ok (laws_FnPlaces code) e_laws_FnPlaces (dn FTA n_laws_FnPlaces [.t (.sl false (code.map (rK .u8)))]) := by
 intro code
 rw [den_ev FTA (fn := k_laws_FnPlaces) rfl (xN rfl rfl _) (lB rfl)]
 have k0 := @k_laws_FnPlaces.eq_1; have f0 := @laws_FnPlaces.eq_1; have g0 := laws_big_ok; have g1 := spec_DrawTree_ok; have g2 := impl_Places_ok; have g3 := spec_DrawNodeAt_ok; have g4 := impl_NodeAt_ok; have g5 := spec_NodeAt_ok; have g6 := spec_DrawSamePath_ok; have g7 := spec_DrawUnder_ok; have g8 := impl_SameNode_ok; have g9 := impl_SamePath_ok; have g10 := spec_SamePath_ok; have g11 := impl_Under_ok; have g12 := spec_Under_ok; have g13 := spec_Nodes_ok; have t0 := laws_FnPlaces_l38_ok
 exact gs
end TT
