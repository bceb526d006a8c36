import Derived.Test.YtdpdfjkjlkmjaaaTLLd
set_option maxHeartbeats 2000000
set_option linter.unusedVariables false
set_option linter.unusedSimpArgs false
set_option linter.defProp false
set_option maxRecDepth 100000
namespace TT
open Go
open Nat (reduceAdd reduceSub reduceMul reduceLeDiff reduceLT reduceEqDiff)
theorem slices_Equal_Attr_l14_ok (s1 : List GAttr) (s2 : List GAttr) : ∀ (x2 : Int), Ok (slices_Equal_Attr_l14 s1 s2 x2) e_slices_Equal_Attr (ev FTA c_slices_Equal_Attr (.loop k_slices_Equal_Attr_l14) [.lv 0, .th k_slices_Equal_Attr_r10] (putS (List.replicate 26 .dead) [(0, .t (.sl false (s1.map GAttr.row))), (1, .t (.sl false (s2.map GAttr.row))), (12, .t (.v (.int .i64 (lenL s1)))), (13, .t (.v (.int .i64 x2)))]) (putR (List.replicate 26 []) [])) := by
 unfold Ok
 refine slices_Equal_Attr_l14.partial_correctness s1 s2 _ ?_
 intro F ih x2
 show Ok _ _ _
 have ih : ∀ (x2 : Int), Ok (F x2) _ _ := ih
 rw [ev_loop]
 have k0 := @k_slices_Equal_Attr_l14.eq_1; have k1 := @k_slices_Equal_Attr_r10.eq_1; have t0 := ih
 exact gs
theorem slices_Equal_Attr_ok : ∀ (s1 : List GAttr) (s2 : List GAttr), Ok (slices_Equal_Attr s1 s2) e_slices_Equal_Attr (dn FTA n_slices_Equal_Attr [.t (.sl false (s1.map GAttr.row)), .t (.sl false (s2.map GAttr.row))]) := by
 intro s1 s2
 rw [den_ev FTA (fn := k_slices_Equal_Attr) rfl (xN rfl rfl _) (lB rfl)]
 have k0 := @k_slices_Equal_Attr.eq_1; have f0 := @slices_Equal_Attr.eq_1; have t0 := slices_Equal_Attr_l14_ok
 exact gs
theorem impl_sameAlone_ok : ∀ (a : GNode) (b : GNode), Ok (impl_sameAlone a b) e_impl_sameAlone (dn FTA n_impl_sameAlone [.agg (((GNode.row false) a).map .t), .agg (((GNode.row false) b).map .t)]) := by
 intro a b
 rw [den_ev FTA (fn := k_impl_sameAlone) rfl (xN rfl rfl _) (lB rfl)]
 have k0 := @k_impl_sameAlone.eq_1; have f0 := @impl_sameAlone.eq_1; have g0 := slices_Equal_Decl_ok; have g1 := slices_Equal_Attr_ok
 exact gs
theorem G_impl_SameNode : (∀ (a : GNode) (b : GNode), Ok (impl_SameNode a b) e_impl_SameNode (dn FTA n_impl_SameNode [.agg (((GNode.row false) a).map .t), .agg (((GNode.row false) b).map .t)])) ∧
  (∀ (s1 : List GNode) (s2 : List GNode), Ok (slices_EqualFunc_Node_SameNode s1 s2) e_slices_EqualFunc_Node_SameNode (dn FTA n_slices_EqualFunc_Node [.t (.sl false (s1.map (GNode.row false))), .t (.sl false (s2.map (GNode.row false))), .fn n_impl_SameNode []])) ∧
  (∀ (s2 : List GNode) (s1 : List GNode) (x2 : Int), Ok (slices_EqualFunc_Node_SameNode_l14 s2 s1 x2) e_slices_EqualFunc_Node_SameNode (ev FTA c_slices_EqualFunc_Node_SameNode (.loop k_slices_EqualFunc_Node_l14) [.lv 0, .th k_slices_EqualFunc_Node_r10] (putS (List.replicate 32 .dead) [(1, .t (.sl false (s2.map (GNode.row false)))), (2, .fn n_impl_SameNode []), (15, .t (.sl false (s1.map (GNode.row false)))), (16, .t (.v (.int .i64 (lenL s1)))), (17, .t (.v (.int .i64 x2)))]) (putR (List.replicate 32 []) []))) := by
 unfold Ok
 refine impl_SameNode.mutual_partial_correctness _ _ _ ?_ ?_ ?_
 ·intro F1 ih1 a b
  show Ok _ _ _
  have ih1 : ∀ (s1 : List GNode) (s2 : List GNode), Ok (F1 s1 s2) _ _ := ih1
  rw [den_ev FTA (fn := k_impl_SameNode) rfl (xN rfl rfl _) (lB rfl)]
  have k0 := @k_impl_SameNode.eq_1; have g0 := impl_sameAlone_ok; have g1 := ih1
  exact gs
 ·intro F2 ih2 s1 s2
  show Ok _ _ _
  have ih2 : ∀ (s2 : List GNode) (s1 : List GNode) (x2 : Int), Ok (F2 s2 s1 x2) _ _ := ih2
  rw [den_ev FTA (fn := k_slices_EqualFunc_Node) rfl (xN rfl rfl _) (lB rfl)]
  have k0 := @k_slices_EqualFunc_Node.eq_1; have t0 := ih2
  exact gs
 ·intro F0 F2 ih0 ih2 s2 s1 x2
  show Ok _ _ _
  have ih0 : ∀ (a : GNode) (b : GNode), Ok (F0 a b) _ _ := ih0
  have ih2 : ∀ (s2 : List GNode) (s1 : List GNode) (x2 : Int), Ok (F2 s2 s1 x2) _ _ := ih2
  rw [ev_loop]
  have k0 := @k_slices_EqualFunc_Node_l14.eq_1; have k1 := @k_slices_EqualFunc_Node_r10.eq_1; have g0 := ih0; have t0 := ih2
  exact gs
theorem impl_SameNode_ok (a : GNode) (b : GNode) : Ok (impl_SameNode a b) e_impl_SameNode (dn FTA n_impl_SameNode [.agg (((GNode.row false) a).map .t), .agg (((GNode.row false) b).map .t)]) := G_impl_SameNode.1 a b
theorem slices_EqualFunc_Node_SameNode_ok (s1 : List GNode) (s2 : List GNode) : Ok (slices_EqualFunc_Node_SameNode s1 s2) e_slices_EqualFunc_Node_SameNode (dn FTA n_slices_EqualFunc_Node [.t (.sl false (s1.map (GNode.row false))), .t (.sl false (s2.map (GNode.row false))), .fn n_impl_SameNode []]) := G_impl_SameNode.2.1 s1 s2
theorem laws_FnEdits_j22_ok : ∀ (r4 : GNode × List Int × Int × List GNode) (is : Bool) (r5 : GNode × Bool), Ok (laws_FnEdits_j22 r4 is r5) e_laws_FnEdits (ev FTA c_laws_FnEdits k_laws_FnEdits_r22 [] (putS (List.replicate 160 .dead) [(10, .ptr (10, 0) [] 0 0 1 0), (11, .t (.sl false (r4.2.1.map rI))), (12, .t (.v (.int .i64 r4.2.2.1))), (13, .t (.sl false (r4.2.2.2.map (GNode.row false)))), (14, .ptr (14, 0) [] 0 0 1 0), (15, .t (.v (.bool is)))]) (putR (List.replicate 160 []) [(10, [.mem [[.v (.int .i64 r4.1.Kind), .v (.string r4.1.Pre), .v (.string r4.1.Local), .v (.string r4.1.Uri), .sl false (r4.1.Decls.map GDecl.row), .sl false (r4.1.Attrs.map GAttr.row), .sl false (r4.1.Kids.map (GNode.row false)), .v (.string r4.1.Text)]] 0 false]), (14, [.mem [[.v (.int .i64 r5.1.Kind), .v (.string r5.1.Pre), .v (.string r5.1.Local), .v (.string r5.1.Uri), .sl false (r5.1.Decls.map GDecl.row), .sl false (r5.1.Attrs.map GAttr.row), .sl false (r5.1.Kids.map (GNode.row false)), .v (.string r5.1.Text)]] 0 false])])) := by
 intro r4 is r5
 have k0 := @k_laws_FnEdits_r22.eq_1; have f0 := @laws_FnEdits_j22.eq_1; have g0 := impl_NodeAt_ok; have g1 := impl_PutAt_ok; have g2 := impl_SameNode_ok
 exact gs
theorem laws_FnEdits_ok : ∀ (code : List Int), Ok (laws_FnEdits code) e_laws_FnEdits (dn FTA n_laws_FnEdits [.t (.sl false (code.map (rK .u8)))]) := by
 intro code
 rw [den_ev FTA (fn := k_laws_FnEdits) rfl (xN rfl rfl _) (lB rfl)]
 have k0 := @k_laws_FnEdits.eq_1; have f0 := @laws_FnEdits.eq_1; have g0 := laws_big_ok; have g1 := spec_DrawPutAt_ok; have g2 := impl_PutAt_ok; have g3 := spec_PutAt_ok; have g4 := spec_DrawInsertAt_ok; have g5 := impl_InsertAt_ok; have g6 := spec_InsertAt_ok; have g7 := impl_SameNode_ok; have t0 := laws_FnEdits_j22_ok
 exact gs
end TT
