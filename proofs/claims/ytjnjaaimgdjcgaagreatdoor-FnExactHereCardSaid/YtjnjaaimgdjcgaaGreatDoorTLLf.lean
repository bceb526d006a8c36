import Derived.Test.YtjnjaaimgdjcgaaGreatDoorTLLe
set_option maxHeartbeats 2000000
set_option linter.unusedVariables false
set_option linter.unusedSimpArgs false
set_option linter.defProp false
set_option maxRecDepth 100000
namespace TT
open Go
open Nat (reduceAdd reduceSub reduceMul reduceLeDiff reduceLT reduceEqDiff)
theorem slices_ContainsFunc_Node_kidsOk_1_ok (s : List GNode) (fc0 : Int) : Ok (slices_ContainsFunc_Node_kidsOk_1 s fc0) e_slices_ContainsFunc_Node_kidsOk_1 (dn FTA n_slices_ContainsFunc_Node [.t (.sl false (s.map (GNode.row false))), .fn n_impl_kidsOk_1 [.lp [.v (.int .i64 fc0)] 0]]) := G_impl_kidsOk.2.1 s fc0
theorem slices_IndexFunc_Node_kidsOk_1_ok (s : List GNode) (fc0 : Int) : Ok (slices_IndexFunc_Node_kidsOk_1 s fc0) e_slices_IndexFunc_Node_kidsOk_1 (dn FTA n_slices_IndexFunc_Node [.t (.sl false (s.map (GNode.row false))), .fn n_impl_kidsOk_1 [.lp [.v (.int .i64 fc0)] 0]]) := G_impl_kidsOk.2.2.1 s fc0
theorem impl_kidsOk_1_ok (k : GNode) (a1 : Int) : Ok (impl_kidsOk_1 k a1) e_impl_kidsOk_1 (dn FTA n_impl_kidsOk_1 [.agg (((GNode.row false) k).map .t), .lp [.v (.int .i64 a1)] 0]) := G_impl_kidsOk.2.2.2.2.1 k a1
theorem impl_partOk_ok (n : GNode) (deep : Int) : Ok (impl_partOk n deep) e_impl_partOk (dn FTA n_impl_partOk [.agg (((GNode.row false) n).map .t), .t (.v (.int .i64 deep))]) := G_impl_kidsOk.2.2.2.2.2 n deep
theorem impl_ofKind_l8_ok (kind : Int) (l : List GNode) : ∀ (n : Int) (x1 : Int), Ok (impl_ofKind_l8 kind n l x1) e_impl_ofKind (ev FTA c_impl_ofKind (.loop k_impl_ofKind_l8) [.lv 0, .th k_impl_ofKind_r4] (putS (List.replicate 22 .dead) [(1, .t (.v (.int .i64 kind))), (5, .t (.v (.int .i64 n))), (8, .t (.sl false (l.map (GNode.row false)))), (9, .t (.v (.int .i64 (lenL l)))), (10, .t (.v (.int .i64 x1)))]) (putR (List.replicate 22 []) [])) := by
  unfold Ok
  refine impl_ofKind_l8.partial_correctness kind l _ ?_
  intro F ih n x1
  show Ok _ _ _
  have ih : ∀ (n : Int) (x1 : Int), Ok (F n x1) _ _ := ih
  rw [ev_loop]
  have k0 := @k_impl_ofKind_l8.eq_1; have k1 := @k_impl_ofKind_r4.eq_1; have t0 := ih
  exact gs
theorem impl_ofKind_ok : ∀ (l : List GNode) (kind : Int), Ok (impl_ofKind l kind) e_impl_ofKind (dn FTA n_impl_ofKind [.t (.sl false (l.map (GNode.row false))), .t (.v (.int .i64 kind))]) := by
  intro l kind
  rw [den_ev FTA (fn := k_impl_ofKind) rfl (xN rfl rfl _) (lB rfl)]
  have k0 := @k_impl_ofKind.eq_1; have f0 := @impl_ofKind.eq_1; have t0 := impl_ofKind_l8_ok
  exact gs
theorem impl_NodeOk_j18_ok : ∀ (bare : Bool) (n : GNode), Ok (impl_NodeOk_j18 bare n) e_impl_NodeOk (ev FTA c_impl_NodeOk k_impl_NodeOk_r18 [] (putS (List.replicate 59 .dead) [(1, .ptr (1, 0) [] 0 0 1 0), (3, .t (.v (.bool bare)))]) (putR (List.replicate 59 []) [(1, [.mem [[.v (.int .i64 n.Kind), .v (.string n.Pre), .v (.string n.Local), .v (.string n.Uri), .sl false (n.Decls.map GDecl.row), .sl false (n.Attrs.map GAttr.row), .sl false (n.Kids.map (GNode.row false)), .v (.string n.Text)]] 0 false])])) := by
  intro bare n
  have k0 := @k_impl_NodeOk_r18.eq_1; have f0 := @impl_NodeOk_j18.eq_1; have g0 := impl_ofKind_ok; have g1 := impl_kidsOk_ok
  exact gs
theorem impl_NodeOk_ok : ∀ (n : GNode), Ok (impl_NodeOk n) e_impl_NodeOk (dn FTA n_impl_NodeOk [.agg (((GNode.row false) n).map .t)]) := by
  intro n
  rw [den_ev FTA (fn := k_impl_NodeOk) rfl (xN rfl rfl _) (lB rfl)]
  have k0 := @k_impl_NodeOk.eq_1; have f0 := @impl_NodeOk.eq_1; have g0 := impl_CountOf_ok; have g1 := impl_partOk_ok; have t0 := impl_NodeOk_j18_ok
  exact gs
theorem impl_FitsIn_ok : ∀ (n : GNode) (l : List (GDecl)), Ok (impl_FitsIn n l) e_impl_FitsIn (dn FTA n_impl_FitsIn [.agg (((GNode.row false) n).map .t), .t (.sl false (l.map GDecl.row))]) := by
  intro n l r hr
  refine den_ext FTA.ft (xOf FTA) ?_
  have hp : ∀ k : List (GDecl), pairsOf (k.map GDecl.row) = some (k.map fun x => (x.Pre, x.Uri)) := fun k => by
    induction k with
    | nil => rfl
    | cons x k ih => show (pairsOf (k.map GDecl.row)).map _ = _; rw [ih]; rfl
  show x_fits [.agg (((GNode.row false) n).map .t), .t (.sl false (l.map GDecl.row))] = some ⟨[.t (.v (.bool r))], []⟩
  have hr' : fitsR ((GNode.row false) n) (l.map fun x => (x.Pre, x.Uri)) = some r := hr
  rw [x_fits, argTs_map, hp]
  simp only [hr', Option.map_some]
theorem impl_TreeOk_ok : ∀ (n : GNode), Ok (impl_TreeOk n) e_impl_TreeOk (dn FTA n_impl_TreeOk [.agg (((GNode.row false) n).map .t)]) := by
  intro n
  rw [den_ev FTA (fn := k_impl_TreeOk) rfl (xN rfl rfl _) (lB rfl)]
  have k0 := @k_impl_TreeOk.eq_1; have f0 := @impl_TreeOk.eq_1; have g0 := impl_NodeOk_ok; have g1 := impl_FitsIn_ok
  exact gs
theorem impl_WalkOk_ok : ∀ (w : GWalk), Ok (impl_WalkOk w) e_impl_WalkOk (dn FTA n_impl_WalkOk [.agg (((GWalk.row false) w).map .t)]) := by
  intro w
  rw [den_ev FTA (fn := k_impl_WalkOk) rfl (xN rfl rfl _) (lB rfl)]
  have k0 := @k_impl_WalkOk.eq_1; have f0 := @impl_WalkOk.eq_1; have g0 := impl_NodeAt_ok; have g1 := impl_TreeOk_ok
  exact gs
theorem impl_Here_ok : ∀ (w : GWalk), Ok (impl_Here w) e_impl_Here (dn FTA n_impl_Here [.agg (((GWalk.row false) w).map .t)]) := by
  intro w
  rw [den_ev FTA (fn := k_impl_Here) rfl (xN rfl rfl _) (lB rfl)]
  have k0 := @k_impl_Here.eq_1; have f0 := @impl_Here.eq_1; have g0 := impl_WalkOk_ok; have g1 := impl_NodeAt_ok
  exact gs
theorem laws_eqDecl_ok : ∀ (a : GDecl) (b : GDecl), Ok (laws_eqDecl a b) e_laws_eqDecl (dn FTA n_laws_eqDecl [.agg ((GDecl.row a).map .t), .agg ((GDecl.row b).map .t)]) := by
  intro a b
  rw [den_ev FTA (fn := k_laws_eqDecl) rfl (xN rfl rfl _) (lB rfl)]
  have k0 := @k_laws_eqDecl.eq_1; have f0 := @laws_eqDecl.eq_1
  exact gs
theorem laws_eqDeclS_l14_ok (a : List GDecl) (b : List GDecl) : ∀ (i : Int), Ok (laws_eqDeclS_l14 a b i) e_laws_eqDeclS (ev FTA c_laws_eqDeclS (.loop k_laws_eqDeclS_l14) [.lv 0, .th k_laws_eqDeclS_r10] (putS (List.replicate 27 .dead) [(0, .t (.sl false (a.map GDecl.row))), (1, .t (.sl false (b.map GDecl.row))), (5, .t (.v (.int .i64 i)))]) (putR (List.replicate 27 []) [])) := by
  unfold Ok
  refine laws_eqDeclS_l14.partial_correctness a b _ ?_
  intro F ih i
  show Ok _ _ _
  have ih : ∀ (i : Int), Ok (F i) _ _ := ih
  rw [ev_loop]
  have k0 := @k_laws_eqDeclS_l14.eq_1; have k1 := @k_laws_eqDeclS_r10.eq_1; have g0 := laws_eqDecl_ok; have t0 := ih
  exact gs
theorem laws_eqDeclS_ok : ∀ (a : List GDecl) (b : List GDecl), Ok (laws_eqDeclS a b) e_laws_eqDeclS (dn FTA n_laws_eqDeclS [.t (.sl false (a.map GDecl.row)), .t (.sl false (b.map GDecl.row))]) := by
  intro a b
  rw [den_ev FTA (fn := k_laws_eqDeclS) rfl (xN rfl rfl _) (lB rfl)]
  have k0 := @k_laws_eqDeclS.eq_1; have f0 := @laws_eqDeclS.eq_1; have t0 := laws_eqDeclS_l14_ok
  exact gs
theorem laws_eqAttr_ok : ∀ (a : GAttr) (b : GAttr), Ok (laws_eqAttr a b) e_laws_eqAttr (dn FTA n_laws_eqAttr [.agg ((GAttr.row a).map .t), .agg ((GAttr.row b).map .t)]) := by
  intro a b
  rw [den_ev FTA (fn := k_laws_eqAttr) rfl (xN rfl rfl _) (lB rfl)]
  have k0 := @k_laws_eqAttr.eq_1; have f0 := @laws_eqAttr.eq_1
  exact gs
theorem laws_eqAttrS_l14_ok (a : List GAttr) (b : List GAttr) : ∀ (i : Int), Ok (laws_eqAttrS_l14 a b i) e_laws_eqAttrS (ev FTA c_laws_eqAttrS (.loop k_laws_eqAttrS_l14) [.lv 0, .th k_laws_eqAttrS_r10] (putS (List.replicate 27 .dead) [(0, .t (.sl false (a.map GAttr.row))), (1, .t (.sl false (b.map GAttr.row))), (5, .t (.v (.int .i64 i)))]) (putR (List.replicate 27 []) [])) := by
  unfold Ok
  refine laws_eqAttrS_l14.partial_correctness a b _ ?_
  intro F ih i
  show Ok _ _ _
  have ih : ∀ (i : Int), Ok (F i) _ _ := ih
  rw [ev_loop]
  have k0 := @k_laws_eqAttrS_l14.eq_1; have k1 := @k_laws_eqAttrS_r10.eq_1; have g0 := laws_eqAttr_ok; have t0 := ih
  exact gs
theorem laws_eqAttrS_ok : ∀ (a : List GAttr) (b : List GAttr), Ok (laws_eqAttrS a b) e_laws_eqAttrS (dn FTA n_laws_eqAttrS [.t (.sl false (a.map GAttr.row)), .t (.sl false (b.map GAttr.row))]) := by
  intro a b
  rw [den_ev FTA (fn := k_laws_eqAttrS) rfl (xN rfl rfl _) (lB rfl)]
  have k0 := @k_laws_eqAttrS.eq_1; have f0 := @laws_eqAttrS.eq_1; have t0 := laws_eqAttrS_l14_ok
  exact gs
theorem G_laws_eqNode : (∀ (a : GNode) (b : GNode), Ok (laws_eqNode a b) e_laws_eqNode (dn FTA n_laws_eqNode [.agg (((GNode.row false) a).map .t), .agg (((GNode.row false) b).map .t)])) ∧
    (∀ (a : List GNode) (b : List GNode), Ok (laws_eqNodeS a b) e_laws_eqNodeS (dn FTA n_laws_eqNodeS [.t (.sl false (a.map (GNode.row false))), .t (.sl false (b.map (GNode.row false)))])) ∧
    (∀ (a : List GNode) (b : List GNode) (i : Int), Ok (laws_eqNodeS_l14 a b i) e_laws_eqNodeS (ev FTA c_laws_eqNodeS (.loop k_laws_eqNodeS_l14) [.lv 0, .th k_laws_eqNodeS_r10] (putS (List.replicate 27 .dead) [(0, .t (.sl false (a.map (GNode.row false)))), (1, .t (.sl false (b.map (GNode.row false)))), (5, .t (.v (.int .i64 i)))]) (putR (List.replicate 27 []) []))) := by
  unfold Ok
  refine laws_eqNode.mutual_partial_correctness _ _ _ ?_ ?_ ?_ 
  · intro F1 ih1 a b
    show Ok _ _ _
    have ih1 : ∀ (a : List GNode) (b : List GNode), Ok (F1 a b) _ _ := ih1
    rw [den_ev FTA (fn := k_laws_eqNode) rfl (xN rfl rfl _) (lB rfl)]
    have k0 := @k_laws_eqNode.eq_1; have g0 := laws_eqDeclS_ok; have g1 := laws_eqAttrS_ok; have g2 := ih1
    exact gs
  · intro F2 ih2 a b
    show Ok _ _ _
    have ih2 : ∀ (a : List GNode) (b : List GNode) (i : Int), Ok (F2 a b i) _ _ := ih2
    rw [den_ev FTA (fn := k_laws_eqNodeS) rfl (xN rfl rfl _) (lB rfl)]
    have k0 := @k_laws_eqNodeS.eq_1; have t0 := ih2
    exact gs
  · intro F0 F2 ih0 ih2 a b i
    show Ok _ _ _
    have ih0 : ∀ (a : GNode) (b : GNode), Ok (F0 a b) _ _ := ih0
    have ih2 : ∀ (a : List GNode) (b : List GNode) (i : Int), Ok (F2 a b i) _ _ := ih2
    rw [ev_loop]
    have k0 := @k_laws_eqNodeS_l14.eq_1; have k1 := @k_laws_eqNodeS_r10.eq_1; have g0 := ih0; have t0 := ih2
    exact gs
theorem laws_eqNode_ok (a : GNode) (b : GNode) : Ok (laws_eqNode a b) e_laws_eqNode (dn FTA n_laws_eqNode [.agg (((GNode.row false) a).map .t), .agg (((GNode.row false) b).map .t)]) := G_laws_eqNode.1 a b
theorem laws_eqNodeS_ok (a : List GNode) (b : List GNode) : Ok (laws_eqNodeS a b) e_laws_eqNodeS (dn FTA n_laws_eqNodeS [.t (.sl false (a.map (GNode.row false))), .t (.sl false (b.map (GNode.row false)))]) := G_laws_eqNode.2.1 a b
theorem laws_eqIntS_l14_ok (a : List Int) (b : List Int) : ∀ (i : Int), Ok (laws_eqIntS_l14 a b i) e_laws_eqIntS (ev FTA c_laws_eqIntS (.loop k_laws_eqIntS_l14) [.lv 0, .th k_laws_eqIntS_r10] (putS (List.replicate 26 .dead) [(0, .t (.sl false (a.map rI))), (1, .t (.sl false (b.map rI))), (5, .t (.v (.int .i64 i)))]) (putR (List.replicate 26 []) [])) := by
  unfold Ok
  refine laws_eqIntS_l14.partial_correctness a b _ ?_
  intro F ih i
  show Ok _ _ _
  have ih : ∀ (i : Int), Ok (F i) _ _ := ih
  rw [ev_loop]
  have k0 := @k_laws_eqIntS_l14.eq_1; have k1 := @k_laws_eqIntS_r10.eq_1; have t0 := ih
  exact gs
theorem laws_eqIntS_ok : ∀ (a : List Int) (b : List Int), Ok (laws_eqIntS a b) e_laws_eqIntS (dn FTA n_laws_eqIntS [.t (.sl false (a.map rI)), .t (.sl false (b.map rI))]) := by
  intro a b
  rw [den_ev FTA (fn := k_laws_eqIntS) rfl (xN rfl rfl _) (lB rfl)]
  have k0 := @k_laws_eqIntS.eq_1; have f0 := @laws_eqIntS.eq_1; have t0 := laws_eqIntS_l14_ok
  exact gs
theorem laws_eqWalk_ok : ∀ (a : GWalk) (b : GWalk), Ok (laws_eqWalk a b) e_laws_eqWalk (dn FTA n_laws_eqWalk [.agg (((GWalk.row false) a).map .t), .agg (((GWalk.row false) b).map .t)]) := by
  intro a b
  rw [den_ev FTA (fn := k_laws_eqWalk) rfl (xN rfl rfl _) (lB rfl)]
  have k0 := @k_laws_eqWalk.eq_1; have f0 := @laws_eqWalk.eq_1; have g0 := laws_eqNode_ok; have g1 := laws_eqIntS_ok
  exact gs
theorem laws_markText_l14_ok : ∀ (k1 : Int) (out : ByteArray), Ok (laws_markText_l14 k1 out) e_laws_markText (ev FTA c_laws_markText (.loop k_laws_markText_l14) [.lv 0, .th k_laws_markText_r12] (putS (List.replicate 20 .dead) [(0, .t (.v (.int .i64 k1))), (3, .t (.v (.string out)))]) (putR (List.replicate 20 []) [])) := by
  unfold Ok
  refine laws_markText_l14.partial_correctness _ ?_
  intro F ih k1 out
  show Ok _ _ _
  have ih : ∀ (k1 : Int) (out : ByteArray), Ok (F k1 out) _ _ := ih
  rw [ev_loop]
  have k0 := @k_laws_markText_l14.eq_1; have k1 := @k_laws_markText_r12.eq_1; have t0 := ih
  exact gs
end TT
