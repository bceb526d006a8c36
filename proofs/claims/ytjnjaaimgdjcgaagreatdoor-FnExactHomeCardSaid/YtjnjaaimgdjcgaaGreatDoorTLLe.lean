import Derived.Test.YtjnjaaimgdjcgaaGreatDoorTLLd
set_option maxHeartbeats 2000000
set_option linter.unusedVariables false
set_option linter.unusedSimpArgs false
set_option linter.defProp false
set_option maxRecDepth 100000
namespace TT
open Go
open Nat (reduceAdd reduceSub reduceMul reduceLeDiff reduceLT reduceEqDiff)
theorem impl_DeclsOk_ok : ∀ (l : List GDecl), Ok (impl_DeclsOk l) e_impl_DeclsOk (dn FTA n_impl_DeclsOk [.t (.sl false (l.map GDecl.row))]) := by
 intro l
 rw [den_ev FTA (fn := k_impl_DeclsOk) rfl (xN rfl rfl _) (lB rfl)]
 have k0 := @k_impl_DeclsOk.eq_1; have f0 := @impl_DeclsOk.eq_1; have t0 := impl_DeclsOk_l6_ok
 exact gs
theorem impl_attrOk_ok : ∀ (a : GAttr), Ok (impl_attrOk a) e_impl_attrOk (dn FTA n_impl_attrOk [.agg ((GAttr.row a).map .t)]) := by
 intro a
 rw [den_ev FTA (fn := k_impl_attrOk) rfl (xN rfl rfl _) (lB rfl)]
 have k0 := @k_impl_attrOk.eq_1; have f0 := @impl_attrOk.eq_1; have g0 := impl_preOk_ok; have g1 := impl_uriOk_ok; have g2 := impl_PlainOk_ok; have g3 := impl_TextOk_ok
 exact gs
theorem strings_Compare_ok : ∀ (s : ByteArray) (t : ByteArray), Ok (strings_Compare s t) e_strings_Compare (dn FTA n_strings_Compare [.t (.v (.string s)), .t (.v (.string t))]) := by
 intro s t r hr
 exact den_ext FTA.ft (xOf FTA) (x_compare_ok s t (e := e_strings_Compare) (fun _ => rfl) hr)
theorem impl_compareAttrs_ok : ∀ (a : GAttr) (b : GAttr), Ok (impl_compareAttrs a b) e_impl_compareAttrs (dn FTA n_impl_compareAttrs [.agg ((GAttr.row a).map .t), .agg ((GAttr.row b).map .t)]) := by
 intro a b
 rw [den_ev FTA (fn := k_impl_compareAttrs) rfl (xN rfl rfl _) (lB rfl)]
 have k0 := @k_impl_compareAttrs.eq_1; have f0 := @impl_compareAttrs.eq_1; have g0 := strings_Compare_ok
 exact gs
theorem impl_attrsOk_l6_ok (l : List GAttr) : ∀ (x2 : Int), Ok (impl_attrsOk_l6 l x2) e_impl_attrsOk (ev FTA c_impl_attrsOk (.loop k_impl_attrsOk_l6) [.lv 0, .th k_impl_attrsOk_r2] (putS (List.replicate 33 .dead) [(0, .t (.sl false (l.map GAttr.row))), (5, .t (.sl false (l.map GAttr.row))), (6, .t (.v (.int .i64 (lenL l)))), (7, .t (.v (.int .i64 x2)))]) (putR (List.replicate 33 []) [])) := by
 unfold Ok
 refine impl_attrsOk_l6.partial_correctness l _ ?_
 intro F ih x2
 show Ok _ _ _
 have ih : ∀ (x2 : Int), Ok (F x2) _ _ := ih
 rw [ev_loop]
 have k0 := @k_impl_attrsOk_l6.eq_1; have k1 := @k_impl_attrsOk_r2.eq_1; have g0 := impl_attrOk_ok; have g1 := impl_compareAttrs_ok; have t0 := ih
 exact gs
theorem impl_attrsOk_ok : ∀ (l : List GAttr), Ok (impl_attrsOk l) e_impl_attrsOk (dn FTA n_impl_attrsOk [.t (.sl false (l.map GAttr.row))]) := by
 intro l
 rw [den_ev FTA (fn := k_impl_attrsOk) rfl (xN rfl rfl _) (lB rfl)]
 have k0 := @k_impl_attrsOk.eq_1; have f0 := @impl_attrsOk.eq_1; have t0 := impl_attrsOk_l6_ok
 exact gs
theorem impl_noTwoTexts_l6_ok (l : List GNode) : ∀ (x2 : Int), Ok (impl_noTwoTexts_l6 l x2) e_impl_noTwoTexts (ev FTA c_impl_noTwoTexts (.loop k_impl_noTwoTexts_l6) [.lv 0, .th k_impl_noTwoTexts_r2] (putS (List.replicate 29 .dead) [(0, .t (.sl false (l.map (GNode.row false)))), (5, .t (.sl false (l.map (GNode.row false)))), (6, .t (.v (.int .i64 (lenL l)))), (7, .t (.v (.int .i64 x2)))]) (putR (List.replicate 29 []) [])) := by
 unfold Ok
 refine impl_noTwoTexts_l6.partial_correctness l _ ?_
 intro F ih x2
 show Ok _ _ _
 have ih : ∀ (x2 : Int), Ok (F x2) _ _ := ih
 rw [ev_loop]
 have k0 := @k_impl_noTwoTexts_l6.eq_1; have k1 := @k_impl_noTwoTexts_r2.eq_1; have t0 := ih
 exact gs
theorem impl_noTwoTexts_ok : ∀ (l : List GNode), Ok (impl_noTwoTexts l) e_impl_noTwoTexts (dn FTA n_impl_noTwoTexts [.t (.sl false (l.map (GNode.row false)))]) := by
 intro l
 rw [den_ev FTA (fn := k_impl_noTwoTexts) rfl (xN rfl rfl _) (lB rfl)]
 have k0 := @k_impl_noTwoTexts.eq_1; have f0 := @impl_noTwoTexts.eq_1; have t0 := impl_noTwoTexts_l6_ok
 exact gs
theorem G_impl_kidsOk : (∀ (n : GNode) (deep : Int), Ok (impl_kidsOk n deep) e_impl_kidsOk (dn FTA n_impl_kidsOk [.agg (((GNode.row false) n).map .t), .t (.v (.int .i64 deep))])) ∧
  (∀ (s : List GNode) (fc0 : Int), Ok (slices_ContainsFunc_Node_kidsOk_1 s fc0) e_slices_ContainsFunc_Node_kidsOk_1 (dn FTA n_slices_ContainsFunc_Node [.t (.sl false (s.map (GNode.row false))), .fn n_impl_kidsOk_1 [.lp [.v (.int .i64 fc0)] 0]])) ∧
  (∀ (s : List GNode) (fc0 : Int), Ok (slices_IndexFunc_Node_kidsOk_1 s fc0) e_slices_IndexFunc_Node_kidsOk_1 (dn FTA n_slices_IndexFunc_Node [.t (.sl false (s.map (GNode.row false))), .fn n_impl_kidsOk_1 [.lp [.v (.int .i64 fc0)] 0]])) ∧
  (∀ (s : List GNode) (x1 : Int) (f : Int), Ok (slices_IndexFunc_Node_kidsOk_1_l6 s x1 f) e_slices_IndexFunc_Node_kidsOk_1 (ev FTA c_slices_IndexFunc_Node_kidsOk_1 (.loop k_slices_IndexFunc_Node_l6) [.lv 0, .th k_slices_IndexFunc_Node_r2] (putS (List.replicate 19 .dead) [(0, .t (.sl false (s.map (GNode.row false)))), (1, .fn n_impl_kidsOk_1 [.ptr (1, 0) [] 0 0 1 0]), (7, .t (.v (.int .i64 (lenL s)))), (8, .t (.v (.int .i64 x1)))]) (putR (List.replicate 19 []) [(1, [.mem [[.v (.int .i64 f)]] 0 true])]))) ∧
  (∀ (k : GNode) (a1 : Int), Ok (impl_kidsOk_1 k a1) e_impl_kidsOk_1 (dn FTA n_impl_kidsOk_1 [.agg (((GNode.row false) k).map .t), .lp [.v (.int .i64 a1)] 0])) ∧
  (∀ (n : GNode) (deep : Int), Ok (impl_partOk n deep) e_impl_partOk (dn FTA n_impl_partOk [.agg (((GNode.row false) n).map .t), .t (.v (.int .i64 deep))])) := by
 unfold Ok
 refine impl_kidsOk.mutual_partial_correctness _ _ _ _ _ _ ?_ ?_ ?_ ?_ ?_ ?_
 ·intro F1 ih1 n deep
  show Ok _ _ _
  have ih1 : ∀ (s : List GNode) (fc0 : Int), Ok (F1 s fc0) _ _ := ih1
  rw [den_ev FTA (fn := k_impl_kidsOk) rfl (xN rfl rfl _) (lB rfl)]
  have k0 := @k_impl_kidsOk.eq_1; have g0 := impl_noTwoTexts_ok; have g1 := ih1
  exact gs
 ·intro F2 ih2 s fc0
  show Ok _ _ _
  have ih2 : ∀ (s : List GNode) (fc0 : Int), Ok (F2 s fc0) _ _ := ih2
  rw [den_ev FTA (fn := k_slices_ContainsFunc_Node) rfl (xN rfl rfl _) (lB rfl)]
  have k0 := @k_slices_ContainsFunc_Node.eq_1; have g0 := ih2
  exact gs
 ·intro F3 ih3 s fc0
  show Ok _ _ _
  have ih3 : ∀ (s : List GNode) (x1 : Int) (f : Int), Ok (F3 s x1 f) _ _ := ih3
  rw [den_ev FTA (fn := k_slices_IndexFunc_Node) rfl (xN rfl rfl _) (lB rfl)]
  have k0 := @k_slices_IndexFunc_Node.eq_1; have t0 := ih3
  exact gs
 ·intro F3 F4 ih3 ih4 s x1 f
  show Ok _ _ _
  have ih4 : ∀ (k : GNode) (a1 : Int), Ok (F4 k a1) _ _ := ih4
  have ih3 : ∀ (s : List GNode) (x1 : Int) (f : Int), Ok (F3 s x1 f) _ _ := ih3
  rw [ev_loop]
  have k0 := @k_slices_IndexFunc_Node_l6.eq_1; have k1 := @k_slices_IndexFunc_Node_r2.eq_1; have g0 := ih4; have t0 := ih3
  exact gs
 ·intro F5 ih5 k a1
  show Ok _ _ _
  have ih5 : ∀ (n : GNode) (deep : Int), Ok (F5 n deep) _ _ := ih5
  rw [den_ev FTA (fn := k_impl_kidsOk_1) rfl (xN rfl rfl _) (lB rfl)]
  have k0 := @k_impl_kidsOk_1.eq_1; have g0 := ih5
  exact gs
 ·intro F0 ih0 n deep
  show Ok _ _ _
  have ih0 : ∀ (n : GNode) (deep : Int), Ok (F0 n deep) _ _ := ih0
  rw [den_ev FTA (fn := k_impl_partOk) rfl (xN rfl rfl _) (lB rfl)]
  have k0 := @k_impl_partOk.eq_1; have g0 := impl_leafOk_ok; have g1 := impl_preOk_ok; have g2 := impl_uriOk_ok; have g3 := impl_PlainOk_ok; have g4 := impl_DeclsOk_ok; have g5 := impl_attrsOk_ok; have g6 := ih0
  exact gs
theorem impl_kidsOk_ok (n : GNode) (deep : Int) : Ok (impl_kidsOk n deep) e_impl_kidsOk (dn FTA n_impl_kidsOk [.agg (((GNode.row false) n).map .t), .t (.v (.int .i64 deep))]) := G_impl_kidsOk.1 n deep
theorem slices_ContainsFunc_Node_kidsOk_1_ok (s : List GNode) (fc0 : Int) : Ok (slices_ContainsFunc_Node_kidsOk_1 s fc0) e_slices_ContainsFunc_Node_kidsOk_1 (dn FTA n_slices_ContainsFunc_Node [.t (.sl false (s.map (GNode.row false))), .fn n_impl_kidsOk_1 [.lp [.v (.int .i64 fc0)] 0]]) := G_impl_kidsOk.2.1 s fc0
theorem slices_IndexFunc_Node_kidsOk_1_ok (s : List GNode) (fc0 : Int) : Ok (slices_IndexFunc_Node_kidsOk_1 s fc0) e_slices_IndexFunc_Node_kidsOk_1 (dn FTA n_slices_IndexFunc_Node [.t (.sl false (s.map (GNode.row false))), .fn n_impl_kidsOk_1 [.lp [.v (.int .i64 fc0)] 0]]) := G_impl_kidsOk.2.2.1 s fc0
theorem impl_kidsOk_1_ok (k : GNode) (a1 : Int) : Ok (impl_kidsOk_1 k a1) e_impl_kidsOk_1 (dn FTA n_impl_kidsOk_1 [.agg (((GNode.row false) k).map .t), .lp [.v (.int .i64 a1)] 0]) := G_impl_kidsOk.2.2.2.2.1 k a1
theorem impl_partOk_ok (n : GNode) (deep : Int) : Ok (impl_partOk n deep) e_impl_partOk (dn FTA n_impl_partOk [.agg (((GNode.row false) n).map .t), .t (.v (.int .i64 deep))]) := G_impl_kidsOk.2.2.2.2.2 n deep
theorem impl_ofKind_l8_ok (kind : Int) (l : List GNode) : ∀ (n : Int) (x1 : Int), Ok (impl_ofKind_l8 kind n l x1) e_impl_ofKind (ev FTA c_impl_ofKind (.loop k_impl_ofKind_l8) [.lv 0, .th k_impl_ofKind_r4] (putS (List.replicate 22 .dead) [(1, .t (.v (.int .i64 kind))), (5, .t (.v (.int .i64 n))), (8, .t (.sl false (l.map (GNode.row false)))), (9, .t (.v (.int .i64 (lenL l)))), (10, .t (.v (.int .i64 x1)))]) (putR (List.replicate 22 []) [])) := by
 unfold Ok
 refine impl_ofKind_l8.partial_correctness kind l _ ?_
 intro F ih n x1
 show Ok _ _ _
 have ih : ∀ (n : Int) (x1 : Int), Ok (F n x1) _ _ := ih
 rw [ev_loop]
 have k0 := @k_impl_ofKind_l8.eq_1; have k1 := @k_impl_ofKind_r4.eq_1; have t0 := ih
 exact gs
theorem impl_ofKind_ok : ∀ (l : List GNode) (kind : Int), Ok (impl_ofKind l kind) e_impl_ofKind (dn FTA n_impl_ofKind [.t (.sl false (l.map (GNode.row false))), .t (.v (.int .i64 kind))]) := by
 intro l kind
 rw [den_ev FTA (fn := k_impl_ofKind) rfl (xN rfl rfl _) (lB rfl)]
 have k0 := @k_impl_ofKind.eq_1; have f0 := @impl_ofKind.eq_1; have t0 := impl_ofKind_l8_ok
 exact gs
theorem impl_NodeOk_j18_ok : ∀ (bare : Bool) (n : GNode), Ok (impl_NodeOk_j18 bare n) e_impl_NodeOk (ev FTA c_impl_NodeOk k_impl_NodeOk_r18 [] (putS (List.replicate 59 .dead) [(1, .ptr (1, 0) [] 0 0 1 0), (3, .t (.v (.bool bare)))]) (putR (List.replicate 59 []) [(1, [.mem [[.v (.int .i64 n.Kind), .v (.string n.Pre), .v (.string n.Local), .v (.string n.Uri), .sl false (n.Decls.map GDecl.row), .sl false (n.Attrs.map GAttr.row), .sl false (n.Kids.map (GNode.row false)), .v (.string n.Text)]] 0 false])])) := by
 intro bare n
 have k0 := @k_impl_NodeOk_r18.eq_1; have f0 := @impl_NodeOk_j18.eq_1; have g0 := impl_ofKind_ok; have g1 := impl_kidsOk_ok
 exact gs
theorem impl_NodeOk_ok : ∀ (n : GNode), Ok (impl_NodeOk n) e_impl_NodeOk (dn FTA n_impl_NodeOk [.agg (((GNode.row false) n).map .t)]) := by
 intro n
 rw [den_ev FTA (fn := k_impl_NodeOk) rfl (xN rfl rfl _) (lB rfl)]
 have k0 := @k_impl_NodeOk.eq_1; have f0 := @impl_NodeOk.eq_1; have g0 := impl_CountOf_ok; have g1 := impl_partOk_ok; have t0 := impl_NodeOk_j18_ok
 exact gs
theorem impl_FitsIn_ok : ∀ (n : GNode) (l : List (GDecl)), Ok (impl_FitsIn n l) e_impl_FitsIn (dn FTA n_impl_FitsIn [.agg (((GNode.row false) n).map .t), .t (.sl false (l.map GDecl.row))]) := by
 intro n l r hr
 refine den_ext FTA.ft (xOf FTA) ?_
 have hp : ∀ k : List (GDecl), pairsOf (k.map GDecl.row) = some (k.map fun x => (x.Pre, x.Uri)) := fun k => by
  induction k with
  | nil => rfl
  | cons x k ih => show (pairsOf (k.map GDecl.row)).map _ = _; rw [ih]; rfl
 show x_fits [.agg (((GNode.row false) n).map .t), .t (.sl false (l.map GDecl.row))] = some ⟨[.t (.v (.bool r))], []⟩
 have hr' : fitsR ((GNode.row false) n) (l.map fun x => (x.Pre, x.Uri)) = some r := hr
 rw [x_fits, argTs_map, hp]
 simp only [hr', Option.map_some]
theorem impl_TreeOk_ok : ∀ (n : GNode), Ok (impl_TreeOk n) e_impl_TreeOk (dn FTA n_impl_TreeOk [.agg (((GNode.row false) n).map .t)]) := by
 intro n
 rw [den_ev FTA (fn := k_impl_TreeOk) rfl (xN rfl rfl _) (lB rfl)]
 have k0 := @k_impl_TreeOk.eq_1; have f0 := @impl_TreeOk.eq_1; have g0 := impl_NodeOk_ok; have g1 := impl_FitsIn_ok
 exact gs
theorem slices_Clone_Decl_ok : ∀ (s : List (GDecl)), Ok (slices_Clone_Decl s) e_slices_Clone_Decl (dn FTA n_slices_Clone_Decl [.t (.sl false (s.map GDecl.row))]) := by
 intro s
 cases s with
 | nil =>
  intro r hr
  unfold slices_Clone_Decl at hr
  obtain ⟨_, _, h⟩ := Option.bind_eq_some_iff.1 hr
  cases h
  exact den_ext FTA.ft (xOf FTA) (xOf_nil rfl)
 | cons x s =>
  simp only [List.map_cons]
  rw [den_ev FTA (fn := k_slices_Clone_Decl) rfl (xOf_cons rfl _ _) (Nat.le_of_ble_eq_true rfl)]
  simp only [SSA, RS, c_slices_Clone_Decl, k_slices_Clone_Decl, slices_Clone_Decl, reduceAdd, reduceSub, reduceMul, reduceLeDiff, reduceLT, reduceEqDiff, Nat.reduceBEq, ↓reduceIte, reduceCtorEq]
  refine Ok_prim fun a h => ?_
  simp only [SSA, RS, *, reduceAdd, reduceSub, reduceMul, reduceLeDiff, reduceLT, reduceEqDiff, Nat.reduceBEq, ↓reduceIte, reduceCtorEq]
  exact Ok_ret rfl
theorem slices_Clone_Attr_ok : ∀ (s : List (GAttr)), Ok (slices_Clone_Attr s) e_slices_Clone_Attr (dn FTA n_slices_Clone_Attr [.t (.sl false (s.map GAttr.row))]) := by
 intro s
 cases s with
 | nil =>
  intro r hr
  unfold slices_Clone_Attr at hr
  obtain ⟨_, _, h⟩ := Option.bind_eq_some_iff.1 hr
  cases h
  exact den_ext FTA.ft (xOf FTA) (xOf_nil rfl)
 | cons x s =>
  simp only [List.map_cons]
  rw [den_ev FTA (fn := k_slices_Clone_Attr) rfl (xOf_cons rfl _ _) (Nat.le_of_ble_eq_true rfl)]
  simp only [SSA, RS, c_slices_Clone_Attr, k_slices_Clone_Attr, slices_Clone_Attr, reduceAdd, reduceSub, reduceMul, reduceLeDiff, reduceLT, reduceEqDiff, Nat.reduceBEq, ↓reduceIte, reduceCtorEq]
  refine Ok_prim fun a h => ?_
  simp only [SSA, RS, *, reduceAdd, reduceSub, reduceMul, reduceLeDiff, reduceLT, reduceEqDiff, Nat.reduceBEq, ↓reduceIte, reduceCtorEq]
  exact Ok_ret rfl
theorem G_impl_cloneNode : (∀ (n : GNode), Ok (impl_cloneNode n) e_impl_cloneNode (dn FTA n_impl_cloneNode [.agg (((GNode.row false) n).map .t)])) ∧
  (∀ (l : List GNode), Ok (impl_cloneNodes l) e_impl_cloneNodes (dn FTA n_impl_cloneNodes [.t (.sl false (l.map (GNode.row false)))])) ∧
  (∀ (out : List (GNode)) (l : List GNode) (x1 : Int), Ok (impl_cloneNodes_l8 out l x1) e_impl_cloneNodes (ev FTA c_impl_cloneNodes (.loop k_impl_cloneNodes_l8) [.lv 0, .th k_impl_cloneNodes_r4] (putS (List.replicate 19 .dead) [(3, .ref (16, 0) out.length), (6, .t (.sl false (l.map (GNode.row false)))), (7, .t (.v (.int .i64 (lenL l)))), (8, .t (.v (.int .i64 x1)))]) (putR (List.replicate 19 []) [(16, [.mem (out.map (GNode.row true)) 0 false])]))) := by
 unfold Ok
 refine impl_cloneNode.mutual_partial_correctness _ _ _ ?_ ?_ ?_
 ·intro F1 ih1 n
  show Ok _ _ _
  have ih1 : ∀ (l : List GNode), Ok (F1 l) _ _ := ih1
  rw [den_ev FTA (fn := k_impl_cloneNode) rfl (xN rfl rfl _) (lB rfl)]
  have k0 := @k_impl_cloneNode.eq_1; have g0 := slices_Clone_Decl_ok; have g1 := slices_Clone_Attr_ok; have g2 := ih1
  exact gs
 ·intro F2 ih2 l
  show Ok _ _ _
  have ih2 : ∀ (out : List (GNode)) (l : List GNode) (x1 : Int), Ok (F2 out l x1) _ _ := ih2
  rw [den_ev FTA (fn := k_impl_cloneNodes) rfl (xN rfl rfl _) (lB rfl)]
  have k0 := @k_impl_cloneNodes.eq_1; have t0 := ih2
  exact gs
 ·intro F0 F2 ih0 ih2 out l x1
  show Ok _ _ _
  have ih0 : ∀ (n : GNode), Ok (F0 n) _ _ := ih0
  have ih2 : ∀ (out : List (GNode)) (l : List GNode) (x1 : Int), Ok (F2 out l x1) _ _ := ih2
  rw [ev_loop]
  have k0 := @k_impl_cloneNodes_l8.eq_1; have k1 := @k_impl_cloneNodes_r4.eq_1; have g0 := ih0; have t0 := ih2
  exact gs
theorem impl_cloneNode_ok (n : GNode) : Ok (impl_cloneNode n) e_impl_cloneNode (dn FTA n_impl_cloneNode [.agg (((GNode.row false) n).map .t)]) := G_impl_cloneNode.1 n
theorem impl_cloneNodes_ok (l : List GNode) : Ok (impl_cloneNodes l) e_impl_cloneNodes (dn FTA n_impl_cloneNodes [.t (.sl false (l.map (GNode.row false)))]) := G_impl_cloneNode.2.1 l
end TT
