import Derived.Test.YtjnjaaimgdjcgaaGreatDoorTLLe
set_option maxHeartbeats 2000000
set_option linter.unusedVariables false
set_option linter.unusedSimpArgs false
set_option linter.defProp false
set_option maxRecDepth 100000
namespace TT
open Go
open Nat (reduceAdd reduceSub reduceMul reduceLeDiff reduceLT reduceEqDiff)
theorem strings_Compare_ok : ∀ (s : ByteArray) (t : ByteArray), Ok (strings_Compare s t) e_strings_Compare (dn FTA n_strings_Compare [.t (.v (.string s)), .t (.v (.string t))]) := by
 intro s t r hr
 exact den_ext FTA.ft (xOf FTA) (x_compare_ok s t (e := e_strings_Compare) (fun _ => rfl) hr)
theorem impl_compareAttrs_ok : ∀ (a : GAttr) (b : GAttr), Ok (impl_compareAttrs a b) e_impl_compareAttrs (dn FTA n_impl_compareAttrs [.agg ((GAttr.row a).map .t), .agg ((GAttr.row b).map .t)]) := by
 intro a b
 rw [den_ev FTA (fn := k_impl_compareAttrs) rfl (xN rfl rfl _) (lB rfl)]
 have k0 := @k_impl_compareAttrs.eq_1; have f0 := @impl_compareAttrs.eq_1; have g0 := strings_Compare_ok
 exact gs
theorem impl_attrsOk_l6_ok (l : List GAttr) : ∀ (x2 : Int), Ok (impl_attrsOk_l6 l x2) e_impl_attrsOk (ev FTA c_impl_attrsOk (.loop k_impl_attrsOk_l6) [.lv 0, .th k_impl_attrsOk_r2] (putS (List.replicate 33 .dead) [(0, .t (.sl false (l.map GAttr.row))), (5, .t (.sl false (l.map GAttr.row))), (6, .t (.v (.int .i64 (lenL l)))), (7, .t (.v (.int .i64 x2)))]) (putR (List.replicate 33 []) [])) := by
 unfold Ok
 refine impl_attrsOk_l6.partial_correctness l _ ?_
 intro F ih x2
 show Ok _ _ _
 have ih : ∀ (x2 : Int), Ok (F x2) _ _ := ih
 rw [ev_loop]
 have k0 := @k_impl_attrsOk_l6.eq_1; have k1 := @k_impl_attrsOk_r2.eq_1; have g0 := impl_attrOk_ok; have g1 := impl_compareAttrs_ok; have t0 := ih
 exact gs
theorem impl_attrsOk_ok : ∀ (l : List GAttr), Ok (impl_attrsOk l) e_impl_attrsOk (dn FTA n_impl_attrsOk [.t (.sl false (l.map GAttr.row))]) := by
 intro l
 rw [den_ev FTA (fn := k_impl_attrsOk) rfl (xN rfl rfl _) (lB rfl)]
 have k0 := @k_impl_attrsOk.eq_1; have f0 := @impl_attrsOk.eq_1; have t0 := impl_attrsOk_l6_ok
 exact gs
theorem impl_noTwoTexts_l6_ok (l : List GNode) : ∀ (x2 : Int), Ok (impl_noTwoTexts_l6 l x2) e_impl_noTwoTexts (ev FTA c_impl_noTwoTexts (.loop k_impl_noTwoTexts_l6) [.lv 0, .th k_impl_noTwoTexts_r2] (putS (List.replicate 29 .dead) [(0, .t (.sl false (l.map (GNode.row false)))), (5, .t (.sl false (l.map (GNode.row false)))), (6, .t (.v (.int .i64 (lenL l)))), (7, .t (.v (.int .i64 x2)))]) (putR (List.replicate 29 []) [])) := by
 unfold Ok
 refine impl_noTwoTexts_l6.partial_correctness l _ ?_
 intro F ih x2
 show Ok _ _ _
 have ih : ∀ (x2 : Int), Ok (F x2) _ _ := ih
 rw [ev_loop]
 have k0 := @k_impl_noTwoTexts_l6.eq_1; have k1 := @k_impl_noTwoTexts_r2.eq_1; have t0 := ih
 exact gs
theorem impl_noTwoTexts_ok : ∀ (l : List GNode), Ok (impl_noTwoTexts l) e_impl_noTwoTexts (dn FTA n_impl_noTwoTexts [.t (.sl false (l.map (GNode.row false)))]) := by
 intro l
 rw [den_ev FTA (fn := k_impl_noTwoTexts) rfl (xN rfl rfl _) (lB rfl)]
 have k0 := @k_impl_noTwoTexts.eq_1; have f0 := @impl_noTwoTexts.eq_1; have t0 := impl_noTwoTexts_l6_ok
 exact gs
theorem G_impl_kidsOk : (∀ (n : GNode) (deep : Int), Ok (impl_kidsOk n deep) e_impl_kidsOk (dn FTA n_impl_kidsOk [.agg (((GNode.row false) n).map .t), .t (.v (.int .i64 deep))])) ∧
  (∀ (s : List GNode) (fc0 : Int), Ok (slices_ContainsFunc_Node_kidsOk_1 s fc0) e_slices_ContainsFunc_Node_kidsOk_1 (dn FTA n_slices_ContainsFunc_Node [.t (.sl false (s.map (GNode.row false))), .fn n_impl_kidsOk_1 [.lp [.v (.int .i64 fc0)] 0]])) ∧
  (∀ (s : List GNode) (fc0 : Int), Ok (slices_IndexFunc_Node_kidsOk_1 s fc0) e_slices_IndexFunc_Node_kidsOk_1 (dn FTA n_slices_IndexFunc_Node [.t (.sl false (s.map (GNode.row false))), .fn n_impl_kidsOk_1 [.lp [.v (.int .i64 fc0)] 0]])) ∧
  (∀ (s : List GNode) (x1 : Int) (f : Int), Ok (slices_IndexFunc_Node_kidsOk_1_l6 s x1 f) e_slices_IndexFunc_Node_kidsOk_1 (ev FTA c_slices_IndexFunc_Node_kidsOk_1 (.loop k_slices_IndexFunc_Node_l6) [.lv 0, .th k_slices_IndexFunc_Node_r2] (putS (List.replicate 19 .dead) [(0, .t (.sl false (s.map (GNode.row false)))), (1, .fn n_impl_kidsOk_1 [.ptr (1, 0) [] 0 0 1 0]), (7, .t (.v (.int .i64 (lenL s)))), (8, .t (.v (.int .i64 x1)))]) (putR (List.replicate 19 []) [(1, [.mem [[.v (.int .i64 f)]] 0 true])]))) ∧
  (∀ (k : GNode) (a1 : Int), Ok (impl_kidsOk_1 k a1) e_impl_kidsOk_1 (dn FTA n_impl_kidsOk_1 [.agg (((GNode.row false) k).map .t), .lp [.v (.int .i64 a1)] 0])) ∧
  (∀ (n : GNode) (deep : Int), Ok (impl_partOk n deep) e_impl_partOk (dn FTA n_impl_partOk [.agg (((GNode.row false) n).map .t), .t (.v (.int .i64 deep))])) := by
 unfold Ok
 refine impl_kidsOk.mutual_partial_correctness _ _ _ _ _ _ ?_ ?_ ?_ ?_ ?_ ?_
 ·intro F1 ih1 n deep
  show Ok _ _ _
  have ih1 : ∀ (s : List GNode) (fc0 : Int), Ok (F1 s fc0) _ _ := ih1
  rw [den_ev FTA (fn := k_impl_kidsOk) rfl (xN rfl rfl _) (lB rfl)]
  have k0 := @k_impl_kidsOk.eq_1; have g0 := impl_noTwoTexts_ok; have g1 := ih1
  exact gs
 ·intro F2 ih2 s fc0
  show Ok _ _ _
  have ih2 : ∀ (s : List GNode) (fc0 : Int), Ok (F2 s fc0) _ _ := ih2
  rw [den_ev FTA (fn := k_slices_ContainsFunc_Node) rfl (xN rfl rfl _) (lB rfl)]
  have k0 := @k_slices_ContainsFunc_Node.eq_1; have g0 := ih2
  exact gs
 ·intro F3 ih3 s fc0
  show Ok _ _ _
  have ih3 : ∀ (s : List GNode) (x1 : Int) (f : Int), Ok (F3 s x1 f) _ _ := ih3
  rw [den_ev FTA (fn := k_slices_IndexFunc_Node) rfl (xN rfl rfl _) (lB rfl)]
  have k0 := @k_slices_IndexFunc_Node.eq_1; have t0 := ih3
  exact gs
 ·intro F3 F4 ih3 ih4 s x1 f
  show Ok _ _ _
  have ih4 : ∀ (k : GNode) (a1 : Int), Ok (F4 k a1) _ _ := ih4
  have ih3 : ∀ (s : List GNode) (x1 : Int) (f : Int), Ok (F3 s x1 f) _ _ := ih3
  rw [ev_loop]
  have k0 := @k_slices_IndexFunc_Node_l6.eq_1; have k1 := @k_slices_IndexFunc_Node_r2.eq_1; have g0 := ih4; have t0 := ih3
  exact gs
 ·intro F5 ih5 k a1
  show Ok _ _ _
  have ih5 : ∀ (n : GNode) (deep : Int), Ok (F5 n deep) _ _ := ih5
  rw [den_ev FTA (fn := k_impl_kidsOk_1) rfl (xN rfl rfl _) (lB rfl)]
  have k0 := @k_impl_kidsOk_1.eq_1; have g0 := ih5
  exact gs
 ·intro F0 ih0 n deep
  show Ok _ _ _
  have ih0 : ∀ (n : GNode) (deep : Int), Ok (F0 n deep) _ _ := ih0
  rw [den_ev FTA (fn := k_impl_partOk) rfl (xN rfl rfl _) (lB rfl)]
  have k0 := @k_impl_partOk.eq_1; have g0 := impl_leafOk_ok; have g1 := impl_preOk_ok; have g2 := impl_uriOk_ok; have g3 := impl_PlainOk_ok; have g4 := impl_DeclsOk_ok; have g5 := impl_attrsOk_ok; have g6 := ih0
  exact gs
theorem impl_kidsOk_ok (n : GNode) (deep : Int) : Ok (impl_kidsOk n deep) e_impl_kidsOk (dn FTA n_impl_kidsOk [.agg (((GNode.row false) n).map .t), .t (.v (.int .i64 deep))]) := G_impl_kidsOk.1 n deep
theorem slices_ContainsFunc_Node_kidsOk_1_ok (s : List GNode) (fc0 : Int) : Ok (slices_ContainsFunc_Node_kidsOk_1 s fc0) e_slices_ContainsFunc_Node_kidsOk_1 (dn FTA n_slices_ContainsFunc_Node [.t (.sl false (s.map (GNode.row false))), .fn n_impl_kidsOk_1 [.lp [.v (.int .i64 fc0)] 0]]) := G_impl_kidsOk.2.1 s fc0
theorem slices_IndexFunc_Node_kidsOk_1_ok (s : List GNode) (fc0 : Int) : Ok (slices_IndexFunc_Node_kidsOk_1 s fc0) e_slices_IndexFunc_Node_kidsOk_1 (dn FTA n_slices_IndexFunc_Node [.t (.sl false (s.map (GNode.row false))), .fn n_impl_kidsOk_1 [.lp [.v (.int .i64 fc0)] 0]]) := G_impl_kidsOk.2.2.1 s fc0
theorem impl_kidsOk_1_ok (k : GNode) (a1 : Int) : Ok (impl_kidsOk_1 k a1) e_impl_kidsOk_1 (dn FTA n_impl_kidsOk_1 [.agg (((GNode.row false) k).map .t), .lp [.v (.int .i64 a1)] 0]) := G_impl_kidsOk.2.2.2.2.1 k a1
theorem impl_partOk_ok (n : GNode) (deep : Int) : Ok (impl_partOk n deep) e_impl_partOk (dn FTA n_impl_partOk [.agg (((GNode.row false) n).map .t), .t (.v (.int .i64 deep))]) := G_impl_kidsOk.2.2.2.2.2 n deep
theorem impl_ofKind_l8_ok (kind : Int) (l : List GNode) : ∀ (n : Int) (x1 : Int), Ok (impl_ofKind_l8 kind n l x1) e_impl_ofKind (ev FTA c_impl_ofKind (.loop k_impl_ofKind_l8) [.lv 0, .th k_impl_ofKind_r4] (putS (List.replicate 22 .dead) [(1, .t (.v (.int .i64 kind))), (5, .t (.v (.int .i64 n))), (8, .t (.sl false (l.map (GNode.row false)))), (9, .t (.v (.int .i64 (lenL l)))), (10, .t (.v (.int .i64 x1)))]) (putR (List.replicate 22 []) [])) := by
 unfold Ok
 refine impl_ofKind_l8.partial_correctness kind l _ ?_
 intro F ih n x1
 show Ok _ _ _
 have ih : ∀ (n : Int) (x1 : Int), Ok (F n x1) _ _ := ih
 rw [ev_loop]
 have k0 := @k_impl_ofKind_l8.eq_1; have k1 := @k_impl_ofKind_r4.eq_1; have t0 := ih
 exact gs
theorem impl_ofKind_ok : ∀ (l : List GNode) (kind : Int), Ok (impl_ofKind l kind) e_impl_ofKind (dn FTA n_impl_ofKind [.t (.sl false (l.map (GNode.row false))), .t (.v (.int .i64 kind))]) := by
 intro l kind
 rw [den_ev FTA (fn := k_impl_ofKind) rfl (xN rfl rfl _) (lB rfl)]
 have k0 := @k_impl_ofKind.eq_1; have f0 := @impl_ofKind.eq_1; have t0 := impl_ofKind_l8_ok
 exact gs
theorem impl_NodeOk_j18_ok : ∀ (bare : Bool) (n : GNode), Ok (impl_NodeOk_j18 bare n) e_impl_NodeOk (ev FTA c_impl_NodeOk k_impl_NodeOk_r18 [] (putS (List.replicate 59 .dead) [(1, .ptr (1, 0) [] 0 0 1 0), (3, .t (.v (.bool bare)))]) (putR (List.replicate 59 []) [(1, [.mem [[.v (.int .i64 n.Kind), .v (.string n.Pre), .v (.string n.Local), .v (.string n.Uri), .sl false (n.Decls.map GDecl.row), .sl false (n.Attrs.map GAttr.row), .sl false (n.Kids.map (GNode.row false)), .v (.string n.Text)]] 0 false])])) := by
 intro bare n
 have k0 := @k_impl_NodeOk_r18.eq_1; have f0 := @impl_NodeOk_j18.eq_1; have g0 := impl_ofKind_ok; have g1 := impl_kidsOk_ok
 exact gs
theorem impl_NodeOk_ok : ∀ (n : GNode), Ok (impl_NodeOk n) e_impl_NodeOk (dn FTA n_impl_NodeOk [.agg (((GNode.row false) n).map .t)]) := by
 intro n
 rw [den_ev FTA (fn := k_impl_NodeOk) rfl (xN rfl rfl _) (lB rfl)]
 have k0 := @k_impl_NodeOk.eq_1; have f0 := @impl_NodeOk.eq_1; have g0 := impl_CountOf_ok; have g1 := impl_partOk_ok; have t0 := impl_NodeOk_j18_ok
 exact gs
theorem impl_FitsIn_ok : ∀ (n : GNode) (l : List (GDecl)), Ok (impl_FitsIn n l) e_impl_FitsIn (dn FTA n_impl_FitsIn [.agg (((GNode.row false) n).map .t), .t (.sl false (l.map GDecl.row))]) := by
 intro n l r hr
 refine den_ext FTA.ft (xOf FTA) ?_
 have hp : ∀ k : List (GDecl), pairsOf (k.map GDecl.row) = some (k.map fun x => (x.Pre, x.Uri)) := fun k => by
  induction k with
  | nil => rfl
  | cons x k ih => show (pairsOf (k.map GDecl.row)).map _ = _; rw [ih]; rfl
 show x_fits [.agg (((GNode.row false) n).map .t), .t (.sl false (l.map GDecl.row))] = some ⟨[.t (.v (.bool r))], []⟩
 have hr' : fitsR ((GNode.row false) n) (l.map fun x => (x.Pre, x.Uri)) = some r := hr
 rw [x_fits, argTs_map, hp]
 simp only [hr', Option.map_some]
theorem impl_TreeOk_ok : ∀ (n : GNode), Ok (impl_TreeOk n) e_impl_TreeOk (dn FTA n_impl_TreeOk [.agg (((GNode.row false) n).map .t)]) := by
 intro n
 rw [den_ev FTA (fn := k_impl_TreeOk) rfl (xN rfl rfl _) (lB rfl)]
 have k0 := @k_impl_TreeOk.eq_1; have f0 := @impl_TreeOk.eq_1; have g0 := impl_NodeOk_ok; have g1 := impl_FitsIn_ok
 exact gs
theorem impl_WalkOk_ok : ∀ (w : GWalk), Ok (impl_WalkOk w) e_impl_WalkOk (dn FTA n_impl_WalkOk [.agg (((GWalk.row false) w).map .t)]) := by
 intro w
 rw [den_ev FTA (fn := k_impl_WalkOk) rfl (xN rfl rfl _) (lB rfl)]
 have k0 := @k_impl_WalkOk.eq_1; have f0 := @impl_WalkOk.eq_1; have g0 := impl_NodeAt_ok; have g1 := impl_TreeOk_ok
 exact gs
theorem impl_Here_ok : ∀ (w : GWalk), Ok (impl_Here w) e_impl_Here (dn FTA n_impl_Here [.agg (((GWalk.row false) w).map .t)]) := by
 intro w
 rw [den_ev FTA (fn := k_impl_Here) rfl (xN rfl rfl _) (lB rfl)]
 have k0 := @k_impl_Here.eq_1; have f0 := @impl_Here.eq_1; have g0 := impl_WalkOk_ok; have g1 := impl_NodeAt_ok
 exact gs
theorem slices_Concat_Node_ok : ∀ (s : List (List (GNode))), Ok (slices_Concat_Node s) e_slices_Concat_Node (dn FTA n_slices_Concat_Node [.t (.sl false (s.map (rL false (GNode.row false))))]) := by
 intro s r hr
 unfold slices_Concat_Node at hr
 split at hr
 ·rename_i l m q
  split at hr
  ·rename_i h
   cases hr
   refine den_ext FTA.ft (xOf FTA) ?_
   have hl : ∀ k : List (GNode), ∀ row ∈ k.map (GNode.row false), row.length = 8 := fun k row hrow => by obtain ⟨x, _, rfl⟩ := List.mem_map.1 hrow; first | rfl | (cases x <;> rfl)
   show x_concat3 8 144 [.t (.sl false [[.sl false (l.map (GNode.row false))], [.sl false (m.map (GNode.row false))], [.sl false (q.map (GNode.row false))]])] = some ⟨[.t (.sl true ((l ++ m ++ q).map (GNode.row false)))], []⟩
   rw [x_concat3, if_pos ⟨⟨hl l, hl m, hl q⟩, by simpa using h⟩, List.map_append, List.map_append]
  ·cases hr
 ·cases hr
theorem G_impl_Merge_j22 (l : List GNode) : (∀ (out : List (GNode)) (x7 : Int) (x9 : Bool) (x8 : GNode), Ok (impl_Merge_j22 out l x7 x9 x8) e_impl_Merge (ev FTA c_impl_Merge k_impl_Merge_r22 [.lv 2, .lv 1, .th k_impl_Merge_r15, .hk [.clean [5, 17, 18]], .th (.loop k_impl_Merge_l8), .lv 0, .th k_impl_Merge_r4] (putS (List.replicate 59 .dead) [(3, .ref (19, 0) out.length), (5, .ptr (5, 0) [] 0 0 1 0), (6, .t (.v (.int .i64 (lenL out)))), (7, .t (.sl false (l.map (GNode.row false)))), (8, .t (.v (.int .i64 (lenL l)))), (9, .t (.v (.int .i64 x7))), (20, .t (.v (.bool x9)))]) (putR (List.replicate 59 []) [(5, [.mem [[.v (.int .i64 x8.Kind), .v (.string x8.Pre), .v (.string x8.Local), .v (.string x8.Uri), .sl false (x8.Decls.map GDecl.row), .sl false (x8.Attrs.map GAttr.row), .sl false (x8.Kids.map (GNode.row false)), .v (.string x8.Text)]] 0 false]), (19, [.mem (out.map (GNode.row true)) 0 false])]))) ∧
  (∀ (out : List (GNode)) (x7 : Int) (x11 : Bool) (x8 : GNode), Ok (impl_Merge_j26 out l x7 x11 x8) e_impl_Merge (ev FTA c_impl_Merge k_impl_Merge_r26 [.lv 2, .lv 1, .th k_impl_Merge_r15, .hk [.clean [5, 17, 18]], .th (.loop k_impl_Merge_l8), .lv 0, .th k_impl_Merge_r4] (putS (List.replicate 59 .dead) [(3, .ref (19, 0) out.length), (5, .ptr (5, 0) [] 0 0 1 0), (6, .t (.v (.int .i64 (lenL out)))), (7, .t (.sl false (l.map (GNode.row false)))), (8, .t (.v (.int .i64 (lenL l)))), (9, .t (.v (.int .i64 x7))), (29, .t (.v (.bool x11)))]) (putR (List.replicate 59 []) [(5, [.mem [[.v (.int .i64 x8.Kind), .v (.string x8.Pre), .v (.string x8.Local), .v (.string x8.Uri), .sl false (x8.Decls.map GDecl.row), .sl false (x8.Attrs.map GAttr.row), .sl false (x8.Kids.map (GNode.row false)), .v (.string x8.Text)]] 0 false]), (19, [.mem (out.map (GNode.row true)) 0 false])]))) ∧
  (∀ (out : List (GNode)) (x7 : Int), Ok (impl_Merge_l8 out l x7) e_impl_Merge (ev FTA c_impl_Merge (.loop k_impl_Merge_l8) [.lv 0, .th k_impl_Merge_r4] (putS (List.replicate 59 .dead) [(3, .ref (19, 0) out.length), (7, .t (.sl false (l.map (GNode.row false)))), (8, .t (.v (.int .i64 (lenL l)))), (9, .t (.v (.int .i64 x7)))]) (putR (List.replicate 59 []) [(19, [.mem (out.map (GNode.row true)) 0 false])]))) := by
 unfold Ok
 refine impl_Merge_j22.mutual_partial_correctness l _ _ _ ?_ ?_ ?_
 ·intro F1 F2 ih1 ih2 out x7 x9 x8
  show Ok _ _ _
  have ih2 : ∀ (out : List (GNode)) (x7 : Int), Ok (F2 out x7) _ _ := ih2
  have ih1 : ∀ (out : List (GNode)) (x7 : Int) (x11 : Bool) (x8 : GNode), Ok (F1 out x7 x11 x8) _ _ := ih1
  have k0 := @k_impl_Merge_r22.eq_1; have k1 := @k_impl_Merge_r15.eq_1; have t0 := ih2; have t1 := ih1
  exact gs
 ·intro F2 ih2 out x7 x11 x8
  show Ok _ _ _
  have ih2 : ∀ (out : List (GNode)) (x7 : Int), Ok (F2 out x7) _ _ := ih2
  have k0 := @k_impl_Merge_r26.eq_1; have k1 := @k_impl_Merge_r15.eq_1; have g0 := impl_cloneNode_ok; have t0 := ih2
  exact gs
 ·intro F0 ih0 out x7
  show Ok _ _ _
  have ih0 : ∀ (out : List (GNode)) (x7 : Int) (x9 : Bool) (x8 : GNode), Ok (F0 out x7 x9 x8) _ _ := ih0
  rw [ev_loop]
  have k0 := @k_impl_Merge_l8.eq_1; have k1 := @k_impl_Merge_r4.eq_1; have t0 := ih0
  exact gs
theorem impl_Merge_ok : ∀ (l : List GNode), Ok (impl_Merge l) e_impl_Merge (dn FTA n_impl_Merge [.t (.sl false (l.map (GNode.row false)))]) := by
 intro l
 rw [den_ev FTA (fn := k_impl_Merge) rfl (xN rfl rfl _) (lB rfl)]
 have k0 := @k_impl_Merge.eq_1; have f0 := @impl_Merge.eq_1; have t0 := fun a0 => (G_impl_Merge_j22 a0).2.2
 exact gs
theorem impl_spliced_ok : ∀ (l : List GNode) (from1 : Int) (to1 : Int) (more : List GNode), Ok (impl_spliced l from1 to1 more) e_impl_spliced (dn FTA n_impl_spliced [.t (.sl false (l.map (GNode.row false))), .t (.v (.int .i64 from1)), .t (.v (.int .i64 to1)), .t (.sl false (more.map (GNode.row false)))]) := by
 intro l from1 to1 more
 rw [den_ev FTA (fn := k_impl_spliced) rfl (xN rfl rfl _) (lB rfl)]
 have k0 := @k_impl_spliced.eq_1; have f0 := @impl_spliced.eq_1; have g0 := slices_Concat_Node_ok; have g1 := impl_Merge_ok
 exact gs
theorem impl_PutAt_1_PP'_ok : ∀ (a0 : GNode) (a1 : Int) (a2 : List GNode), Ok (impl_PutAt_1_PP' a0 a1 a2) e_impl_PutAt_1_PP' (dn FTA n_impl_PutAt_1 [.agg [.t (.v (.int .i64 a0.Kind)), .t (.v (.string a0.Pre)), .t (.v (.string a0.Local)), .t (.v (.string a0.Uri)), .ln (a0.Decls.map GDecl.row), .ln (a0.Attrs.map GAttr.row), .ln (a0.Kids.map (GNode.row true)), .t (.v (.string a0.Text))], .pp [.v (.int .i64 a1)], .pp [.sl false (a2.map (GNode.row false))]]) := by
 intro a0 a1 a2
 rw [den_ev FTA (fn := k_impl_PutAt_1) rfl (xN rfl rfl _) (lB rfl)]
 have k0 := @k_impl_PutAt_1.eq_1; have f0 := @impl_PutAt_1_PP'.eq_1; have g0 := impl_spliced_ok
 exact gs
end TT
