import Derived.Test.YtdpdfjkjlkmjaaaTLLc
set_option maxHeartbeats 2000000
set_option linter.unusedVariables false
set_option linter.unusedSimpArgs false
set_option linter.defProp false
set_option maxRecDepth 100000
namespace TT
open Go
open Nat (reduceAdd reduceSub reduceMul reduceLeDiff reduceLT reduceEqDiff)
theorem slices_Clone_Decl_ok : ∀ (s : List (GDecl)), Ok (slices_Clone_Decl s) e_slices_Clone_Decl (dn FTA n_slices_Clone_Decl [.t (.sl false (s.map GDecl.row))]) := by
 intro s
 cases s with
 | nil =>
  intro r hr
  unfold slices_Clone_Decl at hr
  obtain ⟨_, _, h⟩ := Option.bind_eq_some_iff.1 hr
  cases h
  exact den_ext FTA.ft (xOf FTA) (xOf_nil rfl)
 | cons x s =>
  simp only [List.map_cons]
  rw [den_ev FTA (fn := k_slices_Clone_Decl) rfl (xOf_cons rfl _ _) (Nat.le_of_ble_eq_true rfl)]
  simp only [SSA, RS, c_slices_Clone_Decl, k_slices_Clone_Decl, slices_Clone_Decl, reduceAdd, reduceSub, reduceMul, reduceLeDiff, reduceLT, reduceEqDiff, Nat.reduceBEq, ↓reduceIte, reduceCtorEq]
  refine Ok_prim fun a h => ?_
  simp only [SSA, RS, *, reduceAdd, reduceSub, reduceMul, reduceLeDiff, reduceLT, reduceEqDiff, Nat.reduceBEq, ↓reduceIte, reduceCtorEq]
  exact Ok_ret rfl
theorem slices_Clone_Attr_ok : ∀ (s : List (GAttr)), Ok (slices_Clone_Attr s) e_slices_Clone_Attr (dn FTA n_slices_Clone_Attr [.t (.sl false (s.map GAttr.row))]) := by
 intro s
 cases s with
 | nil =>
  intro r hr
  unfold slices_Clone_Attr at hr
  obtain ⟨_, _, h⟩ := Option.bind_eq_some_iff.1 hr
  cases h
  exact den_ext FTA.ft (xOf FTA) (xOf_nil rfl)
 | cons x s =>
  simp only [List.map_cons]
  rw [den_ev FTA (fn := k_slices_Clone_Attr) rfl (xOf_cons rfl _ _) (Nat.le_of_ble_eq_true rfl)]
  simp only [SSA, RS, c_slices_Clone_Attr, k_slices_Clone_Attr, slices_Clone_Attr, reduceAdd, reduceSub, reduceMul, reduceLeDiff, reduceLT, reduceEqDiff, Nat.reduceBEq, ↓reduceIte, reduceCtorEq]
  refine Ok_prim fun a h => ?_
  simp only [SSA, RS, *, reduceAdd, reduceSub, reduceMul, reduceLeDiff, reduceLT, reduceEqDiff, Nat.reduceBEq, ↓reduceIte, reduceCtorEq]
  exact Ok_ret rfl
theorem G_impl_cloneNode : (∀ (n : GNode), Ok (impl_cloneNode n) e_impl_cloneNode (dn FTA n_impl_cloneNode [.agg (((GNode.row false) n).map .t)])) ∧
  (∀ (l : List GNode), Ok (impl_cloneNodes l) e_impl_cloneNodes (dn FTA n_impl_cloneNodes [.t (.sl false (l.map (GNode.row false)))])) ∧
  (∀ (out : List (GNode)) (l : List GNode) (x1 : Int), Ok (impl_cloneNodes_l8 out l x1) e_impl_cloneNodes (ev FTA c_impl_cloneNodes (.loop k_impl_cloneNodes_l8) [.lv 0, .th k_impl_cloneNodes_r4] (putS (List.replicate 19 .dead) [(3, .ref (16, 0) out.length), (6, .t (.sl false (l.map (GNode.row false)))), (7, .t (.v (.int .i64 (lenL l)))), (8, .t (.v (.int .i64 x1)))]) (putR (List.replicate 19 []) [(16, [.mem (out.map (GNode.row true)) 0 false])]))) := by
 unfold Ok
 refine impl_cloneNode.mutual_partial_correctness _ _ _ ?_ ?_ ?_
 ·intro F1 ih1 n
  show Ok _ _ _
  have ih1 : ∀ (l : List GNode), Ok (F1 l) _ _ := ih1
  rw [den_ev FTA (fn := k_impl_cloneNode) rfl (xN rfl rfl _) (lB rfl)]
  have k0 := @k_impl_cloneNode.eq_1; have g0 := slices_Clone_Decl_ok; have g1 := slices_Clone_Attr_ok; have g2 := ih1
  exact gs
 ·intro F2 ih2 l
  show Ok _ _ _
  have ih2 : ∀ (out : List (GNode)) (l : List GNode) (x1 : Int), Ok (F2 out l x1) _ _ := ih2
  rw [den_ev FTA (fn := k_impl_cloneNodes) rfl (xN rfl rfl _) (lB rfl)]
  have k0 := @k_impl_cloneNodes.eq_1; have t0 := ih2
  exact gs
 ·intro F0 F2 ih0 ih2 out l x1
  show Ok _ _ _
  have ih0 : ∀ (n : GNode), Ok (F0 n) _ _ := ih0
  have ih2 : ∀ (out : List (GNode)) (l : List GNode) (x1 : Int), Ok (F2 out l x1) _ _ := ih2
  rw [ev_loop]
  have k0 := @k_impl_cloneNodes_l8.eq_1; have k1 := @k_impl_cloneNodes_r4.eq_1; have g0 := ih0; have t0 := ih2
  exact gs
theorem impl_cloneNode_ok (n : GNode) : Ok (impl_cloneNode n) e_impl_cloneNode (dn FTA n_impl_cloneNode [.agg (((GNode.row false) n).map .t)]) := G_impl_cloneNode.1 n
theorem impl_cloneNodes_ok (l : List GNode) : Ok (impl_cloneNodes l) e_impl_cloneNodes (dn FTA n_impl_cloneNodes [.t (.sl false (l.map (GNode.row false)))]) := G_impl_cloneNode.2.1 l
theorem impl_NodeAt_l6_ok (path : List Int) : ∀ (x2 : Int) (n1 : GNode), Ok (impl_NodeAt_l6 path x2 n1) e_impl_NodeAt (ev FTA c_impl_NodeAt (.loop k_impl_NodeAt_l6) [.lv 0, .th k_impl_NodeAt_r2] (putS (List.replicate 30 .dead) [(2, .ptr (2, 0) [] 0 0 1 0), (4, .ptr (4, 0) [] 0 0 1 0), (8, .t (.sl false (path.map rI))), (9, .t (.v (.int .i64 (lenL path)))), (10, .t (.v (.int .i64 x2)))]) (putR (List.replicate 30 []) [(2, [.mem [[.v (.int .i64 n1.Kind), .v (.string n1.Pre), .v (.string n1.Local), .v (.string n1.Uri), .sl false (n1.Decls.map GDecl.row), .sl false (n1.Attrs.map GAttr.row), .sl false (n1.Kids.map (GNode.row false)), .v (.string n1.Text)]] 0 false]), (4, [.mem [[.v (.int .i64 0), .v (.string (⟨#[]⟩)), .v (.string (⟨#[]⟩)), .v (.string (⟨#[]⟩)), .sl true [], .sl true [], .sl true [], .v (.string (⟨#[]⟩))]] 0 false])])) := by
 unfold Ok
 refine impl_NodeAt_l6.partial_correctness path _ ?_
 intro F ih x2 n1
 show Ok _ _ _
 have ih : ∀ (x2 : Int) (n1 : GNode), Ok (F x2 n1) _ _ := ih
 rw [ev_loop]
 have k0 := @k_impl_NodeAt_l6.eq_1; have k1 := @k_impl_NodeAt_r2.eq_1; have g0 := impl_in_ok; have g1 := impl_cloneNode_ok; have t0 := ih
 exact gs
theorem impl_NodeAt_ok : ∀ (n : GNode) (path : List Int), Ok (impl_NodeAt n path) e_impl_NodeAt (dn FTA n_impl_NodeAt [.agg (((GNode.row false) n).map .t), .t (.sl false (path.map rI))]) := by
 intro n path
 rw [den_ev FTA (fn := k_impl_NodeAt) rfl (xN rfl rfl _) (lB rfl)]
 have k0 := @k_impl_NodeAt.eq_1; have f0 := @impl_NodeAt.eq_1; have t0 := impl_NodeAt_l6_ok
 exact gs
theorem slices_Concat_Node_ok : ∀ (s : List (List (GNode))), Ok (slices_Concat_Node s) e_slices_Concat_Node (dn FTA n_slices_Concat_Node [.t (.sl false (s.map (rL false (GNode.row false))))]) := by
 intro s r hr
 unfold slices_Concat_Node at hr
 split at hr
 ·rename_i l m q
  split at hr
  ·rename_i h
   cases hr
   refine den_ext FTA.ft (xOf FTA) ?_
   have hl : ∀ k : List (GNode), ∀ row ∈ k.map (GNode.row false), row.length = 8 := fun k row hrow => by obtain ⟨x, _, rfl⟩ := List.mem_map.1 hrow; first | rfl | (cases x <;> rfl)
   show x_concat3 8 144 [.t (.sl false [[.sl false (l.map (GNode.row false))], [.sl false (m.map (GNode.row false))], [.sl false (q.map (GNode.row false))]])] = some ⟨[.t (.sl true ((l ++ m ++ q).map (GNode.row false)))], []⟩
   rw [x_concat3, if_pos ⟨⟨hl l, hl m, hl q⟩, by simpa using h⟩, List.map_append, List.map_append]
  ·cases hr
 ·cases hr
theorem G_impl_Merge_j22 (l : List GNode) : (∀ (out : List (GNode)) (x7 : Int) (x9 : Bool) (x8 : GNode), Ok (impl_Merge_j22 out l x7 x9 x8) e_impl_Merge (ev FTA c_impl_Merge k_impl_Merge_r22 [.lv 2, .lv 1, .th k_impl_Merge_r15, .hk [.clean [5, 17, 18]], .th (.loop k_impl_Merge_l8), .lv 0, .th k_impl_Merge_r4] (putS (List.replicate 59 .dead) [(3, .ref (19, 0) out.length), (5, .ptr (5, 0) [] 0 0 1 0), (6, .t (.v (.int .i64 (lenL out)))), (7, .t (.sl false (l.map (GNode.row false)))), (8, .t (.v (.int .i64 (lenL l)))), (9, .t (.v (.int .i64 x7))), (20, .t (.v (.bool x9)))]) (putR (List.replicate 59 []) [(5, [.mem [[.v (.int .i64 x8.Kind), .v (.string x8.Pre), .v (.string x8.Local), .v (.string x8.Uri), .sl false (x8.Decls.map GDecl.row), .sl false (x8.Attrs.map GAttr.row), .sl false (x8.Kids.map (GNode.row false)), .v (.string x8.Text)]] 0 false]), (19, [.mem (out.map (GNode.row true)) 0 false])]))) ∧
  (∀ (out : List (GNode)) (x7 : Int) (x11 : Bool) (x8 : GNode), Ok (impl_Merge_j26 out l x7 x11 x8) e_impl_Merge (ev FTA c_impl_Merge k_impl_Merge_r26 [.lv 2, .lv 1, .th k_impl_Merge_r15, .hk [.clean [5, 17, 18]], .th (.loop k_impl_Merge_l8), .lv 0, .th k_impl_Merge_r4] (putS (List.replicate 59 .dead) [(3, .ref (19, 0) out.length), (5, .ptr (5, 0) [] 0 0 1 0), (6, .t (.v (.int .i64 (lenL out)))), (7, .t (.sl false (l.map (GNode.row false)))), (8, .t (.v (.int .i64 (lenL l)))), (9, .t (.v (.int .i64 x7))), (29, .t (.v (.bool x11)))]) (putR (List.replicate 59 []) [(5, [.mem [[.v (.int .i64 x8.Kind), .v (.string x8.Pre), .v (.string x8.Local), .v (.string x8.Uri), .sl false (x8.Decls.map GDecl.row), .sl false (x8.Attrs.map GAttr.row), .sl false (x8.Kids.map (GNode.row false)), .v (.string x8.Text)]] 0 false]), (19, [.mem (out.map (GNode.row true)) 0 false])]))) ∧
  (∀ (out : List (GNode)) (x7 : Int), Ok (impl_Merge_l8 out l x7) e_impl_Merge (ev FTA c_impl_Merge (.loop k_impl_Merge_l8) [.lv 0, .th k_impl_Merge_r4] (putS (List.replicate 59 .dead) [(3, .ref (19, 0) out.length), (7, .t (.sl false (l.map (GNode.row false)))), (8, .t (.v (.int .i64 (lenL l)))), (9, .t (.v (.int .i64 x7)))]) (putR (List.replicate 59 []) [(19, [.mem (out.map (GNode.row true)) 0 false])]))) := by
 unfold Ok
 refine impl_Merge_j22.mutual_partial_correctness l _ _ _ ?_ ?_ ?_
 ·intro F1 F2 ih1 ih2 out x7 x9 x8
  show Ok _ _ _
  have ih2 : ∀ (out : List (GNode)) (x7 : Int), Ok (F2 out x7) _ _ := ih2
  have ih1 : ∀ (out : List (GNode)) (x7 : Int) (x11 : Bool) (x8 : GNode), Ok (F1 out x7 x11 x8) _ _ := ih1
  have k0 := @k_impl_Merge_r22.eq_1; have k1 := @k_impl_Merge_r15.eq_1; have t0 := ih2; have t1 := ih1
  exact gs
 ·intro F2 ih2 out x7 x11 x8
  show Ok _ _ _
  have ih2 : ∀ (out : List (GNode)) (x7 : Int), Ok (F2 out x7) _ _ := ih2
  have k0 := @k_impl_Merge_r26.eq_1; have k1 := @k_impl_Merge_r15.eq_1; have g0 := impl_cloneNode_ok; have t0 := ih2
  exact gs
 ·intro F0 ih0 out x7
  show Ok _ _ _
  have ih0 : ∀ (out : List (GNode)) (x7 : Int) (x9 : Bool) (x8 : GNode), Ok (F0 out x7 x9 x8) _ _ := ih0
  rw [ev_loop]
  have k0 := @k_impl_Merge_l8.eq_1; have k1 := @k_impl_Merge_r4.eq_1; have t0 := ih0
  exact gs
theorem impl_Merge_ok : ∀ (l : List GNode), Ok (impl_Merge l) e_impl_Merge (dn FTA n_impl_Merge [.t (.sl false (l.map (GNode.row false)))]) := by
 intro l
 rw [den_ev FTA (fn := k_impl_Merge) rfl (xN rfl rfl _) (lB rfl)]
 have k0 := @k_impl_Merge.eq_1; have f0 := @impl_Merge.eq_1; have t0 := fun a0 => (G_impl_Merge_j22 a0).2.2
 exact gs
theorem impl_spliced_ok : ∀ (l : List GNode) (from1 : Int) (to1 : Int) (more : List GNode), Ok (impl_spliced l from1 to1 more) e_impl_spliced (dn FTA n_impl_spliced [.t (.sl false (l.map (GNode.row false))), .t (.v (.int .i64 from1)), .t (.v (.int .i64 to1)), .t (.sl false (more.map (GNode.row false)))]) := by
 intro l from1 to1 more
 rw [den_ev FTA (fn := k_impl_spliced) rfl (xN rfl rfl _) (lB rfl)]
 have k0 := @k_impl_spliced.eq_1; have f0 := @impl_spliced.eq_1; have g0 := slices_Concat_Node_ok; have g1 := impl_Merge_ok
 exact gs
theorem impl_PutAt_1_PP'_ok : ∀ (a0 : GNode) (a1 : Int) (a2 : List GNode), Ok (impl_PutAt_1_PP' a0 a1 a2) e_impl_PutAt_1_PP' (dn FTA n_impl_PutAt_1 [.agg [.t (.v (.int .i64 a0.Kind)), .t (.v (.string a0.Pre)), .t (.v (.string a0.Local)), .t (.v (.string a0.Uri)), .ln (a0.Decls.map GDecl.row), .ln (a0.Attrs.map GAttr.row), .ln (a0.Kids.map (GNode.row true)), .t (.v (.string a0.Text))], .pp [.v (.int .i64 a1)], .pp [.sl false (a2.map (GNode.row false))]]) := by
 intro a0 a1 a2
 rw [den_ev FTA (fn := k_impl_PutAt_1) rfl (xN rfl rfl _) (lB rfl)]
 have k0 := @k_impl_PutAt_1.eq_1; have f0 := @impl_PutAt_1_PP'.eq_1; have g0 := impl_spliced_ok
 exact gs
theorem impl_turnedAt_PutAt_1_ok (turnc0 : Int) (turnc1 : List GNode) : ∀ (n : GNode) (path : List Int), Ok (impl_turnedAt_PutAt_1 n path turnc0 turnc1) e_impl_turnedAt_PutAt_1 (dn FTA n_impl_turnedAt [.agg (((GNode.row false) n).map .t), .t (.sl false (path.map rI)), .fn n_impl_PutAt_1 [.pp [.v (.int .i64 turnc0)], .pp [.sl false (turnc1.map (GNode.row false))]]]) := by
 unfold Ok
 refine impl_turnedAt_PutAt_1.partial_correctness turnc0 turnc1 _ ?_
 intro F ih n path
 show Ok _ _ _
 have ih : ∀ (n : GNode) (path : List Int), Ok (F n path) _ _ := ih
 rw [den_ev FTA (fn := k_impl_turnedAt) rfl (xN rfl rfl _) (lB rfl)]
 have k0 := @k_impl_turnedAt.eq_1; have g0 := impl_cloneNode_ok; have g1 := impl_PutAt_1_PP'_ok; have g2 := ih
 exact gs
theorem impl_PutAt_ok : ∀ (n : GNode) (path : List Int) (l : List GNode), Ok (impl_PutAt n path l) e_impl_PutAt (dn FTA n_impl_PutAt [.agg (((GNode.row false) n).map .t), .t (.sl false (path.map rI)), .t (.sl false (l.map (GNode.row false)))]) := by
 intro n path l
 rw [den_ev FTA (fn := k_impl_PutAt) rfl (xN rfl rfl _) (lB rfl)]
 have k0 := @k_impl_PutAt.eq_1; have f0 := @impl_PutAt.eq_1; have g0 := impl_NodeAt_ok; have g1 := impl_cloneNode_ok; have g2 := impl_turnedAt_PutAt_1_ok
 exact gs
theorem spec_NodeAt_l8_ok (path : List Int) : ∀ (i : Int) (x2 : GNode), Ok (spec_NodeAt_l8 path i x2) e_spec_NodeAt (ev FTA c_spec_NodeAt (.loop k_spec_NodeAt_l8) [.lv 0, .th k_spec_NodeAt_r4] (putS (List.replicate 36 .dead) [(1, .t (.sl false (path.map rI))), (4, .ptr (4, 0) [] 0 0 1 0), (6, .ptr (6, 0) [] 0 0 1 0), (7, .t (.v (.int .i64 i)))]) (putR (List.replicate 36 []) [(4, [.mem [[.v (.int .i64 0), .v (.string (⟨#[]⟩)), .v (.string (⟨#[]⟩)), .v (.string (⟨#[]⟩)), .sl true [], .sl true [], .sl true [], .v (.string (⟨#[]⟩))]] 0 false]), (6, [.mem [[.v (.int .i64 x2.Kind), .v (.string x2.Pre), .v (.string x2.Local), .v (.string x2.Uri), .sl false (x2.Decls.map GDecl.row), .sl false (x2.Attrs.map GAttr.row), .sl false (x2.Kids.map (GNode.row false)), .v (.string x2.Text)]] 0 false])])) := by
 unfold Ok
 refine spec_NodeAt_l8.partial_correctness path _ ?_
 intro F ih i x2
 show Ok _ _ _
 have ih : ∀ (i : Int) (x2 : GNode), Ok (F i x2) _ _ := ih
 rw [ev_loop]
 have k0 := @k_spec_NodeAt_l8.eq_1; have k1 := @k_spec_NodeAt_r4.eq_1; have g0 := spec_l1In_ok; have g1 := spec_l5Copy_ok; have t0 := ih
 exact gs
theorem spec_NodeAt_ok : ∀ (n : GNode) (path : List Int), Ok (spec_NodeAt n path) e_spec_NodeAt (dn FTA n_spec_NodeAt [.agg (((GNode.row false) n).map .t), .t (.sl false (path.map rI))]) := by
 intro n path
 rw [den_ev FTA (fn := k_spec_NodeAt) rfl (xN rfl rfl _) (lB rfl)]
 have k0 := @k_spec_NodeAt.eq_1; have f0 := @spec_NodeAt.eq_1; have t0 := spec_NodeAt_l8_ok
 exact gs
theorem spec_l10Turn_ok (from1 : Int) (to1 : Int) (l : List GNode) : ∀ (n : GNode) (path : List Int), Ok (spec_l10Turn n path from1 to1 l) e_spec_l10Turn (dn FTA n_spec_l10Turn [.agg (((GNode.row false) n).map .t), .t (.sl false (path.map rI)), .t (.v (.int .i64 from1)), .t (.v (.int .i64 to1)), .t (.sl false (l.map (GNode.row false)))]) := by
 unfold Ok
 refine spec_l10Turn.partial_correctness from1 to1 l _ ?_
 intro F ih n path
 show Ok _ _ _
 have ih : ∀ (n : GNode) (path : List Int), Ok (F n path) _ _ := ih
 rw [den_ev FTA (fn := k_spec_l10Turn) rfl (xN rfl rfl _) (lB rfl)]
 have k0 := @k_spec_l10Turn.eq_1; have g0 := spec_Merge_ok; have g1 := ih
 exact gs
theorem spec_PutAt_ok : ∀ (n : GNode) (path : List Int) (l : List GNode), Ok (spec_PutAt n path l) e_spec_PutAt (dn FTA n_spec_PutAt [.agg (((GNode.row false) n).map .t), .t (.sl false (path.map rI)), .t (.sl false (l.map (GNode.row false)))]) := by
 intro n path l
 rw [den_ev FTA (fn := k_spec_PutAt) rfl (xN rfl rfl _) (lB rfl)]
 have k0 := @k_spec_PutAt.eq_1; have f0 := @spec_PutAt.eq_1; have g0 := spec_l5Copy_ok; have g1 := spec_NodeAt_ok; have g2 := spec_l10Turn_ok
 exact gs
theorem spec_DrawInsertAt_ok : ∀ (code : List Int), Ok (spec_DrawInsertAt code) e_spec_DrawInsertAt (dn FTA n_spec_DrawInsertAt [.t (.sl false (code.map (rK .u8)))]) := by
 intro code
 rw [den_ev FTA (fn := k_spec_DrawInsertAt) rfl (xN rfl rfl _) (lB rfl)]
 have k0 := @k_spec_DrawInsertAt.eq_1; have f0 := @spec_DrawInsertAt.eq_1; have g0 := spec_l1New_ok; have g1 := spec_l5Draw_ok; have g2 := spec_l10Path_ok; have g3 := spec_l1Int_ok; have g4 := spec_l10Some_ok
 exact gs
theorem impl_InsertAt_1_PP_ok : ∀ (a0 : GNode) (a1 : Int) (a2 : List GNode), Ok (impl_InsertAt_1_PP a0 a1 a2) e_impl_InsertAt_1_PP (dn FTA n_impl_InsertAt_1 [.agg [.t (.v (.int .i64 a0.Kind)), .t (.v (.string a0.Pre)), .t (.v (.string a0.Local)), .t (.v (.string a0.Uri)), .ln (a0.Decls.map GDecl.row), .ln (a0.Attrs.map GAttr.row), .ln (a0.Kids.map (GNode.row true)), .t (.v (.string a0.Text))], .pp [.v (.int .i64 a1)], .pp [.sl false (a2.map (GNode.row false))]]) := by
 intro a0 a1 a2
 rw [den_ev FTA (fn := k_impl_InsertAt_1) rfl (xN rfl rfl _) (lB rfl)]
 have k0 := @k_impl_InsertAt_1.eq_1; have f0 := @impl_InsertAt_1_PP.eq_1; have g0 := impl_spliced_ok
 exact gs
theorem impl_turnedAt_InsertAt_1_ok (turnc0 : Int) (turnc1 : List GNode) : ∀ (n : GNode) (path : List Int), Ok (impl_turnedAt_InsertAt_1 n path turnc0 turnc1) e_impl_turnedAt_InsertAt_1 (dn FTA n_impl_turnedAt [.agg (((GNode.row false) n).map .t), .t (.sl false (path.map rI)), .fn n_impl_InsertAt_1 [.pp [.v (.int .i64 turnc0)], .pp [.sl false (turnc1.map (GNode.row false))]]]) := by
 unfold Ok
 refine impl_turnedAt_InsertAt_1.partial_correctness turnc0 turnc1 _ ?_
 intro F ih n path
 show Ok _ _ _
 have ih : ∀ (n : GNode) (path : List Int), Ok (F n path) _ _ := ih
 rw [den_ev FTA (fn := k_impl_turnedAt) rfl (xN rfl rfl _) (lB rfl)]
 have k0 := @k_impl_turnedAt.eq_1; have g0 := impl_cloneNode_ok; have g1 := impl_InsertAt_1_PP_ok; have g2 := ih
 exact gs
theorem impl_InsertAt_ok : ∀ (n : GNode) (path : List Int) (i : Int) (l : List GNode), Ok (impl_InsertAt n path i l) e_impl_InsertAt (dn FTA n_impl_InsertAt [.agg (((GNode.row false) n).map .t), .t (.sl false (path.map rI)), .t (.v (.int .i64 i)), .t (.sl false (l.map (GNode.row false)))]) := by
 intro n path i l
 rw [den_ev FTA (fn := k_impl_InsertAt) rfl (xN rfl rfl _) (lB rfl)]
 have k0 := @k_impl_InsertAt.eq_1; have f0 := @impl_InsertAt.eq_1; have g0 := impl_NodeAt_ok; have g1 := impl_cloneNode_ok; have g2 := impl_in_ok; have g3 := impl_turnedAt_InsertAt_1_ok
 exact gs
theorem spec_InsertAt_ok : ∀ (n : GNode) (path : List Int) (i : Int) (l : List GNode), Ok (spec_InsertAt n path i l) e_spec_InsertAt (dn FTA n_spec_InsertAt [.agg (((GNode.row false) n).map .t), .t (.sl false (path.map rI)), .t (.v (.int .i64 i)), .t (.sl false (l.map (GNode.row false)))]) := by
 intro n path i l
 rw [den_ev FTA (fn := k_spec_InsertAt) rfl (xN rfl rfl _) (lB rfl)]
 have k0 := @k_spec_InsertAt.eq_1; have f0 := @spec_InsertAt.eq_1; have g0 := spec_NodeAt_ok; have g1 := spec_l5Copy_ok; have g2 := spec_l1In_ok; have g3 := spec_l10Turn_ok
 exact gs
theorem slices_Equal_Decl_l14_ok (s1 : List GDecl) (s2 : List GDecl) : ∀ (x2 : Int), Ok (slices_Equal_Decl_l14 s1 s2 x2) e_slices_Equal_Decl (ev FTA c_slices_Equal_Decl (.loop k_slices_Equal_Decl_l14) [.lv 0, .th k_slices_Equal_Decl_r10] (putS (List.replicate 26 .dead) [(0, .t (.sl false (s1.map GDecl.row))), (1, .t (.sl false (s2.map GDecl.row))), (12, .t (.v (.int .i64 (lenL s1)))), (13, .t (.v (.int .i64 x2)))]) (putR (List.replicate 26 []) [])) := by
 unfold Ok
 refine slices_Equal_Decl_l14.partial_correctness s1 s2 _ ?_
 intro F ih x2
 show Ok _ _ _
 have ih : ∀ (x2 : Int), Ok (F x2) _ _ := ih
 rw [ev_loop]
 have k0 := @k_slices_Equal_Decl_l14.eq_1; have k1 := @k_slices_Equal_Decl_r10.eq_1; have t0 := ih
 exact gs
theorem slices_Equal_Decl_ok : ∀ (s1 : List GDecl) (s2 : List GDecl), Ok (slices_Equal_Decl s1 s2) e_slices_Equal_Decl (dn FTA n_slices_Equal_Decl [.t (.sl false (s1.map GDecl.row)), .t (.sl false (s2.map GDecl.row))]) := by
 intro s1 s2
 rw [den_ev FTA (fn := k_slices_Equal_Decl) rfl (xN rfl rfl _) (lB rfl)]
 have k0 := @k_slices_Equal_Decl.eq_1; have f0 := @slices_Equal_Decl.eq_1; have t0 := slices_Equal_Decl_l14_ok
 exact gs
end TT
