import Derived.Test.YtjnjaaimgdjcgaaGreatDoorTLLc
set_option maxHeartbeats 2000000
set_option linter.unusedVariables false
set_option linter.unusedSimpArgs false
set_option linter.defProp false
set_option maxRecDepth 100000
namespace TT
open Go
open Nat (reduceAdd reduceSub reduceMul reduceLeDiff reduceLT reduceEqDiff)
theorem spec_Here_ok : ∀ (w : GWalk), Ok (spec_Here w) e_spec_Here (dn FTA n_spec_Here [.agg (((GWalk.row false) w).map .t)]) := by
 intro w
 rw [den_ev FTA (fn := k_spec_Here) rfl (xN rfl rfl _) (lB rfl)]
 have k0 := @k_spec_Here.eq_1; have f0 := @spec_Here.eq_1; have g0 := spec_NodeAt_ok; have g1 := spec_WalkOk_ok
 exact gs
theorem G_spec_Merge_j29 (l : List GNode) : (∀ (out : List (GNode)) (i : Int) (x8 : Bool) (x6 : GNode), Ok (spec_Merge_j29 l out i x8 x6) e_spec_Merge (ev FTA c_spec_Merge k_spec_Merge_r29 [.th k_spec_Merge_r19, .lv 1, .th k_spec_Merge_r15, .hk [.clean [5, 6, 54, 57]], .th (.loop k_spec_Merge_l8), .lv 0, .th k_spec_Merge_r4] (putS (List.replicate 60 .dead) [(0, .t (.sl false (l.map (GNode.row false)))), (3, .ref (7, 0) out.length), (4, .t (.v (.int .i64 i))), (5, .ptr (5, 0) [] 0 0 1 0), (36, .t (.v (.bool x8)))]) (putR (List.replicate 60 []) [(5, [.mem [[.v (.int .i64 x6.Kind), .v (.string x6.Pre), .v (.string x6.Local), .v (.string x6.Uri), .sl false (x6.Decls.map GDecl.row), .sl false (x6.Attrs.map GAttr.row), .sl false (x6.Kids.map (GNode.row false)), .v (.string x6.Text)]] 0 false]), (7, [.mem (out.map (GNode.row true)) 0 false])]))) ∧
  (∀ (out : List (GNode)) (i : Int), Ok (spec_Merge_l8 l out i) e_spec_Merge (ev FTA c_spec_Merge (.loop k_spec_Merge_l8) [.lv 0, .th k_spec_Merge_r4] (putS (List.replicate 60 .dead) [(0, .t (.sl false (l.map (GNode.row false)))), (3, .ref (7, 0) out.length), (4, .t (.v (.int .i64 i)))]) (putR (List.replicate 60 []) [(7, [.mem (out.map (GNode.row true)) 0 false])]))) := by
 unfold Ok
 refine spec_Merge_j29.mutual_partial_correctness l _ _ ?_ ?_
 ·intro F1 ih1 out i x8 x6
  show Ok _ _ _
  have ih1 : ∀ (out : List (GNode)) (i : Int), Ok (F1 out i) _ _ := ih1
  have k0 := @k_spec_Merge_r29.eq_1; have k1 := @k_spec_Merge_r15.eq_1; have k2 := @k_spec_Merge_r19.eq_1; have g0 := spec_l5Copy_ok; have t0 := ih1
  exact gs
 ·intro F0 F1 ih0 ih1 out i
  show Ok _ _ _
  have ih1 : ∀ (out : List (GNode)) (i : Int), Ok (F1 out i) _ _ := ih1
  have ih0 : ∀ (out : List (GNode)) (i : Int) (x8 : Bool) (x6 : GNode), Ok (F0 out i x8 x6) _ _ := ih0
  rw [ev_loop]
  have k0 := @k_spec_Merge_l8.eq_1; have k1 := @k_spec_Merge_r15.eq_1; have k2 := @k_spec_Merge_r19.eq_1; have k3 := @k_spec_Merge_r4.eq_1; have g0 := spec_l5Copy_ok; have t0 := ih1; have t1 := ih0
  exact gs
theorem spec_Merge_ok : ∀ (l : List GNode), Ok (spec_Merge l) e_spec_Merge (dn FTA n_spec_Merge [.t (.sl false (l.map (GNode.row false)))]) := by
 intro l
 rw [den_ev FTA (fn := k_spec_Merge) rfl (xN rfl rfl _) (lB rfl)]
 have k0 := @k_spec_Merge.eq_1; have f0 := @spec_Merge.eq_1; have t0 := fun a0 => (G_spec_Merge_j29 a0).2
 exact gs
theorem spec_l10Turn_ok (from1 : Int) (to1 : Int) (l : List GNode) : ∀ (n : GNode) (path : List Int), Ok (spec_l10Turn n path from1 to1 l) e_spec_l10Turn (dn FTA n_spec_l10Turn [.agg (((GNode.row false) n).map .t), .t (.sl false (path.map rI)), .t (.v (.int .i64 from1)), .t (.v (.int .i64 to1)), .t (.sl false (l.map (GNode.row false)))]) := by
 unfold Ok
 refine spec_l10Turn.partial_correctness from1 to1 l _ ?_
 intro F ih n path
 show Ok _ _ _
 have ih : ∀ (n : GNode) (path : List Int), Ok (F n path) _ _ := ih
 rw [den_ev FTA (fn := k_spec_l10Turn) rfl (xN rfl rfl _) (lB rfl)]
 have k0 := @k_spec_l10Turn.eq_1; have g0 := spec_Merge_ok; have g1 := ih
 exact gs
theorem spec_PutAt_ok : ∀ (n : GNode) (path : List Int) (l : List GNode), Ok (spec_PutAt n path l) e_spec_PutAt (dn FTA n_spec_PutAt [.agg (((GNode.row false) n).map .t), .t (.sl false (path.map rI)), .t (.sl false (l.map (GNode.row false)))]) := by
 intro n path l
 rw [den_ev FTA (fn := k_spec_PutAt) rfl (xN rfl rfl _) (lB rfl)]
 have k0 := @k_spec_PutAt.eq_1; have f0 := @spec_PutAt.eq_1; have g0 := spec_l5Copy_ok; have g1 := spec_NodeAt_ok; have g2 := spec_l10Turn_ok
 exact gs
theorem spec_Swap_ok : ∀ (w : GWalk) (n : GNode), Ok (spec_Swap w n) e_spec_Swap (dn FTA n_spec_Swap [.agg (((GWalk.row false) w).map .t), .agg (((GNode.row false) n).map .t)]) := by
 intro w n
 rw [den_ev FTA (fn := k_spec_Swap) rfl (xN rfl rfl _) (lB rfl)]
 have k0 := @k_spec_Swap.eq_1; have f0 := @spec_Swap.eq_1; have g0 := spec_l22Copy_ok; have g1 := spec_WalkOk_ok; have g2 := spec_Here_ok; have g3 := spec_NodeOk_ok; have g4 := spec_PutAt_ok; have g5 := spec_TreeOk_ok
 exact gs
theorem slices_Clone_Decl_ok : ∀ (s : List (GDecl)), Ok (slices_Clone_Decl s) e_slices_Clone_Decl (dn FTA n_slices_Clone_Decl [.t (.sl false (s.map GDecl.row))]) := by
 intro s
 cases s with
 | nil =>
  intro r hr
  unfold slices_Clone_Decl at hr
  obtain ⟨_, _, h⟩ := Option.bind_eq_some_iff.1 hr
  cases h
  exact den_ext FTA.ft (xOf FTA) (xOf_nil rfl)
 | cons x s =>
  simp only [List.map_cons]
  rw [den_ev FTA (fn := k_slices_Clone_Decl) rfl (xOf_cons rfl _ _) (Nat.le_of_ble_eq_true rfl)]
  simp only [SSA, RS, c_slices_Clone_Decl, k_slices_Clone_Decl, slices_Clone_Decl, reduceAdd, reduceSub, reduceMul, reduceLeDiff, reduceLT, reduceEqDiff, Nat.reduceBEq, ↓reduceIte, reduceCtorEq]
  refine Ok_prim fun a h => ?_
  simp only [SSA, RS, *, reduceAdd, reduceSub, reduceMul, reduceLeDiff, reduceLT, reduceEqDiff, Nat.reduceBEq, ↓reduceIte, reduceCtorEq]
  exact Ok_ret rfl
theorem slices_Clone_Attr_ok : ∀ (s : List (GAttr)), Ok (slices_Clone_Attr s) e_slices_Clone_Attr (dn FTA n_slices_Clone_Attr [.t (.sl false (s.map GAttr.row))]) := by
 intro s
 cases s with
 | nil =>
  intro r hr
  unfold slices_Clone_Attr at hr
  obtain ⟨_, _, h⟩ := Option.bind_eq_some_iff.1 hr
  cases h
  exact den_ext FTA.ft (xOf FTA) (xOf_nil rfl)
 | cons x s =>
  simp only [List.map_cons]
  rw [den_ev FTA (fn := k_slices_Clone_Attr) rfl (xOf_cons rfl _ _) (Nat.le_of_ble_eq_true rfl)]
  simp only [SSA, RS, c_slices_Clone_Attr, k_slices_Clone_Attr, slices_Clone_Attr, reduceAdd, reduceSub, reduceMul, reduceLeDiff, reduceLT, reduceEqDiff, Nat.reduceBEq, ↓reduceIte, reduceCtorEq]
  refine Ok_prim fun a h => ?_
  simp only [SSA, RS, *, reduceAdd, reduceSub, reduceMul, reduceLeDiff, reduceLT, reduceEqDiff, Nat.reduceBEq, ↓reduceIte, reduceCtorEq]
  exact Ok_ret rfl
theorem G_impl_cloneNode : (∀ (n : GNode), Ok (impl_cloneNode n) e_impl_cloneNode (dn FTA n_impl_cloneNode [.agg (((GNode.row false) n).map .t)])) ∧
  (∀ (l : List GNode), Ok (impl_cloneNodes l) e_impl_cloneNodes (dn FTA n_impl_cloneNodes [.t (.sl false (l.map (GNode.row false)))])) ∧
  (∀ (out : List (GNode)) (l : List GNode) (x1 : Int), Ok (impl_cloneNodes_l8 out l x1) e_impl_cloneNodes (ev FTA c_impl_cloneNodes (.loop k_impl_cloneNodes_l8) [.lv 0, .th k_impl_cloneNodes_r4] (putS (List.replicate 19 .dead) [(3, .ref (16, 0) out.length), (6, .t (.sl false (l.map (GNode.row false)))), (7, .t (.v (.int .i64 (lenL l)))), (8, .t (.v (.int .i64 x1)))]) (putR (List.replicate 19 []) [(16, [.mem (out.map (GNode.row true)) 0 false])]))) := by
 unfold Ok
 refine impl_cloneNode.mutual_partial_correctness _ _ _ ?_ ?_ ?_
 ·intro F1 ih1 n
  show Ok _ _ _
  have ih1 : ∀ (l : List GNode), Ok (F1 l) _ _ := ih1
  rw [den_ev FTA (fn := k_impl_cloneNode) rfl (xN rfl rfl _) (lB rfl)]
  have k0 := @k_impl_cloneNode.eq_1; have g0 := slices_Clone_Decl_ok; have g1 := slices_Clone_Attr_ok; have g2 := ih1
  exact gs
 ·intro F2 ih2 l
  show Ok _ _ _
  have ih2 : ∀ (out : List (GNode)) (l : List GNode) (x1 : Int), Ok (F2 out l x1) _ _ := ih2
  rw [den_ev FTA (fn := k_impl_cloneNodes) rfl (xN rfl rfl _) (lB rfl)]
  have k0 := @k_impl_cloneNodes.eq_1; have t0 := ih2
  exact gs
 ·intro F0 F2 ih0 ih2 out l x1
  show Ok _ _ _
  have ih0 : ∀ (n : GNode), Ok (F0 n) _ _ := ih0
  have ih2 : ∀ (out : List (GNode)) (l : List GNode) (x1 : Int), Ok (F2 out l x1) _ _ := ih2
  rw [ev_loop]
  have k0 := @k_impl_cloneNodes_l8.eq_1; have k1 := @k_impl_cloneNodes_r4.eq_1; have g0 := ih0; have t0 := ih2
  exact gs
theorem impl_cloneNode_ok (n : GNode) : Ok (impl_cloneNode n) e_impl_cloneNode (dn FTA n_impl_cloneNode [.agg (((GNode.row false) n).map .t)]) := G_impl_cloneNode.1 n
theorem impl_cloneNodes_ok (l : List GNode) : Ok (impl_cloneNodes l) e_impl_cloneNodes (dn FTA n_impl_cloneNodes [.t (.sl false (l.map (GNode.row false)))]) := G_impl_cloneNode.2.1 l
theorem slices_Clone_int_ok : ∀ (s : List (Int)), Ok (slices_Clone_int s) e_slices_Clone_int (dn FTA n_slices_Clone_int [.t (.sl false (s.map rI))]) := by
 intro s
 cases s with
 | nil =>
  intro r hr
  unfold slices_Clone_int at hr
  obtain ⟨_, _, h⟩ := Option.bind_eq_some_iff.1 hr
  cases h
  exact den_ext FTA.ft (xOf FTA) (xOf_nil rfl)
 | cons x s =>
  simp only [List.map_cons]
  rw [den_ev FTA (fn := k_slices_Clone_int) rfl (xOf_cons rfl _ _) (Nat.le_of_ble_eq_true rfl)]
  simp only [SSA, RS, c_slices_Clone_int, k_slices_Clone_int, slices_Clone_int, reduceAdd, reduceSub, reduceMul, reduceLeDiff, reduceLT, reduceEqDiff, Nat.reduceBEq, ↓reduceIte, reduceCtorEq]
  refine Ok_prim fun a h => ?_
  simp only [SSA, RS, *, reduceAdd, reduceSub, reduceMul, reduceLeDiff, reduceLT, reduceEqDiff, Nat.reduceBEq, ↓reduceIte, reduceCtorEq]
  exact Ok_ret rfl
theorem impl_cloneWalk_ok : ∀ (w : GWalk), Ok (impl_cloneWalk w) e_impl_cloneWalk (dn FTA n_impl_cloneWalk [.agg (((GWalk.row false) w).map .t)]) := by
 intro w
 rw [den_ev FTA (fn := k_impl_cloneWalk) rfl (xN rfl rfl _) (lB rfl)]
 have k0 := @k_impl_cloneWalk.eq_1; have f0 := @impl_cloneWalk.eq_1; have g0 := impl_cloneNode_ok; have g1 := slices_Clone_int_ok
 exact gs
theorem impl_in_ok : ∀ (n : Int) (lo : Int) (hi : Int), Ok (impl_in n lo hi) e_impl_in (dn FTA n_impl_in [.t (.v (.int .i64 n)), .t (.v (.int .i64 lo)), .t (.v (.int .i64 hi))]) := by
 intro n lo hi
 rw [den_ev FTA (fn := k_impl_in) rfl (xN rfl rfl _) (lB rfl)]
 have k0 := @k_impl_in.eq_1; have f0 := @impl_in.eq_1
 exact gs
theorem impl_NodeAt_l6_ok (path : List Int) : ∀ (x2 : Int) (n1 : GNode), Ok (impl_NodeAt_l6 path x2 n1) e_impl_NodeAt (ev FTA c_impl_NodeAt (.loop k_impl_NodeAt_l6) [.lv 0, .th k_impl_NodeAt_r2] (putS (List.replicate 30 .dead) [(2, .ptr (2, 0) [] 0 0 1 0), (4, .ptr (4, 0) [] 0 0 1 0), (8, .t (.sl false (path.map rI))), (9, .t (.v (.int .i64 (lenL path)))), (10, .t (.v (.int .i64 x2)))]) (putR (List.replicate 30 []) [(2, [.mem [[.v (.int .i64 n1.Kind), .v (.string n1.Pre), .v (.string n1.Local), .v (.string n1.Uri), .sl false (n1.Decls.map GDecl.row), .sl false (n1.Attrs.map GAttr.row), .sl false (n1.Kids.map (GNode.row false)), .v (.string n1.Text)]] 0 false]), (4, [.mem [[.v (.int .i64 0), .v (.string (⟨#[]⟩)), .v (.string (⟨#[]⟩)), .v (.string (⟨#[]⟩)), .sl true [], .sl true [], .sl true [], .v (.string (⟨#[]⟩))]] 0 false])])) := by
 unfold Ok
 refine impl_NodeAt_l6.partial_correctness path _ ?_
 intro F ih x2 n1
 show Ok _ _ _
 have ih : ∀ (x2 : Int) (n1 : GNode), Ok (F x2 n1) _ _ := ih
 rw [ev_loop]
 have k0 := @k_impl_NodeAt_l6.eq_1; have k1 := @k_impl_NodeAt_r2.eq_1; have g0 := impl_in_ok; have g1 := impl_cloneNode_ok; have t0 := ih
 exact gs
theorem impl_NodeAt_ok : ∀ (n : GNode) (path : List Int), Ok (impl_NodeAt n path) e_impl_NodeAt (dn FTA n_impl_NodeAt [.agg (((GNode.row false) n).map .t), .t (.sl false (path.map rI))]) := by
 intro n path
 rw [den_ev FTA (fn := k_impl_NodeAt) rfl (xN rfl rfl _) (lB rfl)]
 have k0 := @k_impl_NodeAt.eq_1; have f0 := @impl_NodeAt.eq_1; have t0 := impl_NodeAt_l6_ok
 exact gs
theorem G_impl_CountOf : (∀ (n : GNode), Ok (impl_CountOf n) e_impl_CountOf (dn FTA n_impl_CountOf [.agg (((GNode.row false) n).map .t)])) ∧
  (∀ (out : Int) (n : GNode) (x1 : Int), Ok (impl_CountOf_l8 out n x1) e_impl_CountOf (ev FTA c_impl_CountOf (.loop k_impl_CountOf_l8) [.lv 0, .th k_impl_CountOf_r4] (putS (List.replicate 23 .dead) [(3, .t (.v (.int .i64 out))), (11, .t (.sl false (n.Kids.map (GNode.row false)))), (12, .t (.v (.int .i64 (lenL n.Kids)))), (13, .t (.v (.int .i64 x1)))]) (putR (List.replicate 23 []) []))) := by
 unfold Ok
 refine impl_CountOf.mutual_partial_correctness _ _ ?_ ?_
 ·intro F1 ih1 n
  show Ok _ _ _
  have ih1 : ∀ (out : Int) (n : GNode) (x1 : Int), Ok (F1 out n x1) _ _ := ih1
  rw [den_ev FTA (fn := k_impl_CountOf) rfl (xN rfl rfl _) (lB rfl)]
  have k0 := @k_impl_CountOf.eq_1; have t0 := ih1
  exact gs
 ·intro F0 F1 ih0 ih1 out n x1
  show Ok _ _ _
  have ih0 : ∀ (n : GNode), Ok (F0 n) _ _ := ih0
  have ih1 : ∀ (out : Int) (n : GNode) (x1 : Int), Ok (F1 out n x1) _ _ := ih1
  rw [ev_loop]
  have k0 := @k_impl_CountOf_l8.eq_1; have k1 := @k_impl_CountOf_r4.eq_1; have g0 := ih0; have t0 := ih1
  exact gs
theorem impl_CountOf_ok (n : GNode) : Ok (impl_CountOf n) e_impl_CountOf (dn FTA n_impl_CountOf [.agg (((GNode.row false) n).map .t)]) := G_impl_CountOf.1 n
theorem unicode_utf8_DecodeRuneInString_ok : ∀ (s : ByteArray), Ok (unicode_utf8_DecodeRuneInString s) e_unicode_utf8_DecodeRuneInString (dn FTA n_unicode_utf8_DecodeRuneInString [.t (.v (.string s))]) := by
 intro s r hr
 exact den_ext FTA.ft (xOf FTA) (x_decode_ok s (e := e_unicode_utf8_DecodeRuneInString) (fun _ => rfl) hr)
theorem impl_SignAt_ok : ∀ (s : ByteArray) (at1 : Int), Ok (impl_SignAt s at1) e_impl_SignAt (dn FTA n_impl_SignAt [.t (.v (.string s)), .t (.v (.int .i64 at1))]) := by
 intro s at1
 rw [den_ev FTA (fn := k_impl_SignAt) rfl (xN rfl rfl _) (lB rfl)]
 have k0 := @k_impl_SignAt.eq_1; have f0 := @impl_SignAt.eq_1; have g0 := impl_in_ok; have g1 := unicode_utf8_DecodeRuneInString_ok
 exact gs
theorem impl_inAny_1_ok : ∀ (r : GArr2Int) (a1 : Int), Ok (impl_inAny_1 r a1) e_impl_inAny_1 (dn FTA n_impl_inAny_1 [.agg ((GArr2Int.row r).map .t), .lp [.v (.int .i64 a1)] 0]) := by
 intro r a1
 rw [den_ev FTA (fn := k_impl_inAny_1) rfl (xN rfl rfl _) (lB rfl)]
 have k0 := @k_impl_inAny_1.eq_1; have f0 := @impl_inAny_1.eq_1; have g0 := impl_in_ok
 exact gs
theorem slices_IndexFunc_A2int_inAny_1_l6_ok (s : List GArr2Int) : ∀ (x1 : Int) (f : Int), Ok (slices_IndexFunc_A2int_inAny_1_l6 s x1 f) e_slices_IndexFunc_A2int_inAny_1 (ev FTA c_slices_IndexFunc_A2int_inAny_1 (.loop k_slices_IndexFunc_A2int_l6) [.lv 0, .th k_slices_IndexFunc_A2int_r2] (putS (List.replicate 19 .dead) [(0, .t (.sl false (s.map GArr2Int.row))), (1, .fn n_impl_inAny_1 [.ptr (1, 0) [] 0 0 1 0]), (7, .t (.v (.int .i64 (lenL s)))), (8, .t (.v (.int .i64 x1)))]) (putR (List.replicate 19 []) [(1, [.mem [[.v (.int .i64 f)]] 0 true])])) := by
 unfold Ok
 refine slices_IndexFunc_A2int_inAny_1_l6.partial_correctness s _ ?_
 intro F ih x1 f
 show Ok _ _ _
 have ih : ∀ (x1 : Int) (f : Int), Ok (F x1 f) _ _ := ih
 rw [ev_loop]
 have k0 := @k_slices_IndexFunc_A2int_l6.eq_1; have k1 := @k_slices_IndexFunc_A2int_r2.eq_1; have g0 := impl_inAny_1_ok; have t0 := ih
 exact gs
theorem slices_IndexFunc_A2int_inAny_1_ok : ∀ (s : List GArr2Int) (fc0 : Int), Ok (slices_IndexFunc_A2int_inAny_1 s fc0) e_slices_IndexFunc_A2int_inAny_1 (dn FTA n_slices_IndexFunc_A2int [.t (.sl false (s.map GArr2Int.row)), .fn n_impl_inAny_1 [.lp [.v (.int .i64 fc0)] 0]]) := by
 intro s fc0
 rw [den_ev FTA (fn := k_slices_IndexFunc_A2int) rfl (xN rfl rfl _) (lB rfl)]
 have k0 := @k_slices_IndexFunc_A2int.eq_1; have f0 := @slices_IndexFunc_A2int_inAny_1.eq_1; have t0 := slices_IndexFunc_A2int_inAny_1_l6_ok
 exact gs
theorem slices_ContainsFunc_A2int_inAny_1_ok : ∀ (s : List GArr2Int) (fc0 : Int), Ok (slices_ContainsFunc_A2int_inAny_1 s fc0) e_slices_ContainsFunc_A2int_inAny_1 (dn FTA n_slices_ContainsFunc_A2int [.t (.sl false (s.map GArr2Int.row)), .fn n_impl_inAny_1 [.lp [.v (.int .i64 fc0)] 0]]) := by
 intro s fc0
 rw [den_ev FTA (fn := k_slices_ContainsFunc_A2int) rfl (xN rfl rfl _) (lB rfl)]
 have k0 := @k_slices_ContainsFunc_A2int.eq_1; have f0 := @slices_ContainsFunc_A2int_inAny_1.eq_1; have g0 := slices_IndexFunc_A2int_inAny_1_ok
 exact gs
theorem impl_inAny_ok : ∀ (n : Int) (ranges : List GArr2Int), Ok (impl_inAny n ranges) e_impl_inAny (dn FTA n_impl_inAny [.t (.v (.int .i64 n)), .t (.sl false (ranges.map GArr2Int.row))]) := by
 intro n ranges
 rw [den_ev FTA (fn := k_impl_inAny) rfl (xN rfl rfl _) (lB rfl)]
 have k0 := @k_impl_inAny.eq_1; have f0 := @impl_inAny.eq_1; have g0 := slices_ContainsFunc_A2int_inAny_1_ok
 exact gs
end TT
