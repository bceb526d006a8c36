import Derived.Test.YtdpdfjkjlkmjaaaTLLc
set_option maxHeartbeats 2000000
set_option linter.unusedVariables false
set_option linter.unusedSimpArgs false
set_option linter.defProp false
set_option maxRecDepth 100000
namespace TT
open Go
open Nat (reduceAdd reduceSub reduceMul reduceLeDiff reduceLT reduceEqDiff)
theorem spec_l10Path_l8_ok : ∀ (p : List (Int)) (c1 : Gl1Cur) (x1 : GNode), Ok (spec_l10Path_l8 p c1 x1) e_spec_l10Path (ev FTA c_spec_l10Path (.loop k_spec_l10Path_l8) [.lv 0, .hk [.kill [6, 18], .clean [6]], .th k_spec_l10Path_r6] (putS (List.replicate 42 .dead) [(0, .ptr (0, 0) [] 0 0 1 0), (5, .ref (8, 0) p.length), (6, .ptr (6, 0) [] 0 0 1 0)]) (putR (List.replicate 42 []) [(0, [.mem [[.sl false (c1.xb.map (rK .u8)), .v (.int .i64 c1.xi), .v (.int .i64 c1.xh)]] 0 true]), (6, [.mem [[.v (.int .i64 x1.Kind), .v (.string x1.Pre), .v (.string x1.Local), .v (.string x1.Uri), .sl false (x1.Decls.map GDecl.row), .sl false (x1.Attrs.map GAttr.row), .sl false (x1.Kids.map (GNode.row false)), .v (.string x1.Text)]] 0 false]), (8, [.mem (p.map rI) 0 false])])) := by
 unfold Ok
 refine spec_l10Path_l8.partial_correctness _ ?_
 intro F ih p c1 x1
 show Ok _ _ _
 have ih : ∀ (p : List (Int)) (c1 : Gl1Cur) (x1 : GNode), Ok (F p c1 x1) _ _ := ih
 rw [ev_loop]
 have k0 := @k_spec_l10Path_l8.eq_1; have g0 := spec_l1Once_ok; have g1 := spec_l1Below_ok; have t0 := spec_l10Path_j6_ok; have t1 := ih
 exact gs
theorem spec_l10Path_ok : ∀ (c : Gl1Cur) (n : GNode), Ok (spec_l10Path c n) e_spec_l10Path (dn FTA n_spec_l10Path [.lp [.sl false (c.xb.map (rK .u8)), .v (.int .i64 c.xi), .v (.int .i64 c.xh)] 0, .agg (((GNode.row false) n).map .t)]) := by
 intro c n
 rw [den_ev FTA (fn := k_spec_l10Path) rfl (xN rfl rfl _) (lB rfl)]
 have k0 := @k_spec_l10Path.eq_1; have f0 := @spec_l10Path.eq_1; have t0 := spec_l10Path_l8_ok
 exact gs
theorem spec_DrawNodeAt_ok : ∀ (code : List Int), Ok (spec_DrawNodeAt code) e_spec_DrawNodeAt (dn FTA n_spec_DrawNodeAt [.t (.sl false (code.map (rK .u8)))]) := by
 intro code
 rw [den_ev FTA (fn := k_spec_DrawNodeAt) rfl (xN rfl rfl _) (lB rfl)]
 have k0 := @k_spec_DrawNodeAt.eq_1; have f0 := @spec_DrawNodeAt.eq_1; have g0 := spec_l1New_ok; have g1 := spec_l5Draw_ok; have g2 := spec_l10Path_ok
 exact gs
theorem impl_in_ok : ∀ (n : Int) (lo : Int) (hi : Int), Ok (impl_in n lo hi) e_impl_in (dn FTA n_impl_in [.t (.v (.int .i64 n)), .t (.v (.int .i64 lo)), .t (.v (.int .i64 hi))]) := by
 intro n lo hi
 rw [den_ev FTA (fn := k_impl_in) rfl (xN rfl rfl _) (lB rfl)]
 have k0 := @k_impl_in.eq_1; have f0 := @impl_in.eq_1
 exact gs
theorem slices_Clone_Decl_ok : ∀ (s : List (GDecl)), Ok (slices_Clone_Decl s) e_slices_Clone_Decl (dn FTA n_slices_Clone_Decl [.t (.sl false (s.map GDecl.row))]) := by
 intro s
 cases s with
 | nil =>
  intro r hr
  unfold slices_Clone_Decl at hr
  obtain ⟨_, _, h⟩ := Option.bind_eq_some_iff.1 hr
  cases h
  exact den_ext FTA.ft (xOf FTA) (xOf_nil rfl)
 | cons x s =>
  simp only [List.map_cons]
  rw [den_ev FTA (fn := k_slices_Clone_Decl) rfl (xOf_cons rfl _ _) (Nat.le_of_ble_eq_true rfl)]
  simp only [SSA, RS, c_slices_Clone_Decl, k_slices_Clone_Decl, slices_Clone_Decl, reduceAdd, reduceSub, reduceMul, reduceLeDiff, reduceLT, reduceEqDiff, Nat.reduceBEq, ↓reduceIte, reduceCtorEq]
  refine Ok_prim fun a h => ?_
  simp only [SSA, RS, *, reduceAdd, reduceSub, reduceMul, reduceLeDiff, reduceLT, reduceEqDiff, Nat.reduceBEq, ↓reduceIte, reduceCtorEq]
  exact Ok_ret rfl
theorem slices_Clone_Attr_ok : ∀ (s : List (GAttr)), Ok (slices_Clone_Attr s) e_slices_Clone_Attr (dn FTA n_slices_Clone_Attr [.t (.sl false (s.map GAttr.row))]) := by
 intro s
 cases s with
 | nil =>
  intro r hr
  unfold slices_Clone_Attr at hr
  obtain ⟨_, _, h⟩ := Option.bind_eq_some_iff.1 hr
  cases h
  exact den_ext FTA.ft (xOf FTA) (xOf_nil rfl)
 | cons x s =>
  simp only [List.map_cons]
  rw [den_ev FTA (fn := k_slices_Clone_Attr) rfl (xOf_cons rfl _ _) (Nat.le_of_ble_eq_true rfl)]
  simp only [SSA, RS, c_slices_Clone_Attr, k_slices_Clone_Attr, slices_Clone_Attr, reduceAdd, reduceSub, reduceMul, reduceLeDiff, reduceLT, reduceEqDiff, Nat.reduceBEq, ↓reduceIte, reduceCtorEq]
  refine Ok_prim fun a h => ?_
  simp only [SSA, RS, *, reduceAdd, reduceSub, reduceMul, reduceLeDiff, reduceLT, reduceEqDiff, Nat.reduceBEq, ↓reduceIte, reduceCtorEq]
  exact Ok_ret rfl
theorem G_impl_cloneNode : (∀ (n : GNode), Ok (impl_cloneNode n) e_impl_cloneNode (dn FTA n_impl_cloneNode [.agg (((GNode.row false) n).map .t)])) ∧
  (∀ (l : List GNode), Ok (impl_cloneNodes l) e_impl_cloneNodes (dn FTA n_impl_cloneNodes [.t (.sl false (l.map (GNode.row false)))])) ∧
  (∀ (out : List (GNode)) (l : List GNode) (x1 : Int), Ok (impl_cloneNodes_l8 out l x1) e_impl_cloneNodes (ev FTA c_impl_cloneNodes (.loop k_impl_cloneNodes_l8) [.lv 0, .th k_impl_cloneNodes_r4] (putS (List.replicate 19 .dead) [(3, .ref (16, 0) out.length), (6, .t (.sl false (l.map (GNode.row false)))), (7, .t (.v (.int .i64 (lenL l)))), (8, .t (.v (.int .i64 x1)))]) (putR (List.replicate 19 []) [(16, [.mem (out.map (GNode.row true)) 0 false])]))) := by
 unfold Ok
 refine impl_cloneNode.mutual_partial_correctness _ _ _ ?_ ?_ ?_
 ·intro F1 ih1 n
  show Ok _ _ _
  have ih1 : ∀ (l : List GNode), Ok (F1 l) _ _ := ih1
  rw [den_ev FTA (fn := k_impl_cloneNode) rfl (xN rfl rfl _) (lB rfl)]
  have k0 := @k_impl_cloneNode.eq_1; have g0 := slices_Clone_Decl_ok; have g1 := slices_Clone_Attr_ok; have g2 := ih1
  exact gs
 ·intro F2 ih2 l
  show Ok _ _ _
  have ih2 : ∀ (out : List (GNode)) (l : List GNode) (x1 : Int), Ok (F2 out l x1) _ _ := ih2
  rw [den_ev FTA (fn := k_impl_cloneNodes) rfl (xN rfl rfl _) (lB rfl)]
  have k0 := @k_impl_cloneNodes.eq_1; have t0 := ih2
  exact gs
 ·intro F0 F2 ih0 ih2 out l x1
  show Ok _ _ _
  have ih0 : ∀ (n : GNode), Ok (F0 n) _ _ := ih0
  have ih2 : ∀ (out : List (GNode)) (l : List GNode) (x1 : Int), Ok (F2 out l x1) _ _ := ih2
  rw [ev_loop]
  have k0 := @k_impl_cloneNodes_l8.eq_1; have k1 := @k_impl_cloneNodes_r4.eq_1; have g0 := ih0; have t0 := ih2
  exact gs
theorem impl_cloneNode_ok (n : GNode) : Ok (impl_cloneNode n) e_impl_cloneNode (dn FTA n_impl_cloneNode [.agg (((GNode.row false) n).map .t)]) := G_impl_cloneNode.1 n
theorem impl_cloneNodes_ok (l : List GNode) : Ok (impl_cloneNodes l) e_impl_cloneNodes (dn FTA n_impl_cloneNodes [.t (.sl false (l.map (GNode.row false)))]) := G_impl_cloneNode.2.1 l
theorem impl_NodeAt_l6_ok (path : List Int) : ∀ (x2 : Int) (n1 : GNode), Ok (impl_NodeAt_l6 path x2 n1) e_impl_NodeAt (ev FTA c_impl_NodeAt (.loop k_impl_NodeAt_l6) [.lv 0, .th k_impl_NodeAt_r2] (putS (List.replicate 30 .dead) [(2, .ptr (2, 0) [] 0 0 1 0), (4, .ptr (4, 0) [] 0 0 1 0), (8, .t (.sl false (path.map rI))), (9, .t (.v (.int .i64 (lenL path)))), (10, .t (.v (.int .i64 x2)))]) (putR (List.replicate 30 []) [(2, [.mem [[.v (.int .i64 n1.Kind), .v (.string n1.Pre), .v (.string n1.Local), .v (.string n1.Uri), .sl false (n1.Decls.map GDecl.row), .sl false (n1.Attrs.map GAttr.row), .sl false (n1.Kids.map (GNode.row false)), .v (.string n1.Text)]] 0 false]), (4, [.mem [[.v (.int .i64 0), .v (.string (⟨#[]⟩)), .v (.string (⟨#[]⟩)), .v (.string (⟨#[]⟩)), .sl true [], .sl true [], .sl true [], .v (.string (⟨#[]⟩))]] 0 false])])) := by
 unfold Ok
 refine impl_NodeAt_l6.partial_correctness path _ ?_
 intro F ih x2 n1
 show Ok _ _ _
 have ih : ∀ (x2 : Int) (n1 : GNode), Ok (F x2 n1) _ _ := ih
 rw [ev_loop]
 have k0 := @k_impl_NodeAt_l6.eq_1; have k1 := @k_impl_NodeAt_r2.eq_1; have g0 := impl_in_ok; have g1 := impl_cloneNode_ok; have t0 := ih
 exact gs
theorem impl_NodeAt_ok : ∀ (n : GNode) (path : List Int), Ok (impl_NodeAt n path) e_impl_NodeAt (dn FTA n_impl_NodeAt [.agg (((GNode.row false) n).map .t), .t (.sl false (path.map rI))]) := by
 intro n path
 rw [den_ev FTA (fn := k_impl_NodeAt) rfl (xN rfl rfl _) (lB rfl)]
 have k0 := @k_impl_NodeAt.eq_1; have f0 := @impl_NodeAt.eq_1; have t0 := impl_NodeAt_l6_ok
 exact gs
theorem spec_NodeAt_l8_ok (path : List Int) : ∀ (i : Int) (x2 : GNode), Ok (spec_NodeAt_l8 path i x2) e_spec_NodeAt (ev FTA c_spec_NodeAt (.loop k_spec_NodeAt_l8) [.lv 0, .th k_spec_NodeAt_r4] (putS (List.replicate 36 .dead) [(1, .t (.sl false (path.map rI))), (4, .ptr (4, 0) [] 0 0 1 0), (6, .ptr (6, 0) [] 0 0 1 0), (7, .t (.v (.int .i64 i)))]) (putR (List.replicate 36 []) [(4, [.mem [[.v (.int .i64 0), .v (.string (⟨#[]⟩)), .v (.string (⟨#[]⟩)), .v (.string (⟨#[]⟩)), .sl true [], .sl true [], .sl true [], .v (.string (⟨#[]⟩))]] 0 false]), (6, [.mem [[.v (.int .i64 x2.Kind), .v (.string x2.Pre), .v (.string x2.Local), .v (.string x2.Uri), .sl false (x2.Decls.map GDecl.row), .sl false (x2.Attrs.map GAttr.row), .sl false (x2.Kids.map (GNode.row false)), .v (.string x2.Text)]] 0 false])])) := by
 unfold Ok
 refine spec_NodeAt_l8.partial_correctness path _ ?_
 intro F ih i x2
 show Ok _ _ _
 have ih : ∀ (i : Int) (x2 : GNode), Ok (F i x2) _ _ := ih
 rw [ev_loop]
 have k0 := @k_spec_NodeAt_l8.eq_1; have k1 := @k_spec_NodeAt_r4.eq_1; have g0 := spec_l1In_ok; have g1 := spec_l5Copy_ok; have t0 := ih
 exact gs
theorem spec_NodeAt_ok : ∀ (n : GNode) (path : List Int), Ok (spec_NodeAt n path) e_spec_NodeAt (dn FTA n_spec_NodeAt [.agg (((GNode.row false) n).map .t), .t (.sl false (path.map rI))]) := by
 intro n path
 rw [den_ev FTA (fn := k_spec_NodeAt) rfl (xN rfl rfl _) (lB rfl)]
 have k0 := @k_spec_NodeAt.eq_1; have f0 := @spec_NodeAt.eq_1; have t0 := spec_NodeAt_l8_ok
 exact gs
theorem spec_DrawSamePath_j27_ok : ∀ (a : List (Int)) (b2 : List (Int)) (c2 : Gl1Cur), Ok (spec_DrawSamePath_j27 a b2 c2) e_spec_DrawSamePath (ev FTA c_spec_DrawSamePath k_spec_DrawSamePath_r27 [] (putS (List.replicate 45 .dead) [(4, .ptr (10, 0) [] 0 0 1 0), (5, .ref (11, 0) a.length), (6, .ref (12, 0) b2.length)]) (putR (List.replicate 45 []) [(10, [.mem [[.sl false (c2.xb.map (rK .u8)), .v (.int .i64 c2.xi), .v (.int .i64 c2.xh)]] 0 false]), (11, [.mem (a.map rI) 0 false]), (12, [.mem (b2.map rI) 0 false])])) := by
 intro a b2 c2
 have k0 := @k_spec_DrawSamePath_r27.eq_1; have f0 := @spec_DrawSamePath_j27.eq_1; have g0 := spec_l1Once_ok; have g1 := spec_l1Below_ok
 exact gs
theorem spec_DrawSamePath_l12_ok : ∀ (a : List (Int)) (b1 : List (Int)) (i : Int) (c1 : Gl1Cur), Ok (spec_DrawSamePath_l12 a b1 i c1) e_spec_DrawSamePath (ev FTA c_spec_DrawSamePath (.loop k_spec_DrawSamePath_l12) [.lv 0, .th k_spec_DrawSamePath_r8] (putS (List.replicate 45 .dead) [(4, .ptr (10, 0) [] 0 0 1 0), (5, .ref (11, 0) a.length), (6, .ref (12, 0) b1.length), (7, .t (.v (.int .i64 i)))]) (putR (List.replicate 45 []) [(10, [.mem [[.sl false (c1.xb.map (rK .u8)), .v (.int .i64 c1.xi), .v (.int .i64 c1.xh)]] 0 false]), (11, [.mem (a.map rI) 0 false]), (12, [.mem (b1.map rI) 0 false])])) := by
 unfold Ok
 refine spec_DrawSamePath_l12.partial_correctness _ ?_
 intro F ih a b1 i c1
 show Ok _ _ _
 have ih : ∀ (a : List (Int)) (b1 : List (Int)) (i : Int) (c1 : Gl1Cur), Ok (F a b1 i c1) _ _ := ih
 rw [ev_loop]
 have k0 := @k_spec_DrawSamePath_l12.eq_1; have k1 := @k_spec_DrawSamePath_r8.eq_1; have g0 := spec_l1Below_ok; have g1 := spec_l1Once_ok; have t0 := ih; have t1 := spec_DrawSamePath_j27_ok
 exact gs
theorem spec_DrawSamePath_ok : ∀ (code : List Int), Ok (spec_DrawSamePath code) e_spec_DrawSamePath (dn FTA n_spec_DrawSamePath [.t (.sl false (code.map (rK .u8)))]) := by
 intro code
 rw [den_ev FTA (fn := k_spec_DrawSamePath) rfl (xN rfl rfl _) (lB rfl)]
 have k0 := @k_spec_DrawSamePath.eq_1; have f0 := @spec_DrawSamePath.eq_1; have g0 := spec_l1New_ok; have g1 := spec_l1Below_ok; have t0 := spec_DrawSamePath_l12_ok
 exact gs
theorem spec_DrawUnder_j27_ok : ∀ (a2 : List (Int)) (b : List (Int)) (c2 : Gl1Cur), Ok (spec_DrawUnder_j27 a2 b c2) e_spec_DrawUnder (ev FTA c_spec_DrawUnder k_spec_DrawUnder_r27 [] (putS (List.replicate 45 .dead) [(4, .ptr (10, 0) [] 0 0 1 0), (5, .ref (11, 0) a2.length), (6, .ref (12, 0) b.length)]) (putR (List.replicate 45 []) [(10, [.mem [[.sl false (c2.xb.map (rK .u8)), .v (.int .i64 c2.xi), .v (.int .i64 c2.xh)]] 0 false]), (11, [.mem (a2.map rI) 0 false]), (12, [.mem (b.map rI) 0 false])])) := by
 intro a2 b c2
 have k0 := @k_spec_DrawUnder_r27.eq_1; have f0 := @spec_DrawUnder_j27.eq_1; have g0 := spec_l1Once_ok; have g1 := spec_l1Below_ok
 exact gs
theorem spec_DrawUnder_l12_ok : ∀ (a1 : List (Int)) (b : List (Int)) (i : Int) (c1 : Gl1Cur), Ok (spec_DrawUnder_l12 a1 b i c1) e_spec_DrawUnder (ev FTA c_spec_DrawUnder (.loop k_spec_DrawUnder_l12) [.lv 0, .th k_spec_DrawUnder_r8] (putS (List.replicate 45 .dead) [(4, .ptr (10, 0) [] 0 0 1 0), (5, .ref (11, 0) a1.length), (6, .ref (12, 0) b.length), (7, .t (.v (.int .i64 i)))]) (putR (List.replicate 45 []) [(10, [.mem [[.sl false (c1.xb.map (rK .u8)), .v (.int .i64 c1.xi), .v (.int .i64 c1.xh)]] 0 false]), (11, [.mem (a1.map rI) 0 false]), (12, [.mem (b.map rI) 0 false])])) := by
 unfold Ok
 refine spec_DrawUnder_l12.partial_correctness _ ?_
 intro F ih a1 b i c1
 show Ok _ _ _
 have ih : ∀ (a1 : List (Int)) (b : List (Int)) (i : Int) (c1 : Gl1Cur), Ok (F a1 b i c1) _ _ := ih
 rw [ev_loop]
 have k0 := @k_spec_DrawUnder_l12.eq_1; have k1 := @k_spec_DrawUnder_r8.eq_1; have g0 := spec_l1Below_ok; have g1 := spec_l1Once_ok; have t0 := ih; have t1 := spec_DrawUnder_j27_ok
 exact gs
theorem spec_DrawUnder_ok : ∀ (code : List Int), Ok (spec_DrawUnder code) e_spec_DrawUnder (dn FTA n_spec_DrawUnder [.t (.sl false (code.map (rK .u8)))]) := by
 intro code
 rw [den_ev FTA (fn := k_spec_DrawUnder) rfl (xN rfl rfl _) (lB rfl)]
 have k0 := @k_spec_DrawUnder.eq_1; have f0 := @spec_DrawUnder.eq_1; have g0 := spec_l1New_ok; have g1 := spec_l1Below_ok; have t0 := spec_DrawUnder_l12_ok
 exact gs
theorem slices_Equal_Decl_l14_ok (s1 : List GDecl) (s2 : List GDecl) : ∀ (x2 : Int), Ok (slices_Equal_Decl_l14 s1 s2 x2) e_slices_Equal_Decl (ev FTA c_slices_Equal_Decl (.loop k_slices_Equal_Decl_l14) [.lv 0, .th k_slices_Equal_Decl_r10] (putS (List.replicate 26 .dead) [(0, .t (.sl false (s1.map GDecl.row))), (1, .t (.sl false (s2.map GDecl.row))), (12, .t (.v (.int .i64 (lenL s1)))), (13, .t (.v (.int .i64 x2)))]) (putR (List.replicate 26 []) [])) := by
 unfold Ok
 refine slices_Equal_Decl_l14.partial_correctness s1 s2 _ ?_
 intro F ih x2
 show Ok _ _ _
 have ih : ∀ (x2 : Int), Ok (F x2) _ _ := ih
 rw [ev_loop]
 have k0 := @k_slices_Equal_Decl_l14.eq_1; have k1 := @k_slices_Equal_Decl_r10.eq_1; have t0 := ih
 exact gs
theorem slices_Equal_Decl_ok : ∀ (s1 : List GDecl) (s2 : List GDecl), Ok (slices_Equal_Decl s1 s2) e_slices_Equal_Decl (dn FTA n_slices_Equal_Decl [.t (.sl false (s1.map GDecl.row)), .t (.sl false (s2.map GDecl.row))]) := by
 intro s1 s2
 rw [den_ev FTA (fn := k_slices_Equal_Decl) rfl (xN rfl rfl _) (lB rfl)]
 have k0 := @k_slices_Equal_Decl.eq_1; have f0 := @slices_Equal_Decl.eq_1; have t0 := slices_Equal_Decl_l14_ok
 exact gs
theorem slices_Equal_Attr_l14_ok (s1 : List GAttr) (s2 : List GAttr) : ∀ (x2 : Int), Ok (slices_Equal_Attr_l14 s1 s2 x2) e_slices_Equal_Attr (ev FTA c_slices_Equal_Attr (.loop k_slices_Equal_Attr_l14) [.lv 0, .th k_slices_Equal_Attr_r10] (putS (List.replicate 26 .dead) [(0, .t (.sl false (s1.map GAttr.row))), (1, .t (.sl false (s2.map GAttr.row))), (12, .t (.v (.int .i64 (lenL s1)))), (13, .t (.v (.int .i64 x2)))]) (putR (List.replicate 26 []) [])) := by
 unfold Ok
 refine slices_Equal_Attr_l14.partial_correctness s1 s2 _ ?_
 intro F ih x2
 show Ok _ _ _
 have ih : ∀ (x2 : Int), Ok (F x2) _ _ := ih
 rw [ev_loop]
 have k0 := @k_slices_Equal_Attr_l14.eq_1; have k1 := @k_slices_Equal_Attr_r10.eq_1; have t0 := ih
 exact gs
theorem slices_Equal_Attr_ok : ∀ (s1 : List GAttr) (s2 : List GAttr), Ok (slices_Equal_Attr s1 s2) e_slices_Equal_Attr (dn FTA n_slices_Equal_Attr [.t (.sl false (s1.map GAttr.row)), .t (.sl false (s2.map GAttr.row))]) := by
 intro s1 s2
 rw [den_ev FTA (fn := k_slices_Equal_Attr) rfl (xN rfl rfl _) (lB rfl)]
 have k0 := @k_slices_Equal_Attr.eq_1; have f0 := @slices_Equal_Attr.eq_1; have t0 := slices_Equal_Attr_l14_ok
 exact gs
theorem impl_sameAlone_ok : ∀ (a : GNode) (b : GNode), Ok (impl_sameAlone a b) e_impl_sameAlone (dn FTA n_impl_sameAlone [.agg (((GNode.row false) a).map .t), .agg (((GNode.row false) b).map .t)]) := by
 intro a b
 rw [den_ev FTA (fn := k_impl_sameAlone) rfl (xN rfl rfl _) (lB rfl)]
 have k0 := @k_impl_sameAlone.eq_1; have f0 := @impl_sameAlone.eq_1; have g0 := slices_Equal_Decl_ok; have g1 := slices_Equal_Attr_ok
 exact gs
theorem G_impl_SameNode : (∀ (a : GNode) (b : GNode), Ok (impl_SameNode a b) e_impl_SameNode (dn FTA n_impl_SameNode [.agg (((GNode.row false) a).map .t), .agg (((GNode.row false) b).map .t)])) ∧
  (∀ (s1 : List GNode) (s2 : List GNode), Ok (slices_EqualFunc_Node_SameNode s1 s2) e_slices_EqualFunc_Node_SameNode (dn FTA n_slices_EqualFunc_Node [.t (.sl false (s1.map (GNode.row false))), .t (.sl false (s2.map (GNode.row false))), .fn n_impl_SameNode []])) ∧
  (∀ (s2 : List GNode) (s1 : List GNode) (x2 : Int), Ok (slices_EqualFunc_Node_SameNode_l14 s2 s1 x2) e_slices_EqualFunc_Node_SameNode (ev FTA c_slices_EqualFunc_Node_SameNode (.loop k_slices_EqualFunc_Node_l14) [.lv 0, .th k_slices_EqualFunc_Node_r10] (putS (List.replicate 32 .dead) [(1, .t (.sl false (s2.map (GNode.row false)))), (2, .fn n_impl_SameNode []), (15, .t (.sl false (s1.map (GNode.row false)))), (16, .t (.v (.int .i64 (lenL s1)))), (17, .t (.v (.int .i64 x2)))]) (putR (List.replicate 32 []) []))) := by
 unfold Ok
 refine impl_SameNode.mutual_partial_correctness _ _ _ ?_ ?_ ?_
 ·intro F1 ih1 a b
  show Ok _ _ _
  have ih1 : ∀ (s1 : List GNode) (s2 : List GNode), Ok (F1 s1 s2) _ _ := ih1
  rw [den_ev FTA (fn := k_impl_SameNode) rfl (xN rfl rfl _) (lB rfl)]
  have k0 := @k_impl_SameNode.eq_1; have g0 := impl_sameAlone_ok; have g1 := ih1
  exact gs
 ·intro F2 ih2 s1 s2
  show Ok _ _ _
  have ih2 : ∀ (s2 : List GNode) (s1 : List GNode) (x2 : Int), Ok (F2 s2 s1 x2) _ _ := ih2
  rw [den_ev FTA (fn := k_slices_EqualFunc_Node) rfl (xN rfl rfl _) (lB rfl)]
  have k0 := @k_slices_EqualFunc_Node.eq_1; have t0 := ih2
  exact gs
 ·intro F0 F2 ih0 ih2 s2 s1 x2
  show Ok _ _ _
  have ih0 : ∀ (a : GNode) (b : GNode), Ok (F0 a b) _ _ := ih0
  have ih2 : ∀ (s2 : List GNode) (s1 : List GNode) (x2 : Int), Ok (F2 s2 s1 x2) _ _ := ih2
  rw [ev_loop]
  have k0 := @k_slices_EqualFunc_Node_l14.eq_1; have k1 := @k_slices_EqualFunc_Node_r10.eq_1; have g0 := ih0; have t0 := ih2
  exact gs
end TT
