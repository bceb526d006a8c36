import Derived.Test.YtjljocncnibofaaGreatDoorTLLb
set_option maxHeartbeats 40000000
set_option linter.unusedVariables false
set_option linter.unusedSimpArgs false
set_option linter.defProp false
set_option maxRecDepth 100000
namespace TT
open Go
open Nat (reduceAdd reduceSub reduceMul reduceLeDiff reduceLT reduceEqDiff)
theorem spec_DeclOk_ok : ∀ (d : GDecl), Ok (spec_DeclOk d) e_spec_DeclOk (dn FTA n_spec_DeclOk [.agg ((GDecl.row d).map .t)]) := by
 intro d
 rw [den_ev FTA (fn := k_spec_DeclOk) rfl (xN rfl rfl _) (lB rfl)]
 have k0 := @k_spec_DeclOk.eq_1; have f0 := @spec_DeclOk.eq_1; have g0 := spec_PlainOk_ok; have g1 := spec_l4Xml_ok; have t0 := spec_DeclOk_j2_ok
 exact gs
theorem spec_DeclsOk_l6_ok (l : List GDecl) : ∀ (i : Int), Ok (spec_DeclsOk_l6 l i) e_spec_DeclsOk (ev FTA c_spec_DeclsOk (.loop k_spec_DeclsOk_l6) [.lv 0, .th k_spec_DeclsOk_r2] (putS (List.replicate 37 .dead) [(0, .t (.sl false (l.map GDecl.row))), (3, .t (.v (.int .i64 i)))]) (putR (List.replicate 37 []) [])) := by
 unfold Ok
 refine spec_DeclsOk_l6.partial_correctness l _ ?_
 intro F ih i
 show Ok _ _ _
 have ih : ∀ (i : Int), Ok (F i) _ _ := ih
 rw [ev_loop]
 have k0 := @k_spec_DeclsOk_l6.eq_1; have k1 := @k_spec_DeclsOk_r2.eq_1; have g0 := spec_DeclOk_ok; have t0 := ih
 exact gs
theorem spec_DeclsOk_ok : ∀ (l : List GDecl), Ok (spec_DeclsOk l) e_spec_DeclsOk (dn FTA n_spec_DeclsOk [.t (.sl false (l.map GDecl.row))]) := by
 intro l
 rw [den_ev FTA (fn := k_spec_DeclsOk) rfl (xN rfl rfl _) (lB rfl)]
 have k0 := @k_spec_DeclsOk.eq_1; have f0 := @spec_DeclsOk.eq_1; have t0 := spec_DeclsOk_l6_ok
 exact gs
theorem spec_l5Bare_ok : ∀ (n : GNode), Ok (spec_l5Bare n) e_spec_l5Bare (dn FTA n_spec_l5Bare [.agg (((GNode.row false) n).map .t)]) := by
 intro n
 rw [den_ev FTA (fn := k_spec_l5Bare) rfl (xN rfl rfl _) (lB rfl)]
 have k0 := @k_spec_l5Bare.eq_1; have f0 := @spec_l5Bare.eq_1
 exact gs
theorem spec_l5Has_l6_ok (s : ByteArray) (t : ByteArray) : ∀ (i : Int), Ok (spec_l5Has_l6 s t i) e_spec_l5Has (ev FTA c_spec_l5Has (.loop k_spec_l5Has_l6) [.lv 0, .th k_spec_l5Has_r2] (putS (List.replicate 24 .dead) [(0, .t (.v (.string s))), (1, .t (.v (.string t))), (5, .t (.v (.int .i64 i)))]) (putR (List.replicate 24 []) [])) := by
 unfold Ok
 refine spec_l5Has_l6.partial_correctness s t _ ?_
 intro F ih i
 show Ok _ _ _
 have ih : ∀ (i : Int), Ok (F i) _ _ := ih
 rw [ev_loop]
 have k0 := @k_spec_l5Has_l6.eq_1; have k1 := @k_spec_l5Has_r2.eq_1; have t0 := ih
 exact gs
theorem spec_l5Has_ok : ∀ (s : ByteArray) (t : ByteArray), Ok (spec_l5Has s t) e_spec_l5Has (dn FTA n_spec_l5Has [.t (.v (.string s)), .t (.v (.string t))]) := by
 intro s t
 rw [den_ev FTA (fn := k_spec_l5Has) rfl (xN rfl rfl _) (lB rfl)]
 have k0 := @k_spec_l5Has.eq_1; have f0 := @spec_l5Has.eq_1; have t0 := spec_l5Has_l6_ok
 exact gs
theorem spec_l5Xml_ok : ∀ (s : ByteArray), Ok (spec_l5Xml s) e_spec_l5Xml (dn FTA n_spec_l5Xml [.t (.v (.string s))]) := by
 intro s
 rw [den_ev FTA (fn := k_spec_l5Xml) rfl (xN rfl rfl _) (lB rfl)]
 have k0 := @k_spec_l5Xml.eq_1; have f0 := @spec_l5Xml.eq_1
 exact gs
theorem spec_IsBlank_ok : ∀ (n : Int), Ok (spec_IsBlank n) e_spec_IsBlank (dn FTA n_spec_IsBlank [.t (.v (.int .i64 n))]) := by
 intro n
 rw [den_ev FTA (fn := k_spec_IsBlank) rfl (xN rfl rfl _) (lB rfl)]
 have k0 := @k_spec_IsBlank.eq_1; have f0 := @spec_IsBlank.eq_1
 exact gs
theorem spec_l5AttrOk_j2_ok : ∀ (a : GAttr), Ok (spec_l5AttrOk_j2 a) e_spec_l5AttrOk (ev FTA c_spec_l5AttrOk k_spec_l5AttrOk_r2 [] (putS (List.replicate 46 .dead) [(1, .ptr (1, 0) [] 0 0 1 0)]) (putR (List.replicate 46 []) [(1, [.mem [[.v (.string a.Pre), .v (.string a.Local), .v (.string a.Uri), .v (.string a.Val)]] 0 false])])) := by
 intro a
 have k0 := @k_spec_l5AttrOk_r2.eq_1; have f0 := @spec_l5AttrOk_j2.eq_1; have g0 := spec_TextOk_ok
 exact gs
theorem spec_l5AttrOk_ok : ∀ (a : GAttr), Ok (spec_l5AttrOk a) e_spec_l5AttrOk (dn FTA n_spec_l5AttrOk [.agg ((GAttr.row a).map .t)]) := by
 intro a
 rw [den_ev FTA (fn := k_spec_l5AttrOk) rfl (xN rfl rfl _) (lB rfl)]
 have k0 := @k_spec_l5AttrOk.eq_1; have f0 := @spec_l5AttrOk.eq_1; have g0 := spec_l5Pre_ok; have g1 := spec_PlainOk_ok; have t0 := spec_l5AttrOk_j2_ok
 exact gs
theorem spec_l5One_l21_ok (n : GNode) : ∀ (i : Int), Ok (spec_l5One_l21 i n) e_spec_l5One (ev FTA c_spec_l5One (.loop k_spec_l5One_l21) [.lv 1, .th k_spec_l5One_r17, .lv 0, .th k_spec_l5One_r2] (putS (List.replicate 195 .dead) [(1, .ptr (1, 0) [] 0 0 1 0), (3, .t (.v (.int .i64 i)))]) (putR (List.replicate 195 []) [(1, [.mem [[.v (.int .i64 n.Kind), .v (.string n.Pre), .v (.string n.Local), .v (.string n.Uri), .sl false (n.Decls.map GDecl.row), .sl false (n.Attrs.map GAttr.row), .sl false (n.Kids.map (GNode.row false)), .v (.string n.Text)]] 0 false])])) := by
 unfold Ok
 refine spec_l5One_l21.partial_correctness n _ ?_
 intro F ih i
 show Ok _ _ _
 have ih : ∀ (i : Int), Ok (F i) _ _ := ih
 rw [ev_loop]
 have k0 := @k_spec_l5One_l21.eq_1; have k1 := @k_spec_l5One_r17.eq_1; have g0 := spec_l5AttrOk_ok; have g1 := spec_l5Less_ok; have t0 := ih
 exact gs
theorem spec_l5One_j9_ok : ∀ (n : GNode), Ok (spec_l5One_j9 n) e_spec_l5One (ev FTA c_spec_l5One k_spec_l5One_r9 [.lv 0, .th k_spec_l5One_r2] (putS (List.replicate 195 .dead) [(1, .ptr (1, 0) [] 0 0 1 0)]) (putR (List.replicate 195 []) [(1, [.mem [[.v (.int .i64 n.Kind), .v (.string n.Pre), .v (.string n.Local), .v (.string n.Uri), .sl false (n.Decls.map GDecl.row), .sl false (n.Attrs.map GAttr.row), .sl false (n.Kids.map (GNode.row false)), .v (.string n.Text)]] 0 false])])) := by
 intro n
 have k0 := @k_spec_l5One_r9.eq_1; have f0 := @spec_l5One_j9.eq_1; have t0 := spec_l5One_l21_ok
 exact gs
theorem spec_l5One_ok : ∀ (n : GNode), Ok (spec_l5One n) e_spec_l5One (dn FTA n_spec_l5One [.agg (((GNode.row false) n).map .t)]) := by
 intro n
 rw [den_ev FTA (fn := k_spec_l5One) rfl (xN rfl rfl _) (lB rfl)]
 have k0 := @k_spec_l5One.eq_1; have k1 := @k_spec_l5One_r2.eq_1; have f0 := @spec_l5One.eq_1; have g0 := spec_l5Pre_ok; have g1 := spec_PlainOk_ok; have g2 := spec_TextOk_ok; have g3 := spec_DeclsOk_ok; have g4 := spec_l5Bare_ok; have g5 := spec_l5Has_ok; have g6 := spec_l5Xml_ok; have g7 := spec_IsBlank_ok; have t0 := spec_l5One_j9_ok
 exact gs
theorem G_spec_l5Kids : (∀ (l : List GNode) (deep : Int), Ok (spec_l5Kids l deep) e_spec_l5Kids (dn FTA n_spec_l5Kids [.t (.sl false (l.map (GNode.row false))), .t (.v (.int .i64 deep))])) ∧
  (∀ (l : List GNode) (deep : Int) (i : Int), Ok (spec_l5Kids_l6 l deep i) e_spec_l5Kids (ev FTA c_spec_l5Kids (.loop k_spec_l5Kids_l6) [.lv 0, .th k_spec_l5Kids_r2] (putS (List.replicate 53 .dead) [(0, .t (.sl false (l.map (GNode.row false)))), (1, .t (.v (.int .i64 deep))), (5, .t (.v (.int .i64 i)))]) (putR (List.replicate 53 []) []))) ∧
  (∀ (l : List GNode) (deep : Int) (i : Int) (x2 : GNode), Ok (spec_l5Kids_j17 l deep i x2) e_spec_l5Kids (ev FTA c_spec_l5Kids k_spec_l5Kids_r17 [.lv 1, .th k_spec_l5Kids_r13, .hk [.clean [6]], .th (.loop k_spec_l5Kids_l6), .lv 0, .th k_spec_l5Kids_r2] (putS (List.replicate 53 .dead) [(0, .t (.sl false (l.map (GNode.row false)))), (1, .t (.v (.int .i64 deep))), (5, .t (.v (.int .i64 i))), (6, .ptr (6, 0) [] 0 0 1 0)]) (putR (List.replicate 53 []) [(6, [.mem [[.v (.int .i64 x2.Kind), .v (.string x2.Pre), .v (.string x2.Local), .v (.string x2.Uri), .sl false (x2.Decls.map GDecl.row), .sl false (x2.Attrs.map GAttr.row), .sl false (x2.Kids.map (GNode.row false)), .v (.string x2.Text)]] 0 false])]))) := by
 unfold Ok
 refine spec_l5Kids.mutual_partial_correctness _ _ _ ?_ ?_ ?_
 ·intro F1 ih1 l deep
  show Ok _ _ _
  have ih1 : ∀ (l : List GNode) (deep : Int) (i : Int), Ok (F1 l deep i) _ _ := ih1
  rw [den_ev FTA (fn := k_spec_l5Kids) rfl (xN rfl rfl _) (lB rfl)]
  have k0 := @k_spec_l5Kids.eq_1; have t0 := ih1
  exact gs
 ·intro F2 ih2 l deep i
  show Ok _ _ _
  have ih2 : ∀ (l : List GNode) (deep : Int) (i : Int) (x2 : GNode), Ok (F2 l deep i x2) _ _ := ih2
  rw [ev_loop]
  have k0 := @k_spec_l5Kids_l6.eq_1; have k1 := @k_spec_l5Kids_r2.eq_1; have g0 := spec_l5One_ok; have t0 := ih2
  exact gs
 ·intro F0 F1 ih0 ih1 l deep i x2
  show Ok _ _ _
  have ih0 : ∀ (l : List GNode) (deep : Int), Ok (F0 l deep) _ _ := ih0
  have ih1 : ∀ (l : List GNode) (deep : Int) (i : Int), Ok (F1 l deep i) _ _ := ih1
  have k0 := @k_spec_l5Kids_r17.eq_1; have k1 := @k_spec_l5Kids_r13.eq_1; have g0 := ih0; have t0 := ih1
  exact gs
theorem spec_l5Kids_ok (l : List GNode) (deep : Int) : Ok (spec_l5Kids l deep) e_spec_l5Kids (dn FTA n_spec_l5Kids [.t (.sl false (l.map (GNode.row false))), .t (.v (.int .i64 deep))]) := G_spec_l5Kids.1 l deep
theorem G_spec_NodeOk_j33 (n : GNode) : (∀ (k2 : Int) (i : Int), Ok (spec_NodeOk_j33 k2 i n) e_spec_NodeOk (ev FTA c_spec_NodeOk k_spec_NodeOk_r33 [.lv 1, .th k_spec_NodeOk_r31, .hk [.clean []], .th (.loop k_spec_NodeOk_l24), .lv 0, .th k_spec_NodeOk_r20] (putS (List.replicate 76 .dead) [(1, .ptr (1, 0) [] 0 0 1 0), (3, .t (.v (.int .i64 k2))), (4, .t (.v (.int .i64 i)))]) (putR (List.replicate 76 []) [(1, [.mem [[.v (.int .i64 n.Kind), .v (.string n.Pre), .v (.string n.Local), .v (.string n.Uri), .sl false (n.Decls.map GDecl.row), .sl false (n.Attrs.map GAttr.row), .sl false (n.Kids.map (GNode.row false)), .v (.string n.Text)]] 0 false])]))) ∧
  (∀ (k1 : Int) (i : Int), Ok (spec_NodeOk_l24 k1 i n) e_spec_NodeOk (ev FTA c_spec_NodeOk (.loop k_spec_NodeOk_l24) [.lv 0, .th k_spec_NodeOk_r20] (putS (List.replicate 76 .dead) [(1, .ptr (1, 0) [] 0 0 1 0), (3, .t (.v (.int .i64 k1))), (4, .t (.v (.int .i64 i)))]) (putR (List.replicate 76 []) [(1, [.mem [[.v (.int .i64 n.Kind), .v (.string n.Pre), .v (.string n.Local), .v (.string n.Uri), .sl false (n.Decls.map GDecl.row), .sl false (n.Attrs.map GAttr.row), .sl false (n.Kids.map (GNode.row false)), .v (.string n.Text)]] 0 false])]))) := by
 unfold Ok
 refine spec_NodeOk_j33.mutual_partial_correctness n _ _ ?_ ?_
 ·intro F1 ih1 k2 i
  show Ok _ _ _
  have ih1 : ∀ (k1 : Int) (i : Int), Ok (F1 k1 i) _ _ := ih1
  have k0 := @k_spec_NodeOk_r33.eq_1; have k1 := @k_spec_NodeOk_r31.eq_1; have t0 := ih1
  exact gs
 ·intro F0 ih0 k1 i
  show Ok _ _ _
  have ih0 : ∀ (k2 : Int) (i : Int), Ok (F0 k2 i) _ _ := ih0
  rw [ev_loop]
  have k0 := @k_spec_NodeOk_l24.eq_1; have k1 := @k_spec_NodeOk_r20.eq_1; have g0 := spec_l5Kids_ok; have t0 := ih0
  exact gs
theorem spec_NodeOk_ok : ∀ (n : GNode), Ok (spec_NodeOk n) e_spec_NodeOk (dn FTA n_spec_NodeOk [.agg (((GNode.row false) n).map .t)]) := by
 intro n
 rw [den_ev FTA (fn := k_spec_NodeOk) rfl (xN rfl rfl _) (lB rfl)]
 have k0 := @k_spec_NodeOk.eq_1; have f0 := @spec_NodeOk.eq_1; have g0 := spec_CountOf_ok; have g1 := spec_l5Kids_ok; have t0 := fun a0 => (G_spec_NodeOk_j33 a0).2
 exact gs
theorem spec_Rename_ok : ∀ (n : GNode) (l : List GDecl), Ok (spec_Rename n l) e_spec_Rename (dn FTA n_spec_Rename [.agg (((GNode.row false) n).map .t), .t (.sl false (l.map GDecl.row))]) := by
 intro n l
 rw [den_ev FTA (fn := k_spec_Rename) rfl (xN rfl rfl _) (lB rfl)]
 have k0 := @k_spec_Rename.eq_1; have f0 := @spec_Rename.eq_1; have g0 := spec_l14Rename_ok; have g1 := spec_NodeOk_ok; have g2 := spec_l5Copy_ok
 exact gs
theorem slices_Clone_Decl_ok : ∀ (s : List (GDecl)), Ok (slices_Clone_Decl s) e_slices_Clone_Decl (dn FTA n_slices_Clone_Decl [.t (.sl false (s.map GDecl.row))]) := by
 intro s
 cases s with
 | nil =>
  intro r hr
  unfold slices_Clone_Decl at hr
  obtain ⟨_, _, h⟩ := Option.bind_eq_some_iff.1 hr
  cases h
  exact den_ext FTA.ft (xOf FTA) (xOf_nil rfl)
 | cons x s =>
  simp only [List.map_cons]
  rw [den_ev FTA (fn := k_slices_Clone_Decl) rfl (xOf_cons rfl _ _) (Nat.le_of_ble_eq_true rfl)]
  simp only [SSA, RS, c_slices_Clone_Decl, k_slices_Clone_Decl, slices_Clone_Decl, reduceAdd, reduceSub, reduceMul, reduceLeDiff, reduceLT, reduceEqDiff, Nat.reduceBEq, ↓reduceIte, reduceCtorEq]
  refine Ok_prim fun a h => ?_
  simp only [SSA, RS, *, reduceAdd, reduceSub, reduceMul, reduceLeDiff, reduceLT, reduceEqDiff, Nat.reduceBEq, ↓reduceIte, reduceCtorEq]
  exact Ok_ret rfl
theorem slices_Clone_Attr_ok : ∀ (s : List (GAttr)), Ok (slices_Clone_Attr s) e_slices_Clone_Attr (dn FTA n_slices_Clone_Attr [.t (.sl false (s.map GAttr.row))]) := by
 intro s
 cases s with
 | nil =>
  intro r hr
  unfold slices_Clone_Attr at hr
  obtain ⟨_, _, h⟩ := Option.bind_eq_some_iff.1 hr
  cases h
  exact den_ext FTA.ft (xOf FTA) (xOf_nil rfl)
 | cons x s =>
  simp only [List.map_cons]
  rw [den_ev FTA (fn := k_slices_Clone_Attr) rfl (xOf_cons rfl _ _) (Nat.le_of_ble_eq_true rfl)]
  simp only [SSA, RS, c_slices_Clone_Attr, k_slices_Clone_Attr, slices_Clone_Attr, reduceAdd, reduceSub, reduceMul, reduceLeDiff, reduceLT, reduceEqDiff, Nat.reduceBEq, ↓reduceIte, reduceCtorEq]
  refine Ok_prim fun a h => ?_
  simp only [SSA, RS, *, reduceAdd, reduceSub, reduceMul, reduceLeDiff, reduceLT, reduceEqDiff, Nat.reduceBEq, ↓reduceIte, reduceCtorEq]
  exact Ok_ret rfl
theorem G_impl_cloneNode : (∀ (n : GNode), Ok (impl_cloneNode n) e_impl_cloneNode (dn FTA n_impl_cloneNode [.agg (((GNode.row false) n).map .t)])) ∧
  (∀ (l : List GNode), Ok (impl_cloneNodes l) e_impl_cloneNodes (dn FTA n_impl_cloneNodes [.t (.sl false (l.map (GNode.row false)))])) ∧
  (∀ (out : List (GNode)) (l : List GNode) (x1 : Int), Ok (impl_cloneNodes_l8 out l x1) e_impl_cloneNodes (ev FTA c_impl_cloneNodes (.loop k_impl_cloneNodes_l8) [.lv 0, .th k_impl_cloneNodes_r4] (putS (List.replicate 19 .dead) [(3, .ref (16, 0) out.length), (6, .t (.sl false (l.map (GNode.row false)))), (7, .t (.v (.int .i64 (lenL l)))), (8, .t (.v (.int .i64 x1)))]) (putR (List.replicate 19 []) [(16, [.mem (out.map (GNode.row true)) 0 false])]))) := by
 unfold Ok
 refine impl_cloneNode.mutual_partial_correctness _ _ _ ?_ ?_ ?_
 ·intro F1 ih1 n
  show Ok _ _ _
  have ih1 : ∀ (l : List GNode), Ok (F1 l) _ _ := ih1
  rw [den_ev FTA (fn := k_impl_cloneNode) rfl (xN rfl rfl _) (lB rfl)]
  have k0 := @k_impl_cloneNode.eq_1; have g0 := slices_Clone_Decl_ok; have g1 := slices_Clone_Attr_ok; have g2 := ih1
  exact gs
 ·intro F2 ih2 l
  show Ok _ _ _
  have ih2 : ∀ (out : List (GNode)) (l : List GNode) (x1 : Int), Ok (F2 out l x1) _ _ := ih2
  rw [den_ev FTA (fn := k_impl_cloneNodes) rfl (xN rfl rfl _) (lB rfl)]
  have k0 := @k_impl_cloneNodes.eq_1; have t0 := ih2
  exact gs
 ·intro F0 F2 ih0 ih2 out l x1
  show Ok _ _ _
  have ih0 : ∀ (n : GNode), Ok (F0 n) _ _ := ih0
  have ih2 : ∀ (out : List (GNode)) (l : List GNode) (x1 : Int), Ok (F2 out l x1) _ _ := ih2
  rw [ev_loop]
  have k0 := @k_impl_cloneNodes_l8.eq_1; have k1 := @k_impl_cloneNodes_r4.eq_1; have g0 := ih0; have t0 := ih2
  exact gs
theorem impl_cloneNode_ok (n : GNode) : Ok (impl_cloneNode n) e_impl_cloneNode (dn FTA n_impl_cloneNode [.agg (((GNode.row false) n).map .t)]) := G_impl_cloneNode.1 n
theorem impl_cloneNodes_ok (l : List GNode) : Ok (impl_cloneNodes l) e_impl_cloneNodes (dn FTA n_impl_cloneNodes [.t (.sl false (l.map (GNode.row false)))]) := G_impl_cloneNode.2.1 l
theorem slices_Concat_Decl_ok : ∀ (s : List (List (GDecl))), Ok (slices_Concat_Decl s) e_slices_Concat_Decl (dn FTA n_slices_Concat_Decl [.t (.sl false (s.map (rL false GDecl.row)))]) := by
 intro s r hr
 unfold slices_Concat_Decl at hr
 split at hr
 ·rename_i l m
  split at hr
  ·rename_i h
   cases hr
   refine den_ext FTA.ft (xOf FTA) ?_
   have hl : ∀ k : List (GDecl), ∀ row ∈ k.map GDecl.row, row.length = 2 := fun k row hrow => by obtain ⟨x, _, rfl⟩ := List.mem_map.1 hrow; first | rfl | (cases x <;> rfl)
   show x_concat 2 32 [.t (.sl false [[.sl false (l.map GDecl.row)], [.sl false (m.map GDecl.row)]])] = some ⟨[.t (.sl true ((l ++ m).map GDecl.row))], []⟩
   rw [x_concat, if_pos ⟨⟨hl l, hl m⟩, by simpa using h⟩, List.map_append]
  ·cases hr
 ·cases hr
theorem impl_Inner_ok : ∀ (l : List GDecl) (more : List GDecl), Ok (impl_Inner l more) e_impl_Inner (dn FTA n_impl_Inner [.t (.sl false (l.map GDecl.row)), .t (.sl false (more.map GDecl.row))]) := by
 intro l more
 rw [den_ev FTA (fn := k_impl_Inner) rfl (xN rfl rfl _) (lB rfl)]
 have k0 := @k_impl_Inner.eq_1; have f0 := @impl_Inner.eq_1; have g0 := slices_Concat_Decl_ok
 exact gs
end TT
