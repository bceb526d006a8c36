import Derived.Test.YtjljocncnibofaaGreatDoorTLLe
set_option maxHeartbeats 40000000
set_option linter.unusedVariables false
set_option linter.unusedSimpArgs false
set_option linter.defProp false
set_option maxRecDepth 100000
namespace TT
open Go
open Nat (reduceAdd reduceSub reduceMul reduceLeDiff reduceLT reduceEqDiff)
theorem impl_preOk_ok : ∀ (s : ByteArray), Ok (impl_preOk s) e_impl_preOk (dn FTA n_impl_preOk [.t (.v (.string s))]) := by
 intro s
 rw [den_ev FTA (fn := k_impl_preOk) rfl (xN rfl rfl _) (lB rfl)]
 have k0 := @k_impl_preOk.eq_1; have f0 := @impl_preOk.eq_1; have g0 := impl_PlainOk_ok; have g1 := strings_HasPrefix_ok
 exact gs
theorem impl_uriOk_ok : ∀ (uri : ByteArray) (pre : ByteArray), Ok (impl_uriOk uri pre) e_impl_uriOk (dn FTA n_impl_uriOk [.t (.v (.string uri)), .t (.v (.string pre))]) := by
 intro uri pre
 rw [den_ev FTA (fn := k_impl_uriOk) rfl (xN rfl rfl _) (lB rfl)]
 have k0 := @k_impl_uriOk.eq_1; have f0 := @impl_uriOk.eq_1; have g0 := impl_TextOk_ok
 exact gs
theorem impl_DeclOk_ok : ∀ (d : GDecl), Ok (impl_DeclOk d) e_impl_DeclOk (dn FTA n_impl_DeclOk [.agg ((GDecl.row d).map .t)]) := by
 intro d
 rw [den_ev FTA (fn := k_impl_DeclOk) rfl (xN rfl rfl _) (lB rfl)]
 have k0 := @k_impl_DeclOk.eq_1; have f0 := @impl_DeclOk.eq_1; have g0 := impl_preOk_ok; have g1 := impl_uriOk_ok
 exact gs
theorem impl_DeclsOk_l6_ok (l : List GDecl) : ∀ (x2 : Int), Ok (impl_DeclsOk_l6 l x2) e_impl_DeclsOk (ev FTA c_impl_DeclsOk (.loop k_impl_DeclsOk_l6) [.lv 0, .th k_impl_DeclsOk_r2] (putS (List.replicate 34 .dead) [(0, .t (.sl false (l.map GDecl.row))), (5, .t (.sl false (l.map GDecl.row))), (6, .t (.v (.int .i64 (lenL l)))), (7, .t (.v (.int .i64 x2)))]) (putR (List.replicate 34 []) [])) := by
 unfold Ok
 refine impl_DeclsOk_l6.partial_correctness l _ ?_
 intro F ih x2
 show Ok _ _ _
 have ih : ∀ (x2 : Int), Ok (F x2) _ _ := ih
 rw [ev_loop]
 have k0 := @k_impl_DeclsOk_l6.eq_1; have k1 := @k_impl_DeclsOk_r2.eq_1; have g0 := impl_DeclOk_ok; have t0 := ih
 exact gs
theorem impl_DeclsOk_ok : ∀ (l : List GDecl), Ok (impl_DeclsOk l) e_impl_DeclsOk (dn FTA n_impl_DeclsOk [.t (.sl false (l.map GDecl.row))]) := by
 intro l
 rw [den_ev FTA (fn := k_impl_DeclsOk) rfl (xN rfl rfl _) (lB rfl)]
 have k0 := @k_impl_DeclsOk.eq_1; have f0 := @impl_DeclsOk.eq_1; have t0 := impl_DeclsOk_l6_ok
 exact gs
theorem impl_attrOk_ok : ∀ (a : GAttr), Ok (impl_attrOk a) e_impl_attrOk (dn FTA n_impl_attrOk [.agg ((GAttr.row a).map .t)]) := by
 intro a
 rw [den_ev FTA (fn := k_impl_attrOk) rfl (xN rfl rfl _) (lB rfl)]
 have k0 := @k_impl_attrOk.eq_1; have f0 := @impl_attrOk.eq_1; have g0 := impl_preOk_ok; have g1 := impl_uriOk_ok; have g2 := impl_PlainOk_ok; have g3 := impl_TextOk_ok
 exact gs
theorem impl_attrsOk_l6_ok (l : List GAttr) : ∀ (x2 : Int), Ok (impl_attrsOk_l6 l x2) e_impl_attrsOk (ev FTA c_impl_attrsOk (.loop k_impl_attrsOk_l6) [.lv 0, .th k_impl_attrsOk_r2] (putS (List.replicate 33 .dead) [(0, .t (.sl false (l.map GAttr.row))), (5, .t (.sl false (l.map GAttr.row))), (6, .t (.v (.int .i64 (lenL l)))), (7, .t (.v (.int .i64 x2)))]) (putR (List.replicate 33 []) [])) := by
 unfold Ok
 refine impl_attrsOk_l6.partial_correctness l _ ?_
 intro F ih x2
 show Ok _ _ _
 have ih : ∀ (x2 : Int), Ok (F x2) _ _ := ih
 rw [ev_loop]
 have k0 := @k_impl_attrsOk_l6.eq_1; have k1 := @k_impl_attrsOk_r2.eq_1; have g0 := impl_attrOk_ok; have g1 := impl_compareAttrs_ok; have t0 := ih
 exact gs
theorem impl_attrsOk_ok : ∀ (l : List GAttr), Ok (impl_attrsOk l) e_impl_attrsOk (dn FTA n_impl_attrsOk [.t (.sl false (l.map GAttr.row))]) := by
 intro l
 rw [den_ev FTA (fn := k_impl_attrsOk) rfl (xN rfl rfl _) (lB rfl)]
 have k0 := @k_impl_attrsOk.eq_1; have f0 := @impl_attrsOk.eq_1; have t0 := impl_attrsOk_l6_ok
 exact gs
theorem impl_noTwoTexts_l6_ok (l : List GNode) : ∀ (x2 : Int), Ok (impl_noTwoTexts_l6 l x2) e_impl_noTwoTexts (ev FTA c_impl_noTwoTexts (.loop k_impl_noTwoTexts_l6) [.lv 0, .th k_impl_noTwoTexts_r2] (putS (List.replicate 29 .dead) [(0, .t (.sl false (l.map (GNode.row false)))), (5, .t (.sl false (l.map (GNode.row false)))), (6, .t (.v (.int .i64 (lenL l)))), (7, .t (.v (.int .i64 x2)))]) (putR (List.replicate 29 []) [])) := by
 unfold Ok
 refine impl_noTwoTexts_l6.partial_correctness l _ ?_
 intro F ih x2
 show Ok _ _ _
 have ih : ∀ (x2 : Int), Ok (F x2) _ _ := ih
 rw [ev_loop]
 have k0 := @k_impl_noTwoTexts_l6.eq_1; have k1 := @k_impl_noTwoTexts_r2.eq_1; have t0 := ih
 exact gs
theorem impl_noTwoTexts_ok : ∀ (l : List GNode), Ok (impl_noTwoTexts l) e_impl_noTwoTexts (dn FTA n_impl_noTwoTexts [.t (.sl false (l.map (GNode.row false)))]) := by
 intro l
 rw [den_ev FTA (fn := k_impl_noTwoTexts) rfl (xN rfl rfl _) (lB rfl)]
 have k0 := @k_impl_noTwoTexts.eq_1; have f0 := @impl_noTwoTexts.eq_1; have t0 := impl_noTwoTexts_l6_ok
 exact gs
theorem G_impl_kidsOk : (∀ (n : GNode) (deep : Int), Ok (impl_kidsOk n deep) e_impl_kidsOk (dn FTA n_impl_kidsOk [.agg (((GNode.row false) n).map .t), .t (.v (.int .i64 deep))])) ∧
  (∀ (s : List GNode) (fc0 : Int), Ok (slices_ContainsFunc_Node_kidsOk_1 s fc0) e_slices_ContainsFunc_Node_kidsOk_1 (dn FTA n_slices_ContainsFunc_Node [.t (.sl false (s.map (GNode.row false))), .fn n_impl_kidsOk_1 [.lp [.v (.int .i64 fc0)] 0]])) ∧
  (∀ (s : List GNode) (fc0 : Int), Ok (slices_IndexFunc_Node_kidsOk_1 s fc0) e_slices_IndexFunc_Node_kidsOk_1 (dn FTA n_slices_IndexFunc_Node [.t (.sl false (s.map (GNode.row false))), .fn n_impl_kidsOk_1 [.lp [.v (.int .i64 fc0)] 0]])) ∧
  (∀ (s : List GNode) (x1 : Int) (f : Int), Ok (slices_IndexFunc_Node_kidsOk_1_l6 s x1 f) e_slices_IndexFunc_Node_kidsOk_1 (ev FTA c_slices_IndexFunc_Node_kidsOk_1 (.loop k_slices_IndexFunc_Node_l6) [.lv 0, .th k_slices_IndexFunc_Node_r2] (putS (List.replicate 19 .dead) [(0, .t (.sl false (s.map (GNode.row false)))), (1, .fn n_impl_kidsOk_1 [.ptr (1, 0) [] 0 0 1 0]), (7, .t (.v (.int .i64 (lenL s)))), (8, .t (.v (.int .i64 x1)))]) (putR (List.replicate 19 []) [(1, [.mem [[.v (.int .i64 f)]] 0 true])]))) ∧
  (∀ (k : GNode) (a1 : Int), Ok (impl_kidsOk_1 k a1) e_impl_kidsOk_1 (dn FTA n_impl_kidsOk_1 [.agg (((GNode.row false) k).map .t), .lp [.v (.int .i64 a1)] 0])) ∧
  (∀ (n : GNode) (deep : Int), Ok (impl_partOk n deep) e_impl_partOk (dn FTA n_impl_partOk [.agg (((GNode.row false) n).map .t), .t (.v (.int .i64 deep))])) := by
 unfold Ok
 refine impl_kidsOk.mutual_partial_correctness _ _ _ _ _ _ ?_ ?_ ?_ ?_ ?_ ?_
 ·intro F1 ih1 n deep
  show Ok _ _ _
  have ih1 : ∀ (s : List GNode) (fc0 : Int), Ok (F1 s fc0) _ _ := ih1
  rw [den_ev FTA (fn := k_impl_kidsOk) rfl (xN rfl rfl _) (lB rfl)]
  have k0 := @k_impl_kidsOk.eq_1; have g0 := impl_noTwoTexts_ok; have g1 := ih1
  exact gs
 ·intro F2 ih2 s fc0
  show Ok _ _ _
  have ih2 : ∀ (s : List GNode) (fc0 : Int), Ok (F2 s fc0) _ _ := ih2
  rw [den_ev FTA (fn := k_slices_ContainsFunc_Node) rfl (xN rfl rfl _) (lB rfl)]
  have k0 := @k_slices_ContainsFunc_Node.eq_1; have g0 := ih2
  exact gs
 ·intro F3 ih3 s fc0
  show Ok _ _ _
  have ih3 : ∀ (s : List GNode) (x1 : Int) (f : Int), Ok (F3 s x1 f) _ _ := ih3
  rw [den_ev FTA (fn := k_slices_IndexFunc_Node) rfl (xN rfl rfl _) (lB rfl)]
  have k0 := @k_slices_IndexFunc_Node.eq_1; have t0 := ih3
  exact gs
 ·intro F3 F4 ih3 ih4 s x1 f
  show Ok _ _ _
  have ih4 : ∀ (k : GNode) (a1 : Int), Ok (F4 k a1) _ _ := ih4
  have ih3 : ∀ (s : List GNode) (x1 : Int) (f : Int), Ok (F3 s x1 f) _ _ := ih3
  rw [ev_loop]
  have k0 := @k_slices_IndexFunc_Node_l6.eq_1; have k1 := @k_slices_IndexFunc_Node_r2.eq_1; have g0 := ih4; have t0 := ih3
  exact gs
 ·intro F5 ih5 k a1
  show Ok _ _ _
  have ih5 : ∀ (n : GNode) (deep : Int), Ok (F5 n deep) _ _ := ih5
  rw [den_ev FTA (fn := k_impl_kidsOk_1) rfl (xN rfl rfl _) (lB rfl)]
  have k0 := @k_impl_kidsOk_1.eq_1; have g0 := ih5
  exact gs
 ·intro F0 ih0 n deep
  show Ok _ _ _
  have ih0 : ∀ (n : GNode) (deep : Int), Ok (F0 n deep) _ _ := ih0
  rw [den_ev FTA (fn := k_impl_partOk) rfl (xN rfl rfl _) (lB rfl)]
  have k0 := @k_impl_partOk.eq_1; have g0 := impl_leafOk_ok; have g1 := impl_preOk_ok; have g2 := impl_uriOk_ok; have g3 := impl_PlainOk_ok; have g4 := impl_DeclsOk_ok; have g5 := impl_attrsOk_ok; have g6 := ih0
  exact gs
theorem impl_kidsOk_ok (n : GNode) (deep : Int) : Ok (impl_kidsOk n deep) e_impl_kidsOk (dn FTA n_impl_kidsOk [.agg (((GNode.row false) n).map .t), .t (.v (.int .i64 deep))]) := G_impl_kidsOk.1 n deep
theorem slices_ContainsFunc_Node_kidsOk_1_ok (s : List GNode) (fc0 : Int) : Ok (slices_ContainsFunc_Node_kidsOk_1 s fc0) e_slices_ContainsFunc_Node_kidsOk_1 (dn FTA n_slices_ContainsFunc_Node [.t (.sl false (s.map (GNode.row false))), .fn n_impl_kidsOk_1 [.lp [.v (.int .i64 fc0)] 0]]) := G_impl_kidsOk.2.1 s fc0
theorem slices_IndexFunc_Node_kidsOk_1_ok (s : List GNode) (fc0 : Int) : Ok (slices_IndexFunc_Node_kidsOk_1 s fc0) e_slices_IndexFunc_Node_kidsOk_1 (dn FTA n_slices_IndexFunc_Node [.t (.sl false (s.map (GNode.row false))), .fn n_impl_kidsOk_1 [.lp [.v (.int .i64 fc0)] 0]]) := G_impl_kidsOk.2.2.1 s fc0
theorem impl_kidsOk_1_ok (k : GNode) (a1 : Int) : Ok (impl_kidsOk_1 k a1) e_impl_kidsOk_1 (dn FTA n_impl_kidsOk_1 [.agg (((GNode.row false) k).map .t), .lp [.v (.int .i64 a1)] 0]) := G_impl_kidsOk.2.2.2.2.1 k a1
theorem impl_partOk_ok (n : GNode) (deep : Int) : Ok (impl_partOk n deep) e_impl_partOk (dn FTA n_impl_partOk [.agg (((GNode.row false) n).map .t), .t (.v (.int .i64 deep))]) := G_impl_kidsOk.2.2.2.2.2 n deep
theorem impl_ofKind_l8_ok (kind : Int) (l : List GNode) : ∀ (n : Int) (x1 : Int), Ok (impl_ofKind_l8 kind n l x1) e_impl_ofKind (ev FTA c_impl_ofKind (.loop k_impl_ofKind_l8) [.lv 0, .th k_impl_ofKind_r4] (putS (List.replicate 22 .dead) [(1, .t (.v (.int .i64 kind))), (5, .t (.v (.int .i64 n))), (8, .t (.sl false (l.map (GNode.row false)))), (9, .t (.v (.int .i64 (lenL l)))), (10, .t (.v (.int .i64 x1)))]) (putR (List.replicate 22 []) [])) := by
 unfold Ok
 refine impl_ofKind_l8.partial_correctness kind l _ ?_
 intro F ih n x1
 show Ok _ _ _
 have ih : ∀ (n : Int) (x1 : Int), Ok (F n x1) _ _ := ih
 rw [ev_loop]
 have k0 := @k_impl_ofKind_l8.eq_1; have k1 := @k_impl_ofKind_r4.eq_1; have t0 := ih
 exact gs
theorem impl_ofKind_ok : ∀ (l : List GNode) (kind : Int), Ok (impl_ofKind l kind) e_impl_ofKind (dn FTA n_impl_ofKind [.t (.sl false (l.map (GNode.row false))), .t (.v (.int .i64 kind))]) := by
 intro l kind
 rw [den_ev FTA (fn := k_impl_ofKind) rfl (xN rfl rfl _) (lB rfl)]
 have k0 := @k_impl_ofKind.eq_1; have f0 := @impl_ofKind.eq_1; have t0 := impl_ofKind_l8_ok
 exact gs
theorem impl_NodeOk_j18_ok : ∀ (bare : Bool) (n : GNode), Ok (impl_NodeOk_j18 bare n) e_impl_NodeOk (ev FTA c_impl_NodeOk k_impl_NodeOk_r18 [] (putS (List.replicate 59 .dead) [(1, .ptr (1, 0) [] 0 0 1 0), (3, .t (.v (.bool bare)))]) (putR (List.replicate 59 []) [(1, [.mem [[.v (.int .i64 n.Kind), .v (.string n.Pre), .v (.string n.Local), .v (.string n.Uri), .sl false (n.Decls.map GDecl.row), .sl false (n.Attrs.map GAttr.row), .sl false (n.Kids.map (GNode.row false)), .v (.string n.Text)]] 0 false])])) := by
 intro bare n
 have k0 := @k_impl_NodeOk_r18.eq_1; have f0 := @impl_NodeOk_j18.eq_1; have g0 := impl_ofKind_ok; have g1 := impl_kidsOk_ok
 exact gs
theorem impl_NodeOk_ok : ∀ (n : GNode), Ok (impl_NodeOk n) e_impl_NodeOk (dn FTA n_impl_NodeOk [.agg (((GNode.row false) n).map .t)]) := by
 intro n
 rw [den_ev FTA (fn := k_impl_NodeOk) rfl (xN rfl rfl _) (lB rfl)]
 have k0 := @k_impl_NodeOk.eq_1; have f0 := @impl_NodeOk.eq_1; have g0 := impl_CountOf_ok; have g1 := impl_partOk_ok; have t0 := impl_NodeOk_j18_ok
 exact gs
theorem impl_Rename_ok : ∀ (n : GNode) (l : List GDecl), Ok (impl_Rename n l) e_impl_Rename (dn FTA n_impl_Rename [.agg (((GNode.row false) n).map .t), .t (.sl false (l.map GDecl.row))]) := by
 intro n l
 rw [den_ev FTA (fn := k_impl_Rename) rfl (xN rfl rfl _) (lB rfl)]
 have k0 := @k_impl_Rename.eq_1; have f0 := @impl_Rename.eq_1; have g0 := impl_renamed_ok; have g1 := impl_NodeOk_ok; have g2 := impl_cloneNode_ok
 exact gs
theorem laws_eqDecl_ok : ∀ (a : GDecl) (b : GDecl), Ok (laws_eqDecl a b) e_laws_eqDecl (dn FTA n_laws_eqDecl [.agg ((GDecl.row a).map .t), .agg ((GDecl.row b).map .t)]) := by
 intro a b
 rw [den_ev FTA (fn := k_laws_eqDecl) rfl (xN rfl rfl _) (lB rfl)]
 have k0 := @k_laws_eqDecl.eq_1; have f0 := @laws_eqDecl.eq_1
 exact gs
theorem laws_eqDeclS_l14_ok (a : List GDecl) (b : List GDecl) : ∀ (i : Int), Ok (laws_eqDeclS_l14 a b i) e_laws_eqDeclS (ev FTA c_laws_eqDeclS (.loop k_laws_eqDeclS_l14) [.lv 0, .th k_laws_eqDeclS_r10] (putS (List.replicate 27 .dead) [(0, .t (.sl false (a.map GDecl.row))), (1, .t (.sl false (b.map GDecl.row))), (5, .t (.v (.int .i64 i)))]) (putR (List.replicate 27 []) [])) := by
 unfold Ok
 refine laws_eqDeclS_l14.partial_correctness a b _ ?_
 intro F ih i
 show Ok _ _ _
 have ih : ∀ (i : Int), Ok (F i) _ _ := ih
 rw [ev_loop]
 have k0 := @k_laws_eqDeclS_l14.eq_1; have k1 := @k_laws_eqDeclS_r10.eq_1; have g0 := laws_eqDecl_ok; have t0 := ih
 exact gs
theorem laws_eqDeclS_ok : ∀ (a : List GDecl) (b : List GDecl), Ok (laws_eqDeclS a b) e_laws_eqDeclS (dn FTA n_laws_eqDeclS [.t (.sl false (a.map GDecl.row)), .t (.sl false (b.map GDecl.row))]) := by
 intro a b
 rw [den_ev FTA (fn := k_laws_eqDeclS) rfl (xN rfl rfl _) (lB rfl)]
 have k0 := @k_laws_eqDeclS.eq_1; have f0 := @laws_eqDeclS.eq_1; have t0 := laws_eqDeclS_l14_ok
 exact gs
theorem laws_eqAttr_ok : ∀ (a : GAttr) (b : GAttr), Ok (laws_eqAttr a b) e_laws_eqAttr (dn FTA n_laws_eqAttr [.agg ((GAttr.row a).map .t), .agg ((GAttr.row b).map .t)]) := by
 intro a b
 rw [den_ev FTA (fn := k_laws_eqAttr) rfl (xN rfl rfl _) (lB rfl)]
 have k0 := @k_laws_eqAttr.eq_1; have f0 := @laws_eqAttr.eq_1
 exact gs
end TT
