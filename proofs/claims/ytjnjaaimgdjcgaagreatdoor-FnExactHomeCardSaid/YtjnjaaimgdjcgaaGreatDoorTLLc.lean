import Derived.Test.YtjnjaaimgdjcgaaGreatDoorTLLb
set_option maxHeartbeats 2000000
set_option linter.unusedVariables false
set_option linter.unusedSimpArgs false
set_option linter.defProp false
set_option maxRecDepth 100000
namespace TT
open Go
open Nat (reduceAdd reduceSub reduceMul reduceLeDiff reduceLT reduceEqDiff)
theorem spec_l5One_l21_ok (n : GNode) : ∀ (i : Int), Ok (spec_l5One_l21 i n) e_spec_l5One (ev FTA c_spec_l5One (.loop k_spec_l5One_l21) [.lv 1, .th k_spec_l5One_r17, .lv 0, .th k_spec_l5One_r2] (putS (List.replicate 195 .dead) [(1, .ptr (1, 0) [] 0 0 1 0), (3, .t (.v (.int .i64 i)))]) (putR (List.replicate 195 []) [(1, [.mem [[.v (.int .i64 n.Kind), .v (.string n.Pre), .v (.string n.Local), .v (.string n.Uri), .sl false (n.Decls.map GDecl.row), .sl false (n.Attrs.map GAttr.row), .sl false (n.Kids.map (GNode.row false)), .v (.string n.Text)]] 0 false])])) := by
 unfold Ok
 refine spec_l5One_l21.partial_correctness n _ ?_
 intro F ih i
 show Ok _ _ _
 have ih : ∀ (i : Int), Ok (F i) _ _ := ih
 rw [ev_loop]
 have k0 := @k_spec_l5One_l21.eq_1; have k1 := @k_spec_l5One_r17.eq_1; have g0 := spec_l5AttrOk_ok; have g1 := spec_l5Less_ok; have t0 := ih
 exact gs
theorem spec_l5One_j9_ok : ∀ (n : GNode), Ok (spec_l5One_j9 n) e_spec_l5One (ev FTA c_spec_l5One k_spec_l5One_r9 [.lv 0, .th k_spec_l5One_r2] (putS (List.replicate 195 .dead) [(1, .ptr (1, 0) [] 0 0 1 0)]) (putR (List.replicate 195 []) [(1, [.mem [[.v (.int .i64 n.Kind), .v (.string n.Pre), .v (.string n.Local), .v (.string n.Uri), .sl false (n.Decls.map GDecl.row), .sl false (n.Attrs.map GAttr.row), .sl false (n.Kids.map (GNode.row false)), .v (.string n.Text)]] 0 false])])) := by
 intro n
 have k0 := @k_spec_l5One_r9.eq_1; have f0 := @spec_l5One_j9.eq_1; have t0 := spec_l5One_l21_ok
 exact gs
theorem spec_l5One_ok : ∀ (n : GNode), Ok (spec_l5One n) e_spec_l5One (dn FTA n_spec_l5One [.agg (((GNode.row false) n).map .t)]) := by
 intro n
 rw [den_ev FTA (fn := k_spec_l5One) rfl (xN rfl rfl _) (lB rfl)]
 have k0 := @k_spec_l5One.eq_1; have k1 := @k_spec_l5One_r2.eq_1; have f0 := @spec_l5One.eq_1; have g0 := spec_l5Pre_ok; have g1 := spec_PlainOk_ok; have g2 := spec_TextOk_ok; have g3 := spec_DeclsOk_ok; have g4 := spec_l5Bare_ok; have g5 := spec_l5Has_ok; have g6 := spec_l5Xml_ok; have g7 := spec_IsBlank_ok; have t0 := spec_l5One_j9_ok
 exact gs
theorem G_spec_l5Kids : (∀ (l : List GNode) (deep : Int), Ok (spec_l5Kids l deep) e_spec_l5Kids (dn FTA n_spec_l5Kids [.t (.sl false (l.map (GNode.row false))), .t (.v (.int .i64 deep))])) ∧
  (∀ (l : List GNode) (deep : Int) (i : Int), Ok (spec_l5Kids_l6 l deep i) e_spec_l5Kids (ev FTA c_spec_l5Kids (.loop k_spec_l5Kids_l6) [.lv 0, .th k_spec_l5Kids_r2] (putS (List.replicate 53 .dead) [(0, .t (.sl false (l.map (GNode.row false)))), (1, .t (.v (.int .i64 deep))), (5, .t (.v (.int .i64 i)))]) (putR (List.replicate 53 []) []))) ∧
  (∀ (l : List GNode) (deep : Int) (i : Int) (x2 : GNode), Ok (spec_l5Kids_j17 l deep i x2) e_spec_l5Kids (ev FTA c_spec_l5Kids k_spec_l5Kids_r17 [.lv 1, .th k_spec_l5Kids_r13, .hk [.clean [6]], .th (.loop k_spec_l5Kids_l6), .lv 0, .th k_spec_l5Kids_r2] (putS (List.replicate 53 .dead) [(0, .t (.sl false (l.map (GNode.row false)))), (1, .t (.v (.int .i64 deep))), (5, .t (.v (.int .i64 i))), (6, .ptr (6, 0) [] 0 0 1 0)]) (putR (List.replicate 53 []) [(6, [.mem [[.v (.int .i64 x2.Kind), .v (.string x2.Pre), .v (.string x2.Local), .v (.string x2.Uri), .sl false (x2.Decls.map GDecl.row), .sl false (x2.Attrs.map GAttr.row), .sl false (x2.Kids.map (GNode.row false)), .v (.string x2.Text)]] 0 false])]))) := by
 unfold Ok
 refine spec_l5Kids.mutual_partial_correctness _ _ _ ?_ ?_ ?_
 ·intro F1 ih1 l deep
  show Ok _ _ _
  have ih1 : ∀ (l : List GNode) (deep : Int) (i : Int), Ok (F1 l deep i) _ _ := ih1
  rw [den_ev FTA (fn := k_spec_l5Kids) rfl (xN rfl rfl _) (lB rfl)]
  have k0 := @k_spec_l5Kids.eq_1; have t0 := ih1
  exact gs
 ·intro F2 ih2 l deep i
  show Ok _ _ _
  have ih2 : ∀ (l : List GNode) (deep : Int) (i : Int) (x2 : GNode), Ok (F2 l deep i x2) _ _ := ih2
  rw [ev_loop]
  have k0 := @k_spec_l5Kids_l6.eq_1; have k1 := @k_spec_l5Kids_r2.eq_1; have g0 := spec_l5One_ok; have t0 := ih2
  exact gs
 ·intro F0 F1 ih0 ih1 l deep i x2
  show Ok _ _ _
  have ih0 : ∀ (l : List GNode) (deep : Int), Ok (F0 l deep) _ _ := ih0
  have ih1 : ∀ (l : List GNode) (deep : Int) (i : Int), Ok (F1 l deep i) _ _ := ih1
  have k0 := @k_spec_l5Kids_r17.eq_1; have k1 := @k_spec_l5Kids_r13.eq_1; have g0 := ih0; have t0 := ih1
  exact gs
theorem spec_l5Kids_ok (l : List GNode) (deep : Int) : Ok (spec_l5Kids l deep) e_spec_l5Kids (dn FTA n_spec_l5Kids [.t (.sl false (l.map (GNode.row false))), .t (.v (.int .i64 deep))]) := G_spec_l5Kids.1 l deep
theorem G_spec_NodeOk_j33 (n : GNode) : (∀ (k2 : Int) (i : Int), Ok (spec_NodeOk_j33 k2 i n) e_spec_NodeOk (ev FTA c_spec_NodeOk k_spec_NodeOk_r33 [.lv 1, .th k_spec_NodeOk_r31, .hk [.clean []], .th (.loop k_spec_NodeOk_l24), .lv 0, .th k_spec_NodeOk_r20] (putS (List.replicate 76 .dead) [(1, .ptr (1, 0) [] 0 0 1 0), (3, .t (.v (.int .i64 k2))), (4, .t (.v (.int .i64 i)))]) (putR (List.replicate 76 []) [(1, [.mem [[.v (.int .i64 n.Kind), .v (.string n.Pre), .v (.string n.Local), .v (.string n.Uri), .sl false (n.Decls.map GDecl.row), .sl false (n.Attrs.map GAttr.row), .sl false (n.Kids.map (GNode.row false)), .v (.string n.Text)]] 0 false])]))) ∧
  (∀ (k1 : Int) (i : Int), Ok (spec_NodeOk_l24 k1 i n) e_spec_NodeOk (ev FTA c_spec_NodeOk (.loop k_spec_NodeOk_l24) [.lv 0, .th k_spec_NodeOk_r20] (putS (List.replicate 76 .dead) [(1, .ptr (1, 0) [] 0 0 1 0), (3, .t (.v (.int .i64 k1))), (4, .t (.v (.int .i64 i)))]) (putR (List.replicate 76 []) [(1, [.mem [[.v (.int .i64 n.Kind), .v (.string n.Pre), .v (.string n.Local), .v (.string n.Uri), .sl false (n.Decls.map GDecl.row), .sl false (n.Attrs.map GAttr.row), .sl false (n.Kids.map (GNode.row false)), .v (.string n.Text)]] 0 false])]))) := by
 unfold Ok
 refine spec_NodeOk_j33.mutual_partial_correctness n _ _ ?_ ?_
 ·intro F1 ih1 k2 i
  show Ok _ _ _
  have ih1 : ∀ (k1 : Int) (i : Int), Ok (F1 k1 i) _ _ := ih1
  have k0 := @k_spec_NodeOk_r33.eq_1; have k1 := @k_spec_NodeOk_r31.eq_1; have t0 := ih1
  exact gs
 ·intro F0 ih0 k1 i
  show Ok _ _ _
  have ih0 : ∀ (k2 : Int) (i : Int), Ok (F0 k2 i) _ _ := ih0
  rw [ev_loop]
  have k0 := @k_spec_NodeOk_l24.eq_1; have k1 := @k_spec_NodeOk_r20.eq_1; have g0 := spec_l5Kids_ok; have t0 := ih0
  exact gs
theorem spec_NodeOk_ok : ∀ (n : GNode), Ok (spec_NodeOk n) e_spec_NodeOk (dn FTA n_spec_NodeOk [.agg (((GNode.row false) n).map .t)]) := by
 intro n
 rw [den_ev FTA (fn := k_spec_NodeOk) rfl (xN rfl rfl _) (lB rfl)]
 have k0 := @k_spec_NodeOk.eq_1; have f0 := @spec_NodeOk.eq_1; have g0 := spec_CountOf_ok; have g1 := spec_l5Kids_ok; have t0 := fun a0 => (G_spec_NodeOk_j33 a0).2
 exact gs
theorem spec_Inner_ok : ∀ (l : List GDecl) (more : List GDecl), Ok (spec_Inner l more) e_spec_Inner (dn FTA n_spec_Inner [.t (.sl false (l.map GDecl.row)), .t (.sl false (more.map GDecl.row))]) := by
 intro l more
 rw [den_ev FTA (fn := k_spec_Inner) rfl (xN rfl rfl _) (lB rfl)]
 have k0 := @k_spec_Inner.eq_1; have f0 := @spec_Inner.eq_1
 exact gs
theorem spec_SpaceOf_l6_ok (l : List GDecl) (pre : ByteArray) : ∀ (i : Int), Ok (spec_SpaceOf_l6 l pre i) e_spec_SpaceOf (ev FTA c_spec_SpaceOf (.loop k_spec_SpaceOf_l6) [.lv 0, .th k_spec_SpaceOf_r2] (putS (List.replicate 28 .dead) [(0, .t (.sl false (l.map GDecl.row))), (1, .t (.v (.string pre))), (6, .t (.v (.int .i64 i)))]) (putR (List.replicate 28 []) [])) := by
 unfold Ok
 refine spec_SpaceOf_l6.partial_correctness l pre _ ?_
 intro F ih i
 show Ok _ _ _
 have ih : ∀ (i : Int), Ok (F i) _ _ := ih
 rw [ev_loop]
 have k0 := @k_spec_SpaceOf_l6.eq_1; have k1 := @k_spec_SpaceOf_r2.eq_1; have t0 := ih
 exact gs
theorem spec_SpaceOf_ok : ∀ (l : List GDecl) (pre : ByteArray), Ok (spec_SpaceOf l pre) e_spec_SpaceOf (dn FTA n_spec_SpaceOf [.t (.sl false (l.map GDecl.row)), .t (.v (.string pre))]) := by
 intro l pre
 rw [den_ev FTA (fn := k_spec_SpaceOf) rfl (xN rfl rfl _) (lB rfl)]
 have k0 := @k_spec_SpaceOf.eq_1; have f0 := @spec_SpaceOf.eq_1; have t0 := spec_SpaceOf_l6_ok
 exact gs
theorem G_spec_FitsIn : (∀ (n : GNode) (l : List GDecl), Ok (spec_FitsIn n l) e_spec_FitsIn (dn FTA n_spec_FitsIn [.agg (((GNode.row false) n).map .t), .t (.sl false (l.map GDecl.row))])) ∧
  (∀ (r : List GDecl) (n : GNode), Ok (spec_FitsIn_j4 r n) e_spec_FitsIn (ev FTA c_spec_FitsIn k_spec_FitsIn_r4 [] (putS (List.replicate 88 .dead) [(2, .ptr (2, 0) [] 0 0 1 0), (5, .ref (15, 0) r.length)]) (putR (List.replicate 88 []) [(2, [.mem [[.v (.int .i64 n.Kind), .v (.string n.Pre), .v (.string n.Local), .v (.string n.Uri), .sl false (n.Decls.map GDecl.row), .sl false (n.Attrs.map GAttr.row), .sl false (n.Kids.map (GNode.row false)), .v (.string n.Text)]] 0 false]), (15, [.mem (r.map GDecl.row) 0 false])]))) ∧
  (∀ (r : List GDecl) (i1 : Int) (n : GNode), Ok (spec_FitsIn_l22 r i1 n) e_spec_FitsIn (ev FTA c_spec_FitsIn (.loop k_spec_FitsIn_l22) [.lv 0, .th k_spec_FitsIn_r18] (putS (List.replicate 88 .dead) [(2, .ptr (2, 0) [] 0 0 1 0), (5, .ref (15, 0) r.length), (8, .t (.v (.int .i64 i1)))]) (putR (List.replicate 88 []) [(2, [.mem [[.v (.int .i64 n.Kind), .v (.string n.Pre), .v (.string n.Local), .v (.string n.Uri), .sl false (n.Decls.map GDecl.row), .sl false (n.Attrs.map GAttr.row), .sl false (n.Kids.map (GNode.row false)), .v (.string n.Text)]] 0 false]), (15, [.mem (r.map GDecl.row) 0 false])]))) ∧
  (∀ (r : List GDecl) (i2 : Int) (n : GNode), Ok (spec_FitsIn_l45 r i2 n) e_spec_FitsIn (ev FTA c_spec_FitsIn (.loop k_spec_FitsIn_l45) [.lv 2, .th k_spec_FitsIn_r41] (putS (List.replicate 88 .dead) [(2, .ptr (2, 0) [] 0 0 1 0), (5, .ref (15, 0) r.length), (11, .t (.v (.int .i64 i2)))]) (putR (List.replicate 88 []) [(2, [.mem [[.v (.int .i64 n.Kind), .v (.string n.Pre), .v (.string n.Local), .v (.string n.Uri), .sl false (n.Decls.map GDecl.row), .sl false (n.Attrs.map GAttr.row), .sl false (n.Kids.map (GNode.row false)), .v (.string n.Text)]] 0 false]), (15, [.mem (r.map GDecl.row) 0 false])]))) := by
 unfold Ok
 refine spec_FitsIn.mutual_partial_correctness _ _ _ _ ?_ ?_ ?_ ?_
 ·intro F1 ih1 n l
  show Ok _ _ _
  have ih1 : ∀ (r : List GDecl) (n : GNode), Ok (F1 r n) _ _ := ih1
  rw [den_ev FTA (fn := k_spec_FitsIn) rfl (xN rfl rfl _) (lB rfl)]
  have k0 := @k_spec_FitsIn.eq_1; have g0 := spec_Inner_ok; have g1 := spec_SpaceOf_ok; have t0 := ih1
  exact gs
 ·intro F2 ih2 r n
  show Ok _ _ _
  have ih2 : ∀ (r : List GDecl) (i1 : Int) (n : GNode), Ok (F2 r i1 n) _ _ := ih2
  have k0 := @k_spec_FitsIn_r4.eq_1; have t0 := ih2
  exact gs
 ·intro F2 F3 ih2 ih3 r i1 n
  show Ok _ _ _
  have ih2 : ∀ (r : List GDecl) (i1 : Int) (n : GNode), Ok (F2 r i1 n) _ _ := ih2
  have ih3 : ∀ (r : List GDecl) (i2 : Int) (n : GNode), Ok (F3 r i2 n) _ _ := ih3
  rw [ev_loop]
  have k0 := @k_spec_FitsIn_l22.eq_1; have k1 := @k_spec_FitsIn_r18.eq_1; have g0 := spec_SpaceOf_ok; have t0 := ih2; have t1 := ih3
  exact gs
 ·intro F0 F3 ih0 ih3 r i2 n
  show Ok _ _ _
  have ih0 : ∀ (n : GNode) (l : List GDecl), Ok (F0 n l) _ _ := ih0
  have ih3 : ∀ (r : List GDecl) (i2 : Int) (n : GNode), Ok (F3 r i2 n) _ _ := ih3
  rw [ev_loop]
  have k0 := @k_spec_FitsIn_l45.eq_1; have k1 := @k_spec_FitsIn_r41.eq_1; have g0 := ih0; have t0 := ih3
  exact gs
theorem spec_FitsIn_ok (n : GNode) (l : List GDecl) : Ok (spec_FitsIn n l) e_spec_FitsIn (dn FTA n_spec_FitsIn [.agg (((GNode.row false) n).map .t), .t (.sl false (l.map GDecl.row))]) := G_spec_FitsIn.1 n l
theorem spec_TreeOk_ok : ∀ (n : GNode), Ok (spec_TreeOk n) e_spec_TreeOk (dn FTA n_spec_TreeOk [.agg (((GNode.row false) n).map .t)]) := by
 intro n
 rw [den_ev FTA (fn := k_spec_TreeOk) rfl (xN rfl rfl _) (lB rfl)]
 have k0 := @k_spec_TreeOk.eq_1; have f0 := @spec_TreeOk.eq_1; have g0 := spec_NodeOk_ok; have g1 := spec_FitsIn_ok
 exact gs
theorem G_spec_l5All : (∀ (l : List GNode), Ok (spec_l5All l) e_spec_l5All (dn FTA n_spec_l5All [.t (.sl false (l.map (GNode.row false)))])) ∧
  (∀ (l : List GNode) (out : List (GNode)) (i : Int), Ok (spec_l5All_l8 l out i) e_spec_l5All (ev FTA c_spec_l5All (.loop k_spec_l5All_l8) [.lv 0, .th k_spec_l5All_r4] (putS (List.replicate 23 .dead) [(0, .t (.sl false (l.map (GNode.row false)))), (3, .ref (6, 0) out.length), (4, .t (.v (.int .i64 i)))]) (putR (List.replicate 23 []) [(6, [.mem (out.map (GNode.row true)) 0 false])]))) ∧
  (∀ (n : GNode), Ok (spec_l5Copy n) e_spec_l5Copy (dn FTA n_spec_l5Copy [.agg (((GNode.row false) n).map .t)])) := by
 unfold Ok
 refine spec_l5All.mutual_partial_correctness _ _ _ ?_ ?_ ?_
 ·intro F1 ih1 l
  show Ok _ _ _
  have ih1 : ∀ (l : List GNode) (out : List (GNode)) (i : Int), Ok (F1 l out i) _ _ := ih1
  rw [den_ev FTA (fn := k_spec_l5All) rfl (xN rfl rfl _) (lB rfl)]
  have k0 := @k_spec_l5All.eq_1; have t0 := ih1
  exact gs
 ·intro F1 F2 ih1 ih2 l out i
  show Ok _ _ _
  have ih2 : ∀ (n : GNode), Ok (F2 n) _ _ := ih2
  have ih1 : ∀ (l : List GNode) (out : List (GNode)) (i : Int), Ok (F1 l out i) _ _ := ih1
  rw [ev_loop]
  have k0 := @k_spec_l5All_l8.eq_1; have k1 := @k_spec_l5All_r4.eq_1; have g0 := ih2; have t0 := ih1
  exact gs
 ·intro F0 ih0 n
  show Ok _ _ _
  have ih0 : ∀ (l : List GNode), Ok (F0 l) _ _ := ih0
  rw [den_ev FTA (fn := k_spec_l5Copy) rfl (xN rfl rfl _) (lB rfl)]
  have k0 := @k_spec_l5Copy.eq_1; have g0 := ih0
  exact gs
theorem spec_l5All_ok (l : List GNode) : Ok (spec_l5All l) e_spec_l5All (dn FTA n_spec_l5All [.t (.sl false (l.map (GNode.row false)))]) := G_spec_l5All.1 l
theorem spec_l5Copy_ok (n : GNode) : Ok (spec_l5Copy n) e_spec_l5Copy (dn FTA n_spec_l5Copy [.agg (((GNode.row false) n).map .t)]) := G_spec_l5All.2.2 n
theorem spec_Home_ok : ∀ (t : GNode), Ok (spec_Home t) e_spec_Home (dn FTA n_spec_Home [.agg (((GNode.row false) t).map .t)]) := by
 intro t
 rw [den_ev FTA (fn := k_spec_Home) rfl (xN rfl rfl _) (lB rfl)]
 have k0 := @k_spec_Home.eq_1; have f0 := @spec_Home.eq_1; have g0 := spec_TreeOk_ok; have g1 := spec_l5Copy_ok
 exact gs
theorem G_impl_CountOf : (∀ (n : GNode), Ok (impl_CountOf n) e_impl_CountOf (dn FTA n_impl_CountOf [.agg (((GNode.row false) n).map .t)])) ∧
  (∀ (out : Int) (n : GNode) (x1 : Int), Ok (impl_CountOf_l8 out n x1) e_impl_CountOf (ev FTA c_impl_CountOf (.loop k_impl_CountOf_l8) [.lv 0, .th k_impl_CountOf_r4] (putS (List.replicate 23 .dead) [(3, .t (.v (.int .i64 out))), (11, .t (.sl false (n.Kids.map (GNode.row false)))), (12, .t (.v (.int .i64 (lenL n.Kids)))), (13, .t (.v (.int .i64 x1)))]) (putR (List.replicate 23 []) []))) := by
 unfold Ok
 refine impl_CountOf.mutual_partial_correctness _ _ ?_ ?_
 ·intro F1 ih1 n
  show Ok _ _ _
  have ih1 : ∀ (out : Int) (n : GNode) (x1 : Int), Ok (F1 out n x1) _ _ := ih1
  rw [den_ev FTA (fn := k_impl_CountOf) rfl (xN rfl rfl _) (lB rfl)]
  have k0 := @k_impl_CountOf.eq_1; have t0 := ih1
  exact gs
 ·intro F0 F1 ih0 ih1 out n x1
  show Ok _ _ _
  have ih0 : ∀ (n : GNode), Ok (F0 n) _ _ := ih0
  have ih1 : ∀ (out : Int) (n : GNode) (x1 : Int), Ok (F1 out n x1) _ _ := ih1
  rw [ev_loop]
  have k0 := @k_impl_CountOf_l8.eq_1; have k1 := @k_impl_CountOf_r4.eq_1; have g0 := ih0; have t0 := ih1
  exact gs
theorem impl_CountOf_ok (n : GNode) : Ok (impl_CountOf n) e_impl_CountOf (dn FTA n_impl_CountOf [.agg (((GNode.row false) n).map .t)]) := G_impl_CountOf.1 n
theorem impl_in_ok : ∀ (n : Int) (lo : Int) (hi : Int), Ok (impl_in n lo hi) e_impl_in (dn FTA n_impl_in [.t (.v (.int .i64 n)), .t (.v (.int .i64 lo)), .t (.v (.int .i64 hi))]) := by
 intro n lo hi
 rw [den_ev FTA (fn := k_impl_in) rfl (xN rfl rfl _) (lB rfl)]
 have k0 := @k_impl_in.eq_1; have f0 := @impl_in.eq_1
 exact gs
theorem unicode_utf8_DecodeRuneInString_ok : ∀ (s : ByteArray), Ok (unicode_utf8_DecodeRuneInString s) e_unicode_utf8_DecodeRuneInString (dn FTA n_unicode_utf8_DecodeRuneInString [.t (.v (.string s))]) := by
 intro s r hr
 exact den_ext FTA.ft (xOf FTA) (x_decode_ok s (e := e_unicode_utf8_DecodeRuneInString) (fun _ => rfl) hr)
theorem impl_SignAt_ok : ∀ (s : ByteArray) (at1 : Int), Ok (impl_SignAt s at1) e_impl_SignAt (dn FTA n_impl_SignAt [.t (.v (.string s)), .t (.v (.int .i64 at1))]) := by
 intro s at1
 rw [den_ev FTA (fn := k_impl_SignAt) rfl (xN rfl rfl _) (lB rfl)]
 have k0 := @k_impl_SignAt.eq_1; have f0 := @impl_SignAt.eq_1; have g0 := impl_in_ok; have g1 := unicode_utf8_DecodeRuneInString_ok
 exact gs
theorem impl_inAny_1_ok : ∀ (r : GArr2Int) (a1 : Int), Ok (impl_inAny_1 r a1) e_impl_inAny_1 (dn FTA n_impl_inAny_1 [.agg ((GArr2Int.row r).map .t), .lp [.v (.int .i64 a1)] 0]) := by
 intro r a1
 rw [den_ev FTA (fn := k_impl_inAny_1) rfl (xN rfl rfl _) (lB rfl)]
 have k0 := @k_impl_inAny_1.eq_1; have f0 := @impl_inAny_1.eq_1; have g0 := impl_in_ok
 exact gs
theorem slices_IndexFunc_A2int_inAny_1_l6_ok (s : List GArr2Int) : ∀ (x1 : Int) (f : Int), Ok (slices_IndexFunc_A2int_inAny_1_l6 s x1 f) e_slices_IndexFunc_A2int_inAny_1 (ev FTA c_slices_IndexFunc_A2int_inAny_1 (.loop k_slices_IndexFunc_A2int_l6) [.lv 0, .th k_slices_IndexFunc_A2int_r2] (putS (List.replicate 19 .dead) [(0, .t (.sl false (s.map GArr2Int.row))), (1, .fn n_impl_inAny_1 [.ptr (1, 0) [] 0 0 1 0]), (7, .t (.v (.int .i64 (lenL s)))), (8, .t (.v (.int .i64 x1)))]) (putR (List.replicate 19 []) [(1, [.mem [[.v (.int .i64 f)]] 0 true])])) := by
 unfold Ok
 refine slices_IndexFunc_A2int_inAny_1_l6.partial_correctness s _ ?_
 intro F ih x1 f
 show Ok _ _ _
 have ih : ∀ (x1 : Int) (f : Int), Ok (F x1 f) _ _ := ih
 rw [ev_loop]
 have k0 := @k_slices_IndexFunc_A2int_l6.eq_1; have k1 := @k_slices_IndexFunc_A2int_r2.eq_1; have g0 := impl_inAny_1_ok; have t0 := ih
 exact gs
theorem slices_IndexFunc_A2int_inAny_1_ok : ∀ (s : List GArr2Int) (fc0 : Int), Ok (slices_IndexFunc_A2int_inAny_1 s fc0) e_slices_IndexFunc_A2int_inAny_1 (dn FTA n_slices_IndexFunc_A2int [.t (.sl false (s.map GArr2Int.row)), .fn n_impl_inAny_1 [.lp [.v (.int .i64 fc0)] 0]]) := by
 intro s fc0
 rw [den_ev FTA (fn := k_slices_IndexFunc_A2int) rfl (xN rfl rfl _) (lB rfl)]
 have k0 := @k_slices_IndexFunc_A2int.eq_1; have f0 := @slices_IndexFunc_A2int_inAny_1.eq_1; have t0 := slices_IndexFunc_A2int_inAny_1_l6_ok
 exact gs
end TT
