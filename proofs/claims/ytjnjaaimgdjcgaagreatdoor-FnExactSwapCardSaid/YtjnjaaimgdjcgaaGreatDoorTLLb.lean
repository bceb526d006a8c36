import Derived.Test.YtjnjaaimgdjcgaaGreatDoorTLLa
set_option maxHeartbeats 2000000
set_option linter.unusedVariables false
set_option linter.unusedSimpArgs false
set_option linter.defProp false
set_option maxRecDepth 100000
namespace TT
open Go
open Nat (reduceAdd reduceSub reduceMul reduceLeDiff reduceLT reduceEqDiff)
theorem spec_l5Copy_ok (n : GNode) : Ok (spec_l5Copy n) e_spec_l5Copy (dn FTA n_spec_l5Copy [.agg (((GNode.row false) n).map .t)]) := G_spec_l5All.2.2 n
theorem spec_l22Copy_ok : ∀ (w : GWalk), Ok (spec_l22Copy w) e_spec_l22Copy (dn FTA n_spec_l22Copy [.agg (((GWalk.row false) w).map .t)]) := by
 intro w
 rw [den_ev FTA (fn := k_spec_l22Copy) rfl (xN rfl rfl _) (lB rfl)]
 have k0 := @k_spec_l22Copy.eq_1; have f0 := @spec_l22Copy.eq_1; have g0 := spec_l5Copy_ok
 exact gs
theorem spec_l1In_ok : ∀ (a0 : Int) (least : Int) (most : Int), Ok (spec_l1In a0 least most) e_spec_l1In (dn FTA n_spec_l1In [.t (.v (.int .i64 a0)), .t (.v (.int .i64 least)), .t (.v (.int .i64 most))]) := by
 intro a0 least most
 rw [den_ev FTA (fn := k_spec_l1In) rfl (xN rfl rfl _) (lB rfl)]
 have k0 := @k_spec_l1In.eq_1; have f0 := @spec_l1In.eq_1
 exact gs
theorem spec_NodeAt_l8_ok (path : List Int) : ∀ (i : Int) (x2 : GNode), Ok (spec_NodeAt_l8 path i x2) e_spec_NodeAt (ev FTA c_spec_NodeAt (.loop k_spec_NodeAt_l8) [.lv 0, .th k_spec_NodeAt_r4] (putS (List.replicate 36 .dead) [(1, .t (.sl false (path.map rI))), (4, .ptr (4, 0) [] 0 0 1 0), (6, .ptr (6, 0) [] 0 0 1 0), (7, .t (.v (.int .i64 i)))]) (putR (List.replicate 36 []) [(4, [.mem [[.v (.int .i64 0), .v (.string (⟨#[]⟩)), .v (.string (⟨#[]⟩)), .v (.string (⟨#[]⟩)), .sl true [], .sl true [], .sl true [], .v (.string (⟨#[]⟩))]] 0 false]), (6, [.mem [[.v (.int .i64 x2.Kind), .v (.string x2.Pre), .v (.string x2.Local), .v (.string x2.Uri), .sl false (x2.Decls.map GDecl.row), .sl false (x2.Attrs.map GAttr.row), .sl false (x2.Kids.map (GNode.row false)), .v (.string x2.Text)]] 0 false])])) := by
 unfold Ok
 refine spec_NodeAt_l8.partial_correctness path _ ?_
 intro F ih i x2
 show Ok _ _ _
 have ih : ∀ (i : Int) (x2 : GNode), Ok (F i x2) _ _ := ih
 rw [ev_loop]
 have k0 := @k_spec_NodeAt_l8.eq_1; have k1 := @k_spec_NodeAt_r4.eq_1; have g0 := spec_l1In_ok; have g1 := spec_l5Copy_ok; have t0 := ih
 exact gs
theorem spec_NodeAt_ok : ∀ (n : GNode) (path : List Int), Ok (spec_NodeAt n path) e_spec_NodeAt (dn FTA n_spec_NodeAt [.agg (((GNode.row false) n).map .t), .t (.sl false (path.map rI))]) := by
 intro n path
 rw [den_ev FTA (fn := k_spec_NodeAt) rfl (xN rfl rfl _) (lB rfl)]
 have k0 := @k_spec_NodeAt.eq_1; have f0 := @spec_NodeAt.eq_1; have t0 := spec_NodeAt_l8_ok
 exact gs
theorem G_spec_CountOf : (∀ (n : GNode), Ok (spec_CountOf n) e_spec_CountOf (dn FTA n_spec_CountOf [.agg (((GNode.row false) n).map .t)])) ∧
  (∀ (k : Int) (i : Int) (n : GNode), Ok (spec_CountOf_l8 k i n) e_spec_CountOf (ev FTA c_spec_CountOf (.loop k_spec_CountOf_l8) [.lv 0, .th k_spec_CountOf_r4] (putS (List.replicate 25 .dead) [(1, .ptr (1, 0) [] 0 0 1 0), (3, .t (.v (.int .i64 k))), (4, .t (.v (.int .i64 i)))]) (putR (List.replicate 25 []) [(1, [.mem [[.v (.int .i64 n.Kind), .v (.string n.Pre), .v (.string n.Local), .v (.string n.Uri), .sl false (n.Decls.map GDecl.row), .sl false (n.Attrs.map GAttr.row), .sl false (n.Kids.map (GNode.row false)), .v (.string n.Text)]] 0 false])]))) := by
 unfold Ok
 refine spec_CountOf.mutual_partial_correctness _ _ ?_ ?_
 ·intro F1 ih1 n
  show Ok _ _ _
  have ih1 : ∀ (k : Int) (i : Int) (n : GNode), Ok (F1 k i n) _ _ := ih1
  rw [den_ev FTA (fn := k_spec_CountOf) rfl (xN rfl rfl _) (lB rfl)]
  have k0 := @k_spec_CountOf.eq_1; have t0 := ih1
  exact gs
 ·intro F0 F1 ih0 ih1 k i n
  show Ok _ _ _
  have ih0 : ∀ (n : GNode), Ok (F0 n) _ _ := ih0
  have ih1 : ∀ (k : Int) (i : Int) (n : GNode), Ok (F1 k i n) _ _ := ih1
  rw [ev_loop]
  have k0 := @k_spec_CountOf_l8.eq_1; have k1 := @k_spec_CountOf_r4.eq_1; have g0 := ih0; have t0 := ih1
  exact gs
theorem spec_CountOf_ok (n : GNode) : Ok (spec_CountOf n) e_spec_CountOf (dn FTA n_spec_CountOf [.agg (((GNode.row false) n).map .t)]) := G_spec_CountOf.1 n
theorem spec_SignAt_l55_ok (s : ByteArray) (at1 : Int) (n : Int) (least : Int) : ∀ (v1 : Int) (i : Int), Ok (spec_SignAt_l55 s at1 n least v1 i) e_spec_SignAt (ev FTA c_spec_SignAt (.loop k_spec_SignAt_l55) [.lv 1, .th k_spec_SignAt_r51] (putS (List.replicate 102 .dead) [(0, .t (.v (.string s))), (1, .t (.v (.int .i64 at1))), (8, .t (.v (.int .i64 n))), (9, .t (.v (.int .i64 least))), (10, .t (.v (.int .i64 v1))), (11, .t (.v (.int .i64 i)))]) (putR (List.replicate 102 []) [])) := by
 unfold Ok
 refine spec_SignAt_l55.partial_correctness s at1 n least _ ?_
 intro F ih v1 i
 show Ok _ _ _
 have ih : ∀ (v1 : Int) (i : Int), Ok (F v1 i) _ _ := ih
 rw [ev_loop]
 have k0 := @k_spec_SignAt_l55.eq_1; have k1 := @k_spec_SignAt_r51.eq_1; have g0 := spec_l1In_ok; have t0 := ih
 exact gs
theorem spec_SignAt_j26_ok : ∀ (s : ByteArray) (at1 : Int) (n : Int) (least : Int) (v : Int), Ok (spec_SignAt_j26 s at1 n least v) e_spec_SignAt (ev FTA c_spec_SignAt k_spec_SignAt_r26 [] (putS (List.replicate 102 .dead) [(0, .t (.v (.string s))), (1, .t (.v (.int .i64 at1))), (8, .t (.v (.int .i64 n))), (9, .t (.v (.int .i64 least))), (10, .t (.v (.int .i64 v)))]) (putR (List.replicate 102 []) [])) := by
 intro s at1 n least v
 have k0 := @k_spec_SignAt_r26.eq_1; have f0 := @spec_SignAt_j26.eq_1; have t0 := spec_SignAt_l55_ok
 exact gs
theorem spec_SignAt_j32_ok : ∀ (s : ByteArray) (at1 : Int) (x : Int) (x2 : Bool), Ok (spec_SignAt_j32 s at1 x x2) e_spec_SignAt (ev FTA c_spec_SignAt k_spec_SignAt_r32 [.lv 0, .hk [.clean []], .th k_spec_SignAt_r26] (putS (List.replicate 102 .dead) [(0, .t (.v (.string s))), (1, .t (.v (.int .i64 at1))), (7, .t (.v (.int .i64 (wr .i64 x)))), (39, .t (.v (.bool x2)))]) (putR (List.replicate 102 []) [])) := by
 intro s at1 x x2
 have k0 := @k_spec_SignAt_r32.eq_1; have f0 := @spec_SignAt_j32.eq_1; have t0 := spec_SignAt_j26_ok
 exact gs
theorem spec_SignAt_j28_ok : ∀ (s : ByteArray) (at1 : Int) (x : Int) (x1 : Bool), Ok (spec_SignAt_j28 s at1 x x1) e_spec_SignAt (ev FTA c_spec_SignAt k_spec_SignAt_r28 [.lv 0, .hk [.clean []], .th k_spec_SignAt_r26] (putS (List.replicate 102 .dead) [(0, .t (.v (.string s))), (1, .t (.v (.int .i64 at1))), (7, .t (.v (.int .i64 (wr .i64 x)))), (30, .t (.v (.bool x1)))]) (putR (List.replicate 102 []) [])) := by
 intro s at1 x x1
 have k0 := @k_spec_SignAt_r28.eq_1; have f0 := @spec_SignAt_j28.eq_1; have t0 := spec_SignAt_j26_ok; have t1 := spec_SignAt_j32_ok
 exact gs
theorem spec_SignAt_ok : ∀ (s : ByteArray) (at1 : Int), Ok (spec_SignAt s at1) e_spec_SignAt (dn FTA n_spec_SignAt [.t (.v (.string s)), .t (.v (.int .i64 at1))]) := by
 intro s at1
 rw [den_ev FTA (fn := k_spec_SignAt) rfl (xN rfl rfl _) (lB rfl)]
 have k0 := @k_spec_SignAt.eq_1; have f0 := @spec_SignAt.eq_1; have t0 := spec_SignAt_j28_ok
 exact gs
theorem spec_l1Ranges_l6_ok (n : Int) (l : List Int) : ∀ (i : Int), Ok (spec_l1Ranges_l6 n l i) e_spec_l1Ranges (ev FTA c_spec_l1Ranges (.loop k_spec_l1Ranges_l6) [.lv 0, .th k_spec_l1Ranges_r2] (putS (List.replicate 24 .dead) [(0, .t (.v (.int .i64 n))), (1, .t (.sl false (l.map rI))), (5, .t (.v (.int .i64 i)))]) (putR (List.replicate 24 []) [])) := by
 unfold Ok
 refine spec_l1Ranges_l6.partial_correctness n l _ ?_
 intro F ih i
 show Ok _ _ _
 have ih : ∀ (i : Int), Ok (F i) _ _ := ih
 rw [ev_loop]
 have k0 := @k_spec_l1Ranges_l6.eq_1; have k1 := @k_spec_l1Ranges_r2.eq_1; have g0 := spec_l1In_ok; have t0 := ih
 exact gs
theorem spec_l1Ranges_ok : ∀ (n : Int) (l : List Int), Ok (spec_l1Ranges n l) e_spec_l1Ranges (dn FTA n_spec_l1Ranges [.t (.v (.int .i64 n)), .t (.sl false (l.map rI))]) := by
 intro n l
 rw [den_ev FTA (fn := k_spec_l1Ranges) rfl (xN rfl rfl _) (lB rfl)]
 have k0 := @k_spec_l1Ranges.eq_1; have f0 := @spec_l1Ranges.eq_1; have t0 := spec_l1Ranges_l6_ok
 exact gs
theorem spec_IsStart_ok : ∀ (n : Int), Ok (spec_IsStart n) e_spec_IsStart (dn FTA n_spec_IsStart [.t (.v (.int .i64 n))]) := by
 intro n
 rw [den_ev FTA (fn := k_spec_IsStart) rfl (xN rfl rfl _) (lB rfl)]
 have k0 := @k_spec_IsStart.eq_1; have f0 := @spec_IsStart.eq_1; have g0 := spec_l1Ranges_ok
 exact gs
theorem spec_IsPart_ok : ∀ (n : Int), Ok (spec_IsPart n) e_spec_IsPart (dn FTA n_spec_IsPart [.t (.v (.int .i64 n))]) := by
 intro n
 rw [den_ev FTA (fn := k_spec_IsPart) rfl (xN rfl rfl _) (lB rfl)]
 have k0 := @k_spec_IsPart.eq_1; have f0 := @spec_IsPart.eq_1; have g0 := spec_IsStart_ok; have g1 := spec_l1Ranges_ok
 exact gs
theorem spec_PlainOk_l14_ok (s : ByteArray) : ∀ (at1 : Int), Ok (spec_PlainOk_l14 s at1) e_spec_PlainOk (ev FTA c_spec_PlainOk (.loop k_spec_PlainOk_l14) [.lv 0, .th k_spec_PlainOk_r10] (putS (List.replicate 39 .dead) [(0, .t (.v (.string s))), (3, .t (.v (.int .i64 at1)))]) (putR (List.replicate 39 []) [])) := by
 unfold Ok
 refine spec_PlainOk_l14.partial_correctness s _ ?_
 intro F ih at1
 show Ok _ _ _
 have ih : ∀ (at1 : Int), Ok (F at1) _ _ := ih
 rw [ev_loop]
 have k0 := @k_spec_PlainOk_l14.eq_1; have k1 := @k_spec_PlainOk_r10.eq_1; have g0 := spec_SignAt_ok; have g1 := spec_IsStart_ok; have g2 := spec_IsPart_ok; have t0 := ih
 exact gs
theorem spec_PlainOk_ok : ∀ (s : ByteArray), Ok (spec_PlainOk s) e_spec_PlainOk (dn FTA n_spec_PlainOk [.t (.v (.string s))]) := by
 intro s
 rw [den_ev FTA (fn := k_spec_PlainOk) rfl (xN rfl rfl _) (lB rfl)]
 have k0 := @k_spec_PlainOk.eq_1; have f0 := @spec_PlainOk.eq_1; have g0 := spec_l1In_ok; have t0 := spec_PlainOk_l14_ok
 exact gs
theorem spec_l4Xml_ok : ∀ (s : ByteArray), Ok (spec_l4Xml s) e_spec_l4Xml (dn FTA n_spec_l4Xml [.t (.v (.string s))]) := by
 intro s
 rw [den_ev FTA (fn := k_spec_l4Xml) rfl (xN rfl rfl _) (lB rfl)]
 have k0 := @k_spec_l4Xml.eq_1; have f0 := @spec_l4Xml.eq_1
 exact gs
theorem spec_l5Pre_ok : ∀ (s : ByteArray), Ok (spec_l5Pre s) e_spec_l5Pre (dn FTA n_spec_l5Pre [.t (.v (.string s))]) := by
 intro s
 rw [den_ev FTA (fn := k_spec_l5Pre) rfl (xN rfl rfl _) (lB rfl)]
 have k0 := @k_spec_l5Pre.eq_1; have f0 := @spec_l5Pre.eq_1; have g0 := spec_PlainOk_ok; have g1 := spec_l4Xml_ok
 exact gs
theorem spec_IsSign_ok : ∀ (n : Int), Ok (spec_IsSign n) e_spec_IsSign (dn FTA n_spec_IsSign [.t (.v (.int .i64 n))]) := by
 intro n
 rw [den_ev FTA (fn := k_spec_IsSign) rfl (xN rfl rfl _) (lB rfl)]
 have k0 := @k_spec_IsSign.eq_1; have f0 := @spec_IsSign.eq_1; have g0 := spec_l1In_ok
 exact gs
theorem spec_l1Signs_l6_ok (s : ByteArray) : ∀ (at1 : Int), Ok (spec_l1Signs_l6 s at1) e_spec_l1Signs (ev FTA c_spec_l1Signs (.loop k_spec_l1Signs_l6) [.lv 0, .th k_spec_l1Signs_r2] (putS (List.replicate 29 .dead) [(0, .t (.v (.string s))), (3, .t (.v (.int .i64 at1)))]) (putR (List.replicate 29 []) [])) := by
 unfold Ok
 refine spec_l1Signs_l6.partial_correctness s _ ?_
 intro F ih at1
 show Ok _ _ _
 have ih : ∀ (at1 : Int), Ok (F at1) _ _ := ih
 rw [ev_loop]
 have k0 := @k_spec_l1Signs_l6.eq_1; have k1 := @k_spec_l1Signs_r2.eq_1; have g0 := spec_SignAt_ok; have g1 := spec_IsSign_ok; have t0 := ih
 exact gs
theorem spec_l1Signs_ok : ∀ (s : ByteArray), Ok (spec_l1Signs s) e_spec_l1Signs (dn FTA n_spec_l1Signs [.t (.v (.string s))]) := by
 intro s
 rw [den_ev FTA (fn := k_spec_l1Signs) rfl (xN rfl rfl _) (lB rfl)]
 have k0 := @k_spec_l1Signs.eq_1; have f0 := @spec_l1Signs.eq_1; have t0 := spec_l1Signs_l6_ok
 exact gs
theorem spec_TextOk_ok : ∀ (s : ByteArray), Ok (spec_TextOk s) e_spec_TextOk (dn FTA n_spec_TextOk [.t (.v (.string s))]) := by
 intro s
 rw [den_ev FTA (fn := k_spec_TextOk) rfl (xN rfl rfl _) (lB rfl)]
 have k0 := @k_spec_TextOk.eq_1; have f0 := @spec_TextOk.eq_1; have g0 := spec_l1Signs_ok
 exact gs
theorem spec_DeclOk_j2_ok : ∀ (d : GDecl), Ok (spec_DeclOk_j2 d) e_spec_DeclOk (ev FTA c_spec_DeclOk k_spec_DeclOk_r2 [] (putS (List.replicate 31 .dead) [(1, .ptr (1, 0) [] 0 0 1 0)]) (putR (List.replicate 31 []) [(1, [.mem [[.v (.string d.Pre), .v (.string d.Uri)]] 0 false])])) := by
 intro d
 have k0 := @k_spec_DeclOk_r2.eq_1; have f0 := @spec_DeclOk_j2.eq_1; have g0 := spec_TextOk_ok
 exact gs
end TT
