import Derived.Test.YtjljocncnibofaaGreatDoorTLLa
set_option maxHeartbeats 40000000
set_option linter.unusedVariables false
set_option linter.unusedSimpArgs false
set_option linter.defProp false
set_option maxRecDepth 100000
namespace TT
open Go
open Nat (reduceAdd reduceSub reduceMul reduceLeDiff reduceLT reduceEqDiff)
theorem G_spec_l8Attrs_l20 : (∀ (out2 : List (GAttr)) (i : Int) (k1 : Int), Ok (spec_l8Attrs_l20 out2 i k1) e_spec_l8Attrs (ev FTA c_spec_l8Attrs (.loop k_spec_l8Attrs_l20) [.lv 2, .lv 1, .th k_spec_l8Attrs_r15, .hk [.clean []], .th (.loop k_spec_l8Attrs_l8), .lv 0, .th k_spec_l8Attrs_r4] (putS (List.replicate 51 .dead) [(3, .ref (7, 0) out2.length), (4, .t (.v (.int .i64 i))), (5, .t (.v (.int .i64 k1)))]) (putR (List.replicate 51 []) [(7, [.mem (out2.map GAttr.row) 0 false])]))) ∧
  (∀ (out1 : List (GAttr)) (i : Int), Ok (spec_l8Attrs_l8 out1 i) e_spec_l8Attrs (ev FTA c_spec_l8Attrs (.loop k_spec_l8Attrs_l8) [.lv 0, .th k_spec_l8Attrs_r4] (putS (List.replicate 51 .dead) [(3, .ref (7, 0) out1.length), (4, .t (.v (.int .i64 i)))]) (putR (List.replicate 51 []) [(7, [.mem (out1.map GAttr.row) 0 false])]))) := by
 unfold Ok
 refine spec_l8Attrs_l20.mutual_partial_correctness _ _ ?_ ?_
 ·intro F0 F1 ih0 ih1 out2 i k1
  show Ok _ _ _
  have ih0 : ∀ (out2 : List (GAttr)) (i : Int) (k1 : Int), Ok (F0 out2 i k1) _ _ := ih0
  have ih1 : ∀ (out1 : List (GAttr)) (i : Int), Ok (F1 out1 i) _ _ := ih1
  rw [ev_loop]
  have k0 := @k_spec_l8Attrs_l20.eq_1; have k1 := @k_spec_l8Attrs_r15.eq_1; have g0 := spec_l5Less_ok; have t0 := ih0; have t1 := ih1
  exact gs
 ·intro F0 ih0 out1 i
  show Ok _ _ _
  have ih0 : ∀ (out2 : List (GAttr)) (i : Int) (k1 : Int), Ok (F0 out2 i k1) _ _ := ih0
  rw [ev_loop]
  have k0 := @k_spec_l8Attrs_l8.eq_1; have k1 := @k_spec_l8Attrs_r4.eq_1; have t0 := ih0
  exact gs
theorem spec_l8Attrs_ok : ∀ (l : List GAttr), Ok (spec_l8Attrs l) e_spec_l8Attrs (dn FTA n_spec_l8Attrs [.t (.sl false (l.map GAttr.row))]) := by
 intro l
 rw [den_ev FTA (fn := k_spec_l8Attrs) rfl (xN rfl rfl _) (lB rfl)]
 have k0 := @k_spec_l8Attrs.eq_1; have f0 := @spec_l8Attrs.eq_1; have t0 := (G_spec_l8Attrs_l20).2
 exact gs
theorem G_spec_l14Rename : (∀ (n : GNode) (in1 : List GDecl), Ok (spec_l14Rename n in1) e_spec_l14Rename (dn FTA n_spec_l14Rename [.agg (((GNode.row false) n).map .t), .t (.sl false (in1.map GDecl.row))])) ∧
  (∀ (r1 : List GDecl) (good : Bool) (n : GNode) (r : GNode) (outUri : ByteArray), Ok (spec_l14Rename_j8 r1 good n r outUri) e_spec_l14Rename (ev FTA c_spec_l14Rename k_spec_l14Rename_r8 [] (putS (List.replicate 103 .dead) [(2, .ptr (2, 0) [] 0 0 1 0), (4, .ptr (4, 0) [] 0 0 1 0), (6, .ptr (6, 0) [] 0 0 1 0), (7, .ref (22, 0) r1.length), (8, .t (.v (.bool good)))]) (putR (List.replicate 103 []) [(2, [.mem [[.v (.int .i64 n.Kind), .v (.string n.Pre), .v (.string n.Local), .v (.string n.Uri), .sl false (n.Decls.map GDecl.row), .sl false (n.Attrs.map GAttr.row), .sl false (n.Kids.map (GNode.row false)), .v (.string n.Text)]] 0 false]), (4, [.mem [[.v (.int .i64 0), .v (.string (⟨#[]⟩)), .v (.string (⟨#[]⟩)), .v (.string (⟨#[]⟩)), .sl true [], .sl true [], .sl true [], .v (.string (⟨#[]⟩))]] 0 false]), (6, [.mem [[.v (.int .i64 r.Kind), .v (.string r.Pre), .v (.string r.Local), .v (.string outUri), .sl true (r.Decls.map GDecl.row), .sl true (r.Attrs.map GAttr.row), .sl true (r.Kids.map (GNode.row true)), .v (.string r.Text)]] 0 false]), (22, [.mem (r1.map GDecl.row) 0 false])]))) ∧
  (∀ (r1 : List GDecl) (good2 : Bool) (i1 : Int) (n : GNode) (r : GNode) (outUri : ByteArray) (outAttrs : List (GAttr)), Ok (spec_l14Rename_l22 r1 good2 i1 n r outUri outAttrs) e_spec_l14Rename (ev FTA c_spec_l14Rename (.loop k_spec_l14Rename_l22) [.lv 0, .th k_spec_l14Rename_r18] (putS (List.replicate 103 .dead) [(2, .ptr (2, 0) [] 0 0 1 0), (4, .ptr (4, 0) [] 0 0 1 0), (6, .ptr (6, 0) [] 0 0 1 0), (7, .ref (22, 0) r1.length), (8, .t (.v (.bool good2))), (11, .t (.v (.int .i64 i1)))]) (putR (List.replicate 103 []) [(2, [.mem [[.v (.int .i64 n.Kind), .v (.string n.Pre), .v (.string n.Local), .v (.string n.Uri), .sl false (n.Decls.map GDecl.row), .sl false (n.Attrs.map GAttr.row), .sl false (n.Kids.map (GNode.row false)), .v (.string n.Text)]] 0 false]), (4, [.mem [[.v (.int .i64 0), .v (.string (⟨#[]⟩)), .v (.string (⟨#[]⟩)), .v (.string (⟨#[]⟩)), .sl true [], .sl true [], .sl true [], .v (.string (⟨#[]⟩))]] 0 false]), (6, [.mem [[.v (.int .i64 r.Kind), .v (.string r.Pre), .v (.string r.Local), .v (.string outUri), .sl true (r.Decls.map GDecl.row), .sl true (outAttrs.map GAttr.row), .sl true (r.Kids.map (GNode.row true)), .v (.string r.Text)]] 0 false]), (22, [.mem (r1.map GDecl.row) 0 false])]))) ∧
  (∀ (r1 : List GDecl) (good3 : Bool) (i2 : Int) (n : GNode) (r : GNode) (outUri : ByteArray) (r8 : List GAttr) (outKids1 : List (GNode)), Ok (spec_l14Rename_l47 r1 good3 i2 n r outUri r8 outKids1) e_spec_l14Rename (ev FTA c_spec_l14Rename (.loop k_spec_l14Rename_l47) [.lv 2, .th k_spec_l14Rename_r43] (putS (List.replicate 103 .dead) [(2, .ptr (2, 0) [] 0 0 1 0), (4, .ptr (4, 0) [] 0 0 1 0), (6, .ptr (6, 0) [] 0 0 1 0), (7, .ref (22, 0) r1.length), (8, .t (.v (.bool good3))), (14, .t (.v (.int .i64 i2)))]) (putR (List.replicate 103 []) [(2, [.mem [[.v (.int .i64 n.Kind), .v (.string n.Pre), .v (.string n.Local), .v (.string n.Uri), .sl false (n.Decls.map GDecl.row), .sl false (n.Attrs.map GAttr.row), .sl false (n.Kids.map (GNode.row false)), .v (.string n.Text)]] 0 false]), (4, [.mem [[.v (.int .i64 0), .v (.string (⟨#[]⟩)), .v (.string (⟨#[]⟩)), .v (.string (⟨#[]⟩)), .sl true [], .sl true [], .sl true [], .v (.string (⟨#[]⟩))]] 0 false]), (6, [.mem [[.v (.int .i64 r.Kind), .v (.string r.Pre), .v (.string r.Local), .v (.string outUri), .sl true (r.Decls.map GDecl.row), .sl true (r8.map GAttr.row), .sl true (outKids1.map (GNode.row true)), .v (.string r.Text)]] 0 false]), (22, [.mem (r1.map GDecl.row) 0 false])]))) := by
 unfold Ok
 refine spec_l14Rename.mutual_partial_correctness _ _ _ _ ?_ ?_ ?_ ?_
 ·intro F1 ih1 n in1
  show Ok _ _ _
  have ih1 : ∀ (r1 : List GDecl) (good : Bool) (n : GNode) (r : GNode) (outUri : ByteArray), Ok (F1 r1 good n r outUri) _ _ := ih1
  rw [den_ev FTA (fn := k_spec_l14Rename) rfl (xN rfl rfl _) (lB rfl)]
  have k0 := @k_spec_l14Rename.eq_1; have g0 := spec_l5Copy_ok; have g1 := spec_Inner_ok; have g2 := spec_SpaceOf_ok; have t0 := ih1
  exact gs
 ·intro F2 ih2 r1 good n r outUri
  show Ok _ _ _
  have ih2 : ∀ (r1 : List GDecl) (good2 : Bool) (i1 : Int) (n : GNode) (r : GNode) (outUri : ByteArray) (outAttrs : List (GAttr)), Ok (F2 r1 good2 i1 n r outUri outAttrs) _ _ := ih2
  have k0 := @k_spec_l14Rename_r8.eq_1; have t0 := ih2
  exact gs
 ·intro F2 F3 ih2 ih3 r1 good2 i1 n r outUri outAttrs
  show Ok _ _ _
  have ih2 : ∀ (r1 : List GDecl) (good2 : Bool) (i1 : Int) (n : GNode) (r : GNode) (outUri : ByteArray) (outAttrs : List (GAttr)), Ok (F2 r1 good2 i1 n r outUri outAttrs) _ _ := ih2
  have ih3 : ∀ (r1 : List GDecl) (good3 : Bool) (i2 : Int) (n : GNode) (r : GNode) (outUri : ByteArray) (r8 : List GAttr) (outKids1 : List (GNode)), Ok (F3 r1 good3 i2 n r outUri r8 outKids1) _ _ := ih3
  rw [ev_loop]
  have k0 := @k_spec_l14Rename_l22.eq_1; have k1 := @k_spec_l14Rename_r18.eq_1; have g0 := spec_SpaceOf_ok; have g1 := spec_l8Attrs_ok; have t0 := ih2; have t1 := ih3
  exact gs
 ·intro F0 F3 ih0 ih3 r1 good3 i2 n r outUri r8 outKids1
  show Ok _ _ _
  have ih0 : ∀ (n : GNode) (in1 : List GDecl), Ok (F0 n in1) _ _ := ih0
  have ih3 : ∀ (r1 : List GDecl) (good3 : Bool) (i2 : Int) (n : GNode) (r : GNode) (outUri : ByteArray) (r8 : List GAttr) (outKids1 : List (GNode)), Ok (F3 r1 good3 i2 n r outUri r8 outKids1) _ _ := ih3
  rw [ev_loop]
  have k0 := @k_spec_l14Rename_l47.eq_1; have k1 := @k_spec_l14Rename_r43.eq_1; have g0 := ih0; have t0 := ih3
  exact gs
theorem spec_l14Rename_ok (n : GNode) (in1 : List GDecl) : Ok (spec_l14Rename n in1) e_spec_l14Rename (dn FTA n_spec_l14Rename [.agg (((GNode.row false) n).map .t), .t (.sl false (in1.map GDecl.row))]) := G_spec_l14Rename.1 n in1
theorem G_spec_CountOf : (∀ (n : GNode), Ok (spec_CountOf n) e_spec_CountOf (dn FTA n_spec_CountOf [.agg (((GNode.row false) n).map .t)])) ∧
  (∀ (k : Int) (i : Int) (n : GNode), Ok (spec_CountOf_l8 k i n) e_spec_CountOf (ev FTA c_spec_CountOf (.loop k_spec_CountOf_l8) [.lv 0, .th k_spec_CountOf_r4] (putS (List.replicate 25 .dead) [(1, .ptr (1, 0) [] 0 0 1 0), (3, .t (.v (.int .i64 k))), (4, .t (.v (.int .i64 i)))]) (putR (List.replicate 25 []) [(1, [.mem [[.v (.int .i64 n.Kind), .v (.string n.Pre), .v (.string n.Local), .v (.string n.Uri), .sl false (n.Decls.map GDecl.row), .sl false (n.Attrs.map GAttr.row), .sl false (n.Kids.map (GNode.row false)), .v (.string n.Text)]] 0 false])]))) := by
 unfold Ok
 refine spec_CountOf.mutual_partial_correctness _ _ ?_ ?_
 ·intro F1 ih1 n
  show Ok _ _ _
  have ih1 : ∀ (k : Int) (i : Int) (n : GNode), Ok (F1 k i n) _ _ := ih1
  rw [den_ev FTA (fn := k_spec_CountOf) rfl (xN rfl rfl _) (lB rfl)]
  have k0 := @k_spec_CountOf.eq_1; have t0 := ih1
  exact gs
 ·intro F0 F1 ih0 ih1 k i n
  show Ok _ _ _
  have ih0 : ∀ (n : GNode), Ok (F0 n) _ _ := ih0
  have ih1 : ∀ (k : Int) (i : Int) (n : GNode), Ok (F1 k i n) _ _ := ih1
  rw [ev_loop]
  have k0 := @k_spec_CountOf_l8.eq_1; have k1 := @k_spec_CountOf_r4.eq_1; have g0 := ih0; have t0 := ih1
  exact gs
theorem spec_CountOf_ok (n : GNode) : Ok (spec_CountOf n) e_spec_CountOf (dn FTA n_spec_CountOf [.agg (((GNode.row false) n).map .t)]) := G_spec_CountOf.1 n
theorem spec_l1In_ok : ∀ (a0 : Int) (least : Int) (most : Int), Ok (spec_l1In a0 least most) e_spec_l1In (dn FTA n_spec_l1In [.t (.v (.int .i64 a0)), .t (.v (.int .i64 least)), .t (.v (.int .i64 most))]) := by
 intro a0 least most
 rw [den_ev FTA (fn := k_spec_l1In) rfl (xN rfl rfl _) (lB rfl)]
 have k0 := @k_spec_l1In.eq_1; have f0 := @spec_l1In.eq_1
 exact gs
theorem spec_SignAt_l55_ok (s : ByteArray) (at1 : Int) (n : Int) (least : Int) : ∀ (v1 : Int) (i : Int), Ok (spec_SignAt_l55 s at1 n least v1 i) e_spec_SignAt (ev FTA c_spec_SignAt (.loop k_spec_SignAt_l55) [.lv 1, .th k_spec_SignAt_r51] (putS (List.replicate 102 .dead) [(0, .t (.v (.string s))), (1, .t (.v (.int .i64 at1))), (8, .t (.v (.int .i64 n))), (9, .t (.v (.int .i64 least))), (10, .t (.v (.int .i64 v1))), (11, .t (.v (.int .i64 i)))]) (putR (List.replicate 102 []) [])) := by
 unfold Ok
 refine spec_SignAt_l55.partial_correctness s at1 n least _ ?_
 intro F ih v1 i
 show Ok _ _ _
 have ih : ∀ (v1 : Int) (i : Int), Ok (F v1 i) _ _ := ih
 rw [ev_loop]
 have k0 := @k_spec_SignAt_l55.eq_1; have k1 := @k_spec_SignAt_r51.eq_1; have g0 := spec_l1In_ok; have t0 := ih
 exact gs
theorem spec_SignAt_j26_ok : ∀ (s : ByteArray) (at1 : Int) (n : Int) (least : Int) (v : Int), Ok (spec_SignAt_j26 s at1 n least v) e_spec_SignAt (ev FTA c_spec_SignAt k_spec_SignAt_r26 [] (putS (List.replicate 102 .dead) [(0, .t (.v (.string s))), (1, .t (.v (.int .i64 at1))), (8, .t (.v (.int .i64 n))), (9, .t (.v (.int .i64 least))), (10, .t (.v (.int .i64 v)))]) (putR (List.replicate 102 []) [])) := by
 intro s at1 n least v
 have k0 := @k_spec_SignAt_r26.eq_1; have f0 := @spec_SignAt_j26.eq_1; have t0 := spec_SignAt_l55_ok
 exact gs
theorem spec_SignAt_j32_ok : ∀ (s : ByteArray) (at1 : Int) (x : Int) (x2 : Bool), Ok (spec_SignAt_j32 s at1 x x2) e_spec_SignAt (ev FTA c_spec_SignAt k_spec_SignAt_r32 [.lv 0, .hk [.clean []], .th k_spec_SignAt_r26] (putS (List.replicate 102 .dead) [(0, .t (.v (.string s))), (1, .t (.v (.int .i64 at1))), (7, .t (.v (.int .i64 (wr .i64 x)))), (39, .t (.v (.bool x2)))]) (putR (List.replicate 102 []) [])) := by
 intro s at1 x x2
 have k0 := @k_spec_SignAt_r32.eq_1; have f0 := @spec_SignAt_j32.eq_1; have t0 := spec_SignAt_j26_ok
 exact gs
theorem spec_SignAt_j28_ok : ∀ (s : ByteArray) (at1 : Int) (x : Int) (x1 : Bool), Ok (spec_SignAt_j28 s at1 x x1) e_spec_SignAt (ev FTA c_spec_SignAt k_spec_SignAt_r28 [.lv 0, .hk [.clean []], .th k_spec_SignAt_r26] (putS (List.replicate 102 .dead) [(0, .t (.v (.string s))), (1, .t (.v (.int .i64 at1))), (7, .t (.v (.int .i64 (wr .i64 x)))), (30, .t (.v (.bool x1)))]) (putR (List.replicate 102 []) [])) := by
 intro s at1 x x1
 have k0 := @k_spec_SignAt_r28.eq_1; have f0 := @spec_SignAt_j28.eq_1; have t0 := spec_SignAt_j26_ok; have t1 := spec_SignAt_j32_ok
 exact gs
theorem spec_SignAt_ok : ∀ (s : ByteArray) (at1 : Int), Ok (spec_SignAt s at1) e_spec_SignAt (dn FTA n_spec_SignAt [.t (.v (.string s)), .t (.v (.int .i64 at1))]) := by
 intro s at1
 rw [den_ev FTA (fn := k_spec_SignAt) rfl (xN rfl rfl _) (lB rfl)]
 have k0 := @k_spec_SignAt.eq_1; have f0 := @spec_SignAt.eq_1; have t0 := spec_SignAt_j28_ok
 exact gs
theorem spec_l1Ranges_l6_ok (n : Int) (l : List Int) : ∀ (i : Int), Ok (spec_l1Ranges_l6 n l i) e_spec_l1Ranges (ev FTA c_spec_l1Ranges (.loop k_spec_l1Ranges_l6) [.lv 0, .th k_spec_l1Ranges_r2] (putS (List.replicate 24 .dead) [(0, .t (.v (.int .i64 n))), (1, .t (.sl false (l.map rI))), (5, .t (.v (.int .i64 i)))]) (putR (List.replicate 24 []) [])) := by
 unfold Ok
 refine spec_l1Ranges_l6.partial_correctness n l _ ?_
 intro F ih i
 show Ok _ _ _
 have ih : ∀ (i : Int), Ok (F i) _ _ := ih
 rw [ev_loop]
 have k0 := @k_spec_l1Ranges_l6.eq_1; have k1 := @k_spec_l1Ranges_r2.eq_1; have g0 := spec_l1In_ok; have t0 := ih
 exact gs
theorem spec_l1Ranges_ok : ∀ (n : Int) (l : List Int), Ok (spec_l1Ranges n l) e_spec_l1Ranges (dn FTA n_spec_l1Ranges [.t (.v (.int .i64 n)), .t (.sl false (l.map rI))]) := by
 intro n l
 rw [den_ev FTA (fn := k_spec_l1Ranges) rfl (xN rfl rfl _) (lB rfl)]
 have k0 := @k_spec_l1Ranges.eq_1; have f0 := @spec_l1Ranges.eq_1; have t0 := spec_l1Ranges_l6_ok
 exact gs
theorem spec_IsStart_ok : ∀ (n : Int), Ok (spec_IsStart n) e_spec_IsStart (dn FTA n_spec_IsStart [.t (.v (.int .i64 n))]) := by
 intro n
 rw [den_ev FTA (fn := k_spec_IsStart) rfl (xN rfl rfl _) (lB rfl)]
 have k0 := @k_spec_IsStart.eq_1; have f0 := @spec_IsStart.eq_1; have g0 := spec_l1Ranges_ok
 exact gs
theorem spec_IsPart_ok : ∀ (n : Int), Ok (spec_IsPart n) e_spec_IsPart (dn FTA n_spec_IsPart [.t (.v (.int .i64 n))]) := by
 intro n
 rw [den_ev FTA (fn := k_spec_IsPart) rfl (xN rfl rfl _) (lB rfl)]
 have k0 := @k_spec_IsPart.eq_1; have f0 := @spec_IsPart.eq_1; have g0 := spec_IsStart_ok; have g1 := spec_l1Ranges_ok
 exact gs
theorem spec_PlainOk_l14_ok (s : ByteArray) : ∀ (at1 : Int), Ok (spec_PlainOk_l14 s at1) e_spec_PlainOk (ev FTA c_spec_PlainOk (.loop k_spec_PlainOk_l14) [.lv 0, .th k_spec_PlainOk_r10] (putS (List.replicate 39 .dead) [(0, .t (.v (.string s))), (3, .t (.v (.int .i64 at1)))]) (putR (List.replicate 39 []) [])) := by
 unfold Ok
 refine spec_PlainOk_l14.partial_correctness s _ ?_
 intro F ih at1
 show Ok _ _ _
 have ih : ∀ (at1 : Int), Ok (F at1) _ _ := ih
 rw [ev_loop]
 have k0 := @k_spec_PlainOk_l14.eq_1; have k1 := @k_spec_PlainOk_r10.eq_1; have g0 := spec_SignAt_ok; have g1 := spec_IsStart_ok; have g2 := spec_IsPart_ok; have t0 := ih
 exact gs
theorem spec_PlainOk_ok : ∀ (s : ByteArray), Ok (spec_PlainOk s) e_spec_PlainOk (dn FTA n_spec_PlainOk [.t (.v (.string s))]) := by
 intro s
 rw [den_ev FTA (fn := k_spec_PlainOk) rfl (xN rfl rfl _) (lB rfl)]
 have k0 := @k_spec_PlainOk.eq_1; have f0 := @spec_PlainOk.eq_1; have g0 := spec_l1In_ok; have t0 := spec_PlainOk_l14_ok
 exact gs
theorem spec_l4Xml_ok : ∀ (s : ByteArray), Ok (spec_l4Xml s) e_spec_l4Xml (dn FTA n_spec_l4Xml [.t (.v (.string s))]) := by
 intro s
 rw [den_ev FTA (fn := k_spec_l4Xml) rfl (xN rfl rfl _) (lB rfl)]
 have k0 := @k_spec_l4Xml.eq_1; have f0 := @spec_l4Xml.eq_1
 exact gs
theorem spec_l5Pre_ok : ∀ (s : ByteArray), Ok (spec_l5Pre s) e_spec_l5Pre (dn FTA n_spec_l5Pre [.t (.v (.string s))]) := by
 intro s
 rw [den_ev FTA (fn := k_spec_l5Pre) rfl (xN rfl rfl _) (lB rfl)]
 have k0 := @k_spec_l5Pre.eq_1; have f0 := @spec_l5Pre.eq_1; have g0 := spec_PlainOk_ok; have g1 := spec_l4Xml_ok
 exact gs
theorem spec_IsSign_ok : ∀ (n : Int), Ok (spec_IsSign n) e_spec_IsSign (dn FTA n_spec_IsSign [.t (.v (.int .i64 n))]) := by
 intro n
 rw [den_ev FTA (fn := k_spec_IsSign) rfl (xN rfl rfl _) (lB rfl)]
 have k0 := @k_spec_IsSign.eq_1; have f0 := @spec_IsSign.eq_1; have g0 := spec_l1In_ok
 exact gs
theorem spec_l1Signs_l6_ok (s : ByteArray) : ∀ (at1 : Int), Ok (spec_l1Signs_l6 s at1) e_spec_l1Signs (ev FTA c_spec_l1Signs (.loop k_spec_l1Signs_l6) [.lv 0, .th k_spec_l1Signs_r2] (putS (List.replicate 29 .dead) [(0, .t (.v (.string s))), (3, .t (.v (.int .i64 at1)))]) (putR (List.replicate 29 []) [])) := by
 unfold Ok
 refine spec_l1Signs_l6.partial_correctness s _ ?_
 intro F ih at1
 show Ok _ _ _
 have ih : ∀ (at1 : Int), Ok (F at1) _ _ := ih
 rw [ev_loop]
 have k0 := @k_spec_l1Signs_l6.eq_1; have k1 := @k_spec_l1Signs_r2.eq_1; have g0 := spec_SignAt_ok; have g1 := spec_IsSign_ok; have t0 := ih
 exact gs
theorem spec_l1Signs_ok : ∀ (s : ByteArray), Ok (spec_l1Signs s) e_spec_l1Signs (dn FTA n_spec_l1Signs [.t (.v (.string s))]) := by
 intro s
 rw [den_ev FTA (fn := k_spec_l1Signs) rfl (xN rfl rfl _) (lB rfl)]
 have k0 := @k_spec_l1Signs.eq_1; have f0 := @spec_l1Signs.eq_1; have t0 := spec_l1Signs_l6_ok
 exact gs
theorem spec_TextOk_ok : ∀ (s : ByteArray), Ok (spec_TextOk s) e_spec_TextOk (dn FTA n_spec_TextOk [.t (.v (.string s))]) := by
 intro s
 rw [den_ev FTA (fn := k_spec_TextOk) rfl (xN rfl rfl _) (lB rfl)]
 have k0 := @k_spec_TextOk.eq_1; have f0 := @spec_TextOk.eq_1; have g0 := spec_l1Signs_ok
 exact gs
theorem spec_DeclOk_j2_ok : ∀ (d : GDecl), Ok (spec_DeclOk_j2 d) e_spec_DeclOk (ev FTA c_spec_DeclOk k_spec_DeclOk_r2 [] (putS (List.replicate 31 .dead) [(1, .ptr (1, 0) [] 0 0 1 0)]) (putR (List.replicate 31 []) [(1, [.mem [[.v (.string d.Pre), .v (.string d.Uri)]] 0 false])])) := by
 intro d
 have k0 := @k_spec_DeclOk_r2.eq_1; have f0 := @spec_DeclOk_j2.eq_1; have g0 := spec_TextOk_ok
 exact gs
end TT
