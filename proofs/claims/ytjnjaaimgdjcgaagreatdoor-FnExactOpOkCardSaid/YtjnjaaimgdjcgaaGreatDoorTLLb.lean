import Derived.Test.YtjnjaaimgdjcgaaGreatDoorTLLa
set_option maxHeartbeats 2000000
set_option linter.unusedVariables false
set_option linter.unusedSimpArgs false
set_option linter.defProp false
set_option maxRecDepth 100000
namespace TT
open Go
open Nat (reduceAdd reduceSub reduceMul reduceLeDiff reduceLT reduceEqDiff)
theorem laws_toDeclS_l8_ok (a : List GDecl) : ∀ (out : List (GDecl)) (i : Int), Ok (laws_toDeclS_l8 a out i) e_laws_toDeclS (ev FTA c_laws_toDeclS (.loop k_laws_toDeclS_l8) [.lv 0, .th k_laws_toDeclS_r4] (putS (List.replicate 23 .dead) [(0, .t (.sl false (a.map GDecl.row))), (3, .ref (7, 0) out.length), (4, .t (.v (.int .i64 i)))]) (putR (List.replicate 23 []) [(7, [.mem (out.map GDecl.row) 0 false])])) := by
 unfold Ok
 refine laws_toDeclS_l8.partial_correctness a _ ?_
 intro F ih out i
 show Ok _ _ _
 have ih : ∀ (out : List (GDecl)) (i : Int), Ok (F out i) _ _ := ih
 rw [ev_loop]
 have k0 := @k_laws_toDeclS_l8.eq_1; have k1 := @k_laws_toDeclS_r4.eq_1; have g0 := laws_toDecl_ok; have t0 := ih
 exact gs
theorem laws_toDeclS_ok : ∀ (a : List GDecl), Ok (laws_toDeclS a) e_laws_toDeclS (dn FTA n_laws_toDeclS [.t (.sl false (a.map GDecl.row))]) := by
 intro a
 rw [den_ev FTA (fn := k_laws_toDeclS) rfl (xN rfl rfl _) (lB rfl)]
 have k0 := @k_laws_toDeclS.eq_1; have f0 := @laws_toDeclS.eq_1; have t0 := laws_toDeclS_l8_ok
 exact gs
theorem laws_toAttr_ok : ∀ (a : GAttr), Ok (laws_toAttr a) e_laws_toAttr (dn FTA n_laws_toAttr [.agg ((GAttr.row a).map .t)]) := by
 intro a
 rw [den_ev FTA (fn := k_laws_toAttr) rfl (xN rfl rfl _) (lB rfl)]
 have k0 := @k_laws_toAttr.eq_1; have f0 := @laws_toAttr.eq_1
 exact gs
theorem laws_toAttrS_l8_ok (a : List GAttr) : ∀ (out : List (GAttr)) (i : Int), Ok (laws_toAttrS_l8 a out i) e_laws_toAttrS (ev FTA c_laws_toAttrS (.loop k_laws_toAttrS_l8) [.lv 0, .th k_laws_toAttrS_r4] (putS (List.replicate 23 .dead) [(0, .t (.sl false (a.map GAttr.row))), (3, .ref (7, 0) out.length), (4, .t (.v (.int .i64 i)))]) (putR (List.replicate 23 []) [(7, [.mem (out.map GAttr.row) 0 false])])) := by
 unfold Ok
 refine laws_toAttrS_l8.partial_correctness a _ ?_
 intro F ih out i
 show Ok _ _ _
 have ih : ∀ (out : List (GAttr)) (i : Int), Ok (F out i) _ _ := ih
 rw [ev_loop]
 have k0 := @k_laws_toAttrS_l8.eq_1; have k1 := @k_laws_toAttrS_r4.eq_1; have g0 := laws_toAttr_ok; have t0 := ih
 exact gs
theorem laws_toAttrS_ok : ∀ (a : List GAttr), Ok (laws_toAttrS a) e_laws_toAttrS (dn FTA n_laws_toAttrS [.t (.sl false (a.map GAttr.row))]) := by
 intro a
 rw [den_ev FTA (fn := k_laws_toAttrS) rfl (xN rfl rfl _) (lB rfl)]
 have k0 := @k_laws_toAttrS.eq_1; have f0 := @laws_toAttrS.eq_1; have t0 := laws_toAttrS_l8_ok
 exact gs
theorem G_laws_toNode : (∀ (a : GNode), Ok (laws_toNode a) e_laws_toNode (dn FTA n_laws_toNode [.agg (((GNode.row false) a).map .t)])) ∧
  (∀ (a : List GNode), Ok (laws_toNodeS a) e_laws_toNodeS (dn FTA n_laws_toNodeS [.t (.sl false (a.map (GNode.row false)))])) ∧
  (∀ (a : List GNode) (out : List (GNode)) (i : Int), Ok (laws_toNodeS_l8 a out i) e_laws_toNodeS (ev FTA c_laws_toNodeS (.loop k_laws_toNodeS_l8) [.lv 0, .th k_laws_toNodeS_r4] (putS (List.replicate 23 .dead) [(0, .t (.sl false (a.map (GNode.row false)))), (3, .ref (7, 0) out.length), (4, .t (.v (.int .i64 i)))]) (putR (List.replicate 23 []) [(7, [.mem (out.map (GNode.row true)) 0 false])]))) := by
 unfold Ok
 refine laws_toNode.mutual_partial_correctness _ _ _ ?_ ?_ ?_
 ·intro F1 ih1 a
  show Ok _ _ _
  have ih1 : ∀ (a : List GNode), Ok (F1 a) _ _ := ih1
  rw [den_ev FTA (fn := k_laws_toNode) rfl (xN rfl rfl _) (lB rfl)]
  have k0 := @k_laws_toNode.eq_1; have g0 := laws_toDeclS_ok; have g1 := laws_toAttrS_ok; have g2 := ih1
  exact gs
 ·intro F2 ih2 a
  show Ok _ _ _
  have ih2 : ∀ (a : List GNode) (out : List (GNode)) (i : Int), Ok (F2 a out i) _ _ := ih2
  rw [den_ev FTA (fn := k_laws_toNodeS) rfl (xN rfl rfl _) (lB rfl)]
  have k0 := @k_laws_toNodeS.eq_1; have t0 := ih2
  exact gs
 ·intro F0 F2 ih0 ih2 a out i
  show Ok _ _ _
  have ih0 : ∀ (a : GNode), Ok (F0 a) _ _ := ih0
  have ih2 : ∀ (a : List GNode) (out : List (GNode)) (i : Int), Ok (F2 a out i) _ _ := ih2
  rw [ev_loop]
  have k0 := @k_laws_toNodeS_l8.eq_1; have k1 := @k_laws_toNodeS_r4.eq_1; have g0 := ih0; have t0 := ih2
  exact gs
theorem laws_toNode_ok (a : GNode) : Ok (laws_toNode a) e_laws_toNode (dn FTA n_laws_toNode [.agg (((GNode.row false) a).map .t)]) := G_laws_toNode.1 a
theorem laws_toNodeS_ok (a : List GNode) : Ok (laws_toNodeS a) e_laws_toNodeS (dn FTA n_laws_toNodeS [.t (.sl false (a.map (GNode.row false)))]) := G_laws_toNode.2.1 a
theorem laws_toOp_ok : ∀ (a : GOp), Ok (laws_toOp a) e_laws_toOp (dn FTA n_laws_toOp [.agg (((GOp.row false) a).map .t)]) := by
 intro a
 rw [den_ev FTA (fn := k_laws_toOp) rfl (xN rfl rfl _) (lB rfl)]
 have k0 := @k_laws_toOp.eq_1; have f0 := @laws_toOp.eq_1; have g0 := laws_toSel_ok; have g1 := laws_toNodeS_ok; have g2 := laws_toDeclS_ok
 exact gs
theorem spec_l1In_ok : ∀ (a0 : Int) (least : Int) (most : Int), Ok (spec_l1In a0 least most) e_spec_l1In (dn FTA n_spec_l1In [.t (.v (.int .i64 a0)), .t (.v (.int .i64 least)), .t (.v (.int .i64 most))]) := by
 intro a0 least most
 rw [den_ev FTA (fn := k_spec_l1In) rfl (xN rfl rfl _) (lB rfl)]
 have k0 := @k_spec_l1In.eq_1; have f0 := @spec_l1In.eq_1
 exact gs
theorem spec_SignAt_l55_ok (s : ByteArray) (at1 : Int) (n : Int) (least : Int) : ∀ (v1 : Int) (i : Int), Ok (spec_SignAt_l55 s at1 n least v1 i) e_spec_SignAt (ev FTA c_spec_SignAt (.loop k_spec_SignAt_l55) [.lv 1, .th k_spec_SignAt_r51] (putS (List.replicate 102 .dead) [(0, .t (.v (.string s))), (1, .t (.v (.int .i64 at1))), (8, .t (.v (.int .i64 n))), (9, .t (.v (.int .i64 least))), (10, .t (.v (.int .i64 v1))), (11, .t (.v (.int .i64 i)))]) (putR (List.replicate 102 []) [])) := by
 unfold Ok
 refine spec_SignAt_l55.partial_correctness s at1 n least _ ?_
 intro F ih v1 i
 show Ok _ _ _
 have ih : ∀ (v1 : Int) (i : Int), Ok (F v1 i) _ _ := ih
 rw [ev_loop]
 have k0 := @k_spec_SignAt_l55.eq_1; have k1 := @k_spec_SignAt_r51.eq_1; have g0 := spec_l1In_ok; have t0 := ih
 exact gs
theorem spec_SignAt_j26_ok : ∀ (s : ByteArray) (at1 : Int) (n : Int) (least : Int) (v : Int), Ok (spec_SignAt_j26 s at1 n least v) e_spec_SignAt (ev FTA c_spec_SignAt k_spec_SignAt_r26 [] (putS (List.replicate 102 .dead) [(0, .t (.v (.string s))), (1, .t (.v (.int .i64 at1))), (8, .t (.v (.int .i64 n))), (9, .t (.v (.int .i64 least))), (10, .t (.v (.int .i64 v)))]) (putR (List.replicate 102 []) [])) := by
 intro s at1 n least v
 have k0 := @k_spec_SignAt_r26.eq_1; have f0 := @spec_SignAt_j26.eq_1; have t0 := spec_SignAt_l55_ok
 exact gs
theorem spec_SignAt_j32_ok : ∀ (s : ByteArray) (at1 : Int) (x : Int) (x2 : Bool), Ok (spec_SignAt_j32 s at1 x x2) e_spec_SignAt (ev FTA c_spec_SignAt k_spec_SignAt_r32 [.lv 0, .hk [.clean []], .th k_spec_SignAt_r26] (putS (List.replicate 102 .dead) [(0, .t (.v (.string s))), (1, .t (.v (.int .i64 at1))), (7, .t (.v (.int .i64 (wr .i64 x)))), (39, .t (.v (.bool x2)))]) (putR (List.replicate 102 []) [])) := by
 intro s at1 x x2
 have k0 := @k_spec_SignAt_r32.eq_1; have f0 := @spec_SignAt_j32.eq_1; have t0 := spec_SignAt_j26_ok
 exact gs
theorem spec_SignAt_j28_ok : ∀ (s : ByteArray) (at1 : Int) (x : Int) (x1 : Bool), Ok (spec_SignAt_j28 s at1 x x1) e_spec_SignAt (ev FTA c_spec_SignAt k_spec_SignAt_r28 [.lv 0, .hk [.clean []], .th k_spec_SignAt_r26] (putS (List.replicate 102 .dead) [(0, .t (.v (.string s))), (1, .t (.v (.int .i64 at1))), (7, .t (.v (.int .i64 (wr .i64 x)))), (30, .t (.v (.bool x1)))]) (putR (List.replicate 102 []) [])) := by
 intro s at1 x x1
 have k0 := @k_spec_SignAt_r28.eq_1; have f0 := @spec_SignAt_j28.eq_1; have t0 := spec_SignAt_j26_ok; have t1 := spec_SignAt_j32_ok
 exact gs
theorem spec_SignAt_ok : ∀ (s : ByteArray) (at1 : Int), Ok (spec_SignAt s at1) e_spec_SignAt (dn FTA n_spec_SignAt [.t (.v (.string s)), .t (.v (.int .i64 at1))]) := by
 intro s at1
 rw [den_ev FTA (fn := k_spec_SignAt) rfl (xN rfl rfl _) (lB rfl)]
 have k0 := @k_spec_SignAt.eq_1; have f0 := @spec_SignAt.eq_1; have t0 := spec_SignAt_j28_ok
 exact gs
theorem spec_l1Ranges_l6_ok (n : Int) (l : List Int) : ∀ (i : Int), Ok (spec_l1Ranges_l6 n l i) e_spec_l1Ranges (ev FTA c_spec_l1Ranges (.loop k_spec_l1Ranges_l6) [.lv 0, .th k_spec_l1Ranges_r2] (putS (List.replicate 24 .dead) [(0, .t (.v (.int .i64 n))), (1, .t (.sl false (l.map rI))), (5, .t (.v (.int .i64 i)))]) (putR (List.replicate 24 []) [])) := by
 unfold Ok
 refine spec_l1Ranges_l6.partial_correctness n l _ ?_
 intro F ih i
 show Ok _ _ _
 have ih : ∀ (i : Int), Ok (F i) _ _ := ih
 rw [ev_loop]
 have k0 := @k_spec_l1Ranges_l6.eq_1; have k1 := @k_spec_l1Ranges_r2.eq_1; have g0 := spec_l1In_ok; have t0 := ih
 exact gs
theorem spec_l1Ranges_ok : ∀ (n : Int) (l : List Int), Ok (spec_l1Ranges n l) e_spec_l1Ranges (dn FTA n_spec_l1Ranges [.t (.v (.int .i64 n)), .t (.sl false (l.map rI))]) := by
 intro n l
 rw [den_ev FTA (fn := k_spec_l1Ranges) rfl (xN rfl rfl _) (lB rfl)]
 have k0 := @k_spec_l1Ranges.eq_1; have f0 := @spec_l1Ranges.eq_1; have t0 := spec_l1Ranges_l6_ok
 exact gs
theorem spec_IsStart_ok : ∀ (n : Int), Ok (spec_IsStart n) e_spec_IsStart (dn FTA n_spec_IsStart [.t (.v (.int .i64 n))]) := by
 intro n
 rw [den_ev FTA (fn := k_spec_IsStart) rfl (xN rfl rfl _) (lB rfl)]
 have k0 := @k_spec_IsStart.eq_1; have f0 := @spec_IsStart.eq_1; have g0 := spec_l1Ranges_ok
 exact gs
theorem spec_IsPart_ok : ∀ (n : Int), Ok (spec_IsPart n) e_spec_IsPart (dn FTA n_spec_IsPart [.t (.v (.int .i64 n))]) := by
 intro n
 rw [den_ev FTA (fn := k_spec_IsPart) rfl (xN rfl rfl _) (lB rfl)]
 have k0 := @k_spec_IsPart.eq_1; have f0 := @spec_IsPart.eq_1; have g0 := spec_IsStart_ok; have g1 := spec_l1Ranges_ok
 exact gs
theorem spec_PlainOk_l14_ok (s : ByteArray) : ∀ (at1 : Int), Ok (spec_PlainOk_l14 s at1) e_spec_PlainOk (ev FTA c_spec_PlainOk (.loop k_spec_PlainOk_l14) [.lv 0, .th k_spec_PlainOk_r10] (putS (List.replicate 39 .dead) [(0, .t (.v (.string s))), (3, .t (.v (.int .i64 at1)))]) (putR (List.replicate 39 []) [])) := by
 unfold Ok
 refine spec_PlainOk_l14.partial_correctness s _ ?_
 intro F ih at1
 show Ok _ _ _
 have ih : ∀ (at1 : Int), Ok (F at1) _ _ := ih
 rw [ev_loop]
 have k0 := @k_spec_PlainOk_l14.eq_1; have k1 := @k_spec_PlainOk_r10.eq_1; have g0 := spec_SignAt_ok; have g1 := spec_IsStart_ok; have g2 := spec_IsPart_ok; have t0 := ih
 exact gs
theorem spec_PlainOk_ok : ∀ (s : ByteArray), Ok (spec_PlainOk s) e_spec_PlainOk (dn FTA n_spec_PlainOk [.t (.v (.string s))]) := by
 intro s
 rw [den_ev FTA (fn := k_spec_PlainOk) rfl (xN rfl rfl _) (lB rfl)]
 have k0 := @k_spec_PlainOk.eq_1; have f0 := @spec_PlainOk.eq_1; have g0 := spec_l1In_ok; have t0 := spec_PlainOk_l14_ok
 exact gs
theorem spec_SplitName_l14_ok (s : ByteArray) : ∀ (i : Int), Ok (spec_SplitName_l14 s i) e_spec_SplitName (ev FTA c_spec_SplitName (.loop k_spec_SplitName_l14) [.lv 0, .th k_spec_SplitName_r10] (putS (List.replicate 39 .dead) [(0, .t (.v (.string s))), (5, .t (.v (.int .i64 i)))]) (putR (List.replicate 39 []) [])) := by
 unfold Ok
 refine spec_SplitName_l14.partial_correctness s _ ?_
 intro F ih i
 show Ok _ _ _
 have ih : ∀ (i : Int), Ok (F i) _ _ := ih
 rw [ev_loop]
 have k0 := @k_spec_SplitName_l14.eq_1; have k1 := @k_spec_SplitName_r10.eq_1; have g0 := spec_PlainOk_ok; have t0 := ih
 exact gs
theorem spec_SplitName_ok : ∀ (s : ByteArray), Ok (spec_SplitName s) e_spec_SplitName (dn FTA n_spec_SplitName [.t (.v (.string s))]) := by
 intro s
 rw [den_ev FTA (fn := k_spec_SplitName) rfl (xN rfl rfl _) (lB rfl)]
 have k0 := @k_spec_SplitName.eq_1; have f0 := @spec_SplitName.eq_1; have g0 := spec_PlainOk_ok; have t0 := spec_SplitName_l14_ok
 exact gs
theorem spec_JoinName_j4_ok : ∀ (pre : ByteArray) (local1 : ByteArray) (s : ByteArray), Ok (spec_JoinName_j4 pre local1 s) e_spec_JoinName (ev FTA c_spec_JoinName k_spec_JoinName_r4 [] (putS (List.replicate 35 .dead) [(0, .t (.v (.string pre))), (1, .t (.v (.string local1))), (5, .t (.v (.string s)))]) (putR (List.replicate 35 []) [])) := by
 intro pre local1 s
 have k0 := @k_spec_JoinName_r4.eq_1; have f0 := @spec_JoinName_j4.eq_1; have g0 := spec_SplitName_ok
 exact gs
theorem spec_JoinName_ok : ∀ (pre : ByteArray) (local1 : ByteArray), Ok (spec_JoinName pre local1) e_spec_JoinName (dn FTA n_spec_JoinName [.t (.v (.string pre)), .t (.v (.string local1))]) := by
 intro pre local1
 rw [den_ev FTA (fn := k_spec_JoinName) rfl (xN rfl rfl _) (lB rfl)]
 have k0 := @k_spec_JoinName.eq_1; have f0 := @spec_JoinName.eq_1; have t0 := spec_JoinName_j4_ok
 exact gs
end TT
