import Derived.Test.YtjljocncnibofaaGreatDoorTLLc
set_option maxHeartbeats 40000000
set_option linter.unusedVariables false
set_option linter.unusedSimpArgs false
set_option linter.defProp false
set_option maxRecDepth 100000
namespace TT
open Go
open Nat (reduceAdd reduceSub reduceMul reduceLeDiff reduceLT reduceEqDiff)
theorem impl_SpaceOf_ok : ∀ (l : List (GDecl)) (p : ByteArray), Ok (impl_SpaceOf l p) e_impl_SpaceOf (dn FTA n_impl_SpaceOf [.t (.sl false (l.map GDecl.row)), .t (.v (.string p))]) := by
 intro l p r hr
 unfold impl_SpaceOf at hr
 split at hr
 ·rename_i h
  cases hr
  refine den_ext FTA.ft (xOf FTA) ?_
  have hp : ∀ k : List (GDecl), pairsOf (k.map GDecl.row) = some (k.map fun x => (x.Pre, x.Uri)) := fun k => by
   induction k with
   | nil => rfl
   | cons x k ih => show (pairsOf (k.map GDecl.row)).map _ = _; rw [ih]; rfl
  show x_space [.t (.sl false (l.map GDecl.row)), .t (.v (.string p))] = some ⟨[.t (.v (.string (spaceL _ p).1)), .t (.v (.bool (spaceL _ p).2))], []⟩
  rw [x_space, hp]
  simp only [List.length_map, h, if_true]
 ·cases hr
theorem strings_Compare_ok : ∀ (s : ByteArray) (t : ByteArray), Ok (strings_Compare s t) e_strings_Compare (dn FTA n_strings_Compare [.t (.v (.string s)), .t (.v (.string t))]) := by
 intro s t r hr
 exact den_ext FTA.ft (xOf FTA) (x_compare_ok s t (e := e_strings_Compare) (fun _ => rfl) hr)
theorem impl_compareAttrs_ok : ∀ (a : GAttr) (b : GAttr), Ok (impl_compareAttrs a b) e_impl_compareAttrs (dn FTA n_impl_compareAttrs [.agg ((GAttr.row a).map .t), .agg ((GAttr.row b).map .t)]) := by
 intro a b
 rw [den_ev FTA (fn := k_impl_compareAttrs) rfl (xN rfl rfl _) (lB rfl)]
 have k0 := @k_impl_compareAttrs.eq_1; have f0 := @impl_compareAttrs.eq_1; have g0 := strings_Compare_ok
 exact gs
theorem G_slices_insertionSortCmpFunc_Attr_compareAttrs_l15 (a : Int) (b : Int) : (∀ (data3 : List (GAttr)) (i : Int) (j1 : Int), Ok (slices_insertionSortCmpFunc_Attr_compareAttrs_l15 data3 a b i j1) e_slices_insertionSortCmpFunc_Attr_compareAttrs (ev FTA c_slices_insertionSortCmpFunc_Attr_compareAttrs (.loop k_slices_insertionSortCmpFunc_Attr_l15) [.lv 2, .lv 1, .th k_slices_insertionSortCmpFunc_Attr_r10, .hk [.clean []], .th (.loop k_slices_insertionSortCmpFunc_Attr_l3), .lv 0] (putS (List.replicate 53 .dead) [(0, .ref (0, 0) data3.length), (1, .t (.v (.int .i64 a))), (2, .t (.v (.int .i64 b))), (3, .fn n_impl_compareAttrs []), (8, .t (.v (.int .i64 i))), (9, .t (.v (.int .i64 j1)))]) (putR (List.replicate 53 []) [(0, [.mem (data3.map GAttr.row) 0 true])]))) ∧
  (∀ (data2 : List (GAttr)) (i : Int), Ok (slices_insertionSortCmpFunc_Attr_compareAttrs_l3 data2 a b i) e_slices_insertionSortCmpFunc_Attr_compareAttrs (ev FTA c_slices_insertionSortCmpFunc_Attr_compareAttrs (.loop k_slices_insertionSortCmpFunc_Attr_l3) [.lv 0] (putS (List.replicate 53 .dead) [(0, .ref (0, 0) data2.length), (1, .t (.v (.int .i64 a))), (2, .t (.v (.int .i64 b))), (3, .fn n_impl_compareAttrs []), (8, .t (.v (.int .i64 i)))]) (putR (List.replicate 53 []) [(0, [.mem (data2.map GAttr.row) 0 true])]))) := by
 unfold Ok
 refine slices_insertionSortCmpFunc_Attr_compareAttrs_l15.mutual_partial_correctness a b _ _ ?_ ?_
 ·intro F0 F1 ih0 ih1 data3 i j1
  show Ok _ _ _
  have ih0 : ∀ (data3 : List (GAttr)) (i : Int) (j1 : Int), Ok (F0 data3 i j1) _ _ := ih0
  have ih1 : ∀ (data2 : List (GAttr)) (i : Int), Ok (F1 data2 i) _ _ := ih1
  rw [ev_loop]
  have k0 := @k_slices_insertionSortCmpFunc_Attr_l15.eq_1; have k1 := @k_slices_insertionSortCmpFunc_Attr_r10.eq_1; have g0 := impl_compareAttrs_ok; have t0 := ih0; have t1 := ih1
  exact gs
 ·intro F0 ih0 data2 i
  show Ok _ _ _
  have ih0 : ∀ (data3 : List (GAttr)) (i : Int) (j1 : Int), Ok (F0 data3 i j1) _ _ := ih0
  rw [ev_loop]
  have k0 := @k_slices_insertionSortCmpFunc_Attr_l3.eq_1; have t0 := ih0
  exact gs
theorem slices_insertionSortCmpFunc_Attr_compareAttrs_ok : ∀ (data : List (GAttr)) (a : Int) (b : Int), Ok (slices_insertionSortCmpFunc_Attr_compareAttrs data a b) e_slices_insertionSortCmpFunc_Attr_compareAttrs (dn FTA n_slices_insertionSortCmpFunc_Attr [.ln (data.map GAttr.row), .t (.v (.int .i64 a)), .t (.v (.int .i64 b)), .fn n_impl_compareAttrs []]) := by
 intro data a b
 rw [den_ev FTA (fn := k_slices_insertionSortCmpFunc_Attr) rfl (xN rfl rfl _) (lB rfl)]
 have k0 := @k_slices_insertionSortCmpFunc_Attr.eq_1; have f0 := @slices_insertionSortCmpFunc_Attr_compareAttrs.eq_1; have t0 := fun a0 a1 => (G_slices_insertionSortCmpFunc_Attr_compareAttrs_l15 a0 a1).2
 exact gs
theorem slices_symMergeCmpFunc_Attr_compareAttrs_l29_ok (i : Int) : ∀ (data2 : List (GAttr)) (k1 : Int), Ok (slices_symMergeCmpFunc_Attr_compareAttrs_l29 data2 i k1) e_slices_symMergeCmpFunc_Attr_compareAttrs (ev FTA c_slices_symMergeCmpFunc_Attr_compareAttrs (.loop k_slices_symMergeCmpFunc_Attr_l29) [.lv 2, .th k_slices_symMergeCmpFunc_Attr_r25, .th k_slices_symMergeCmpFunc_Attr_r0] (putS (List.replicate 220 .dead) [(0, .ref (0, 0) data2.length), (10, .t (.v (.int .i64 i))), (13, .t (.v (.int .i64 k1)))]) (putR (List.replicate 220 []) [(0, [.mem (data2.map GAttr.row) 0 true])])) := by
 unfold Ok
 refine slices_symMergeCmpFunc_Attr_compareAttrs_l29.partial_correctness i _ ?_
 intro F ih data2 k1
 show Ok _ _ _
 have ih : ∀ (data2 : List (GAttr)) (k1 : Int), Ok (F data2 k1) _ _ := ih
 rw [ev_loop]
 have k0 := @k_slices_symMergeCmpFunc_Attr_l29.eq_1; have k1 := @k_slices_symMergeCmpFunc_Attr_r25.eq_1; have t0 := ih
 exact gs
theorem slices_symMergeCmpFunc_Attr_compareAttrs_l10_ok (data : List (GAttr)) (a : Int) : ∀ (i : Int) (j : Int), Ok (slices_symMergeCmpFunc_Attr_compareAttrs_l10 data a i j) e_slices_symMergeCmpFunc_Attr_compareAttrs (ev FTA c_slices_symMergeCmpFunc_Attr_compareAttrs (.loop k_slices_symMergeCmpFunc_Attr_l10) [.lv 0, .th k_slices_symMergeCmpFunc_Attr_r8, .th k_slices_symMergeCmpFunc_Attr_r0] (putS (List.replicate 220 .dead) [(0, .ref (0, 0) data.length), (1, .t (.v (.int .i64 a))), (4, .fn n_impl_compareAttrs []), (10, .t (.v (.int .i64 i))), (11, .t (.v (.int .i64 j)))]) (putR (List.replicate 220 []) [(0, [.mem (data.map GAttr.row) 0 true])])) := by
 unfold Ok
 refine slices_symMergeCmpFunc_Attr_compareAttrs_l10.partial_correctness data a _ ?_
 intro F ih i j
 show Ok _ _ _
 have ih : ∀ (i : Int) (j : Int), Ok (F i j) _ _ := ih
 rw [ev_loop]
 have k0 := @k_slices_symMergeCmpFunc_Attr_l10.eq_1; have k1 := @k_slices_symMergeCmpFunc_Attr_r8.eq_1; have g0 := impl_compareAttrs_ok; have t0 := ih; have t1 := slices_symMergeCmpFunc_Attr_compareAttrs_l29_ok
 exact gs
theorem slices_symMergeCmpFunc_Attr_compareAttrs_l71_ok (i1 : Int) : ∀ (data4 : List (GAttr)) (k3 : Int), Ok (slices_symMergeCmpFunc_Attr_compareAttrs_l71 data4 i1 k3) e_slices_symMergeCmpFunc_Attr_compareAttrs (ev FTA c_slices_symMergeCmpFunc_Attr_compareAttrs (.loop k_slices_symMergeCmpFunc_Attr_l71) [.lv 6, .th k_slices_symMergeCmpFunc_Attr_r67, .th k_slices_symMergeCmpFunc_Attr_r42] (putS (List.replicate 220 .dead) [(0, .ref (0, 0) data4.length), (14, .t (.v (.int .i64 i1))), (17, .t (.v (.int .i64 k3)))]) (putR (List.replicate 220 []) [(0, [.mem (data4.map GAttr.row) 0 true])])) := by
 unfold Ok
 refine slices_symMergeCmpFunc_Attr_compareAttrs_l71.partial_correctness i1 _ ?_
 intro F ih data4 k3
 show Ok _ _ _
 have ih : ∀ (data4 : List (GAttr)) (k3 : Int), Ok (F data4 k3) _ _ := ih
 rw [ev_loop]
 have k0 := @k_slices_symMergeCmpFunc_Attr_l71.eq_1; have k1 := @k_slices_symMergeCmpFunc_Attr_r67.eq_1; have t0 := ih
 exact gs
theorem slices_symMergeCmpFunc_Attr_compareAttrs_l52_ok (data : List (GAttr)) (m : Int) : ∀ (i1 : Int) (j1 : Int), Ok (slices_symMergeCmpFunc_Attr_compareAttrs_l52 data m i1 j1) e_slices_symMergeCmpFunc_Attr_compareAttrs (ev FTA c_slices_symMergeCmpFunc_Attr_compareAttrs (.loop k_slices_symMergeCmpFunc_Attr_l52) [.lv 4, .th k_slices_symMergeCmpFunc_Attr_r50, .th k_slices_symMergeCmpFunc_Attr_r42] (putS (List.replicate 220 .dead) [(0, .ref (0, 0) data.length), (2, .t (.v (.int .i64 m))), (4, .fn n_impl_compareAttrs []), (14, .t (.v (.int .i64 i1))), (15, .t (.v (.int .i64 j1)))]) (putR (List.replicate 220 []) [(0, [.mem (data.map GAttr.row) 0 true])])) := by
 unfold Ok
 refine slices_symMergeCmpFunc_Attr_compareAttrs_l52.partial_correctness data m _ ?_
 intro F ih i1 j1
 show Ok _ _ _
 have ih : ∀ (i1 : Int) (j1 : Int), Ok (F i1 j1) _ _ := ih
 rw [ev_loop]
 have k0 := @k_slices_symMergeCmpFunc_Attr_l52.eq_1; have k1 := @k_slices_symMergeCmpFunc_Attr_r50.eq_1; have g0 := impl_compareAttrs_ok; have t0 := ih; have t1 := slices_symMergeCmpFunc_Attr_compareAttrs_l71_ok
 exact gs
theorem slices_swapRangeCmpFunc_Attr_compareAttrs_l3_ok (a : Int) (b : Int) (n : Int) : ∀ (data1 : List (GAttr)) (i : Int), Ok (slices_swapRangeCmpFunc_Attr_compareAttrs_l3 data1 a b n i) e_slices_swapRangeCmpFunc_Attr_compareAttrs (ev FTA c_slices_swapRangeCmpFunc_Attr_compareAttrs (.loop k_slices_swapRangeCmpFunc_Attr_l3) [.lv 0] (putS (List.replicate 38 .dead) [(0, .ref (0, 0) data1.length), (1, .t (.v (.int .i64 a))), (2, .t (.v (.int .i64 b))), (3, .t (.v (.int .i64 n))), (10, .t (.v (.int .i64 i)))]) (putR (List.replicate 38 []) [(0, [.mem (data1.map GAttr.row) 0 true])])) := by
 unfold Ok
 refine slices_swapRangeCmpFunc_Attr_compareAttrs_l3.partial_correctness a b n _ ?_
 intro F ih data1 i
 show Ok _ _ _
 have ih : ∀ (data1 : List (GAttr)) (i : Int), Ok (F data1 i) _ _ := ih
 rw [ev_loop]
 have k0 := @k_slices_swapRangeCmpFunc_Attr_l3.eq_1; have t0 := ih
 exact gs
theorem slices_swapRangeCmpFunc_Attr_compareAttrs_ok : ∀ (data : List (GAttr)) (a : Int) (b : Int) (n : Int), Ok (slices_swapRangeCmpFunc_Attr_compareAttrs data a b n) e_slices_swapRangeCmpFunc_Attr_compareAttrs (dn FTA n_slices_swapRangeCmpFunc_Attr [.ln (data.map GAttr.row), .t (.v (.int .i64 a)), .t (.v (.int .i64 b)), .t (.v (.int .i64 n)), .fn n_impl_compareAttrs []]) := by
 intro data a b n
 rw [den_ev FTA (fn := k_slices_swapRangeCmpFunc_Attr) rfl (xN rfl rfl _) (lB rfl)]
 have k0 := @k_slices_swapRangeCmpFunc_Attr.eq_1; have f0 := @slices_swapRangeCmpFunc_Attr_compareAttrs.eq_1; have t0 := slices_swapRangeCmpFunc_Attr_compareAttrs_l3_ok
 exact gs
theorem slices_rotateCmpFunc_Attr_compareAttrs_l6_ok (m : Int) : ∀ (data1 : List (GAttr)) (i : Int) (j : Int), Ok (slices_rotateCmpFunc_Attr_compareAttrs_l6 data1 m i j) e_slices_rotateCmpFunc_Attr_compareAttrs (ev FTA c_slices_rotateCmpFunc_Attr_compareAttrs (.loop k_slices_rotateCmpFunc_Attr_l6) [.lv 0, .th k_slices_rotateCmpFunc_Attr_r4] (putS (List.replicate 58 .dead) [(0, .ref (0, 0) data1.length), (2, .t (.v (.int .i64 m))), (4, .fn n_impl_compareAttrs []), (10, .t (.v (.int .i64 i))), (11, .t (.v (.int .i64 j)))]) (putR (List.replicate 58 []) [(0, [.mem (data1.map GAttr.row) 0 true])])) := by
 unfold Ok
 refine slices_rotateCmpFunc_Attr_compareAttrs_l6.partial_correctness m _ ?_
 intro F ih data1 i j
 show Ok _ _ _
 have ih : ∀ (data1 : List (GAttr)) (i : Int) (j : Int), Ok (F data1 i j) _ _ := ih
 rw [ev_loop]
 have k0 := @k_slices_rotateCmpFunc_Attr_l6.eq_1; have k1 := @k_slices_rotateCmpFunc_Attr_r4.eq_1; have g0 := slices_swapRangeCmpFunc_Attr_compareAttrs_ok; have t0 := ih
 exact gs
theorem slices_rotateCmpFunc_Attr_compareAttrs_ok : ∀ (data : List (GAttr)) (a : Int) (m : Int) (b : Int), Ok (slices_rotateCmpFunc_Attr_compareAttrs data a m b) e_slices_rotateCmpFunc_Attr_compareAttrs (dn FTA n_slices_rotateCmpFunc_Attr [.ln (data.map GAttr.row), .t (.v (.int .i64 a)), .t (.v (.int .i64 m)), .t (.v (.int .i64 b)), .fn n_impl_compareAttrs []]) := by
 intro data a m b
 rw [den_ev FTA (fn := k_slices_rotateCmpFunc_Attr) rfl (xN rfl rfl _) (lB rfl)]
 have k0 := @k_slices_rotateCmpFunc_Attr.eq_1; have f0 := @slices_rotateCmpFunc_Attr_compareAttrs.eq_1; have t0 := slices_rotateCmpFunc_Attr_compareAttrs_l6_ok
 exact gs
theorem G_slices_symMergeCmpFunc_Attr_compareAttrs : (∀ (data : List (GAttr)) (a : Int) (m : Int) (b : Int), Ok (slices_symMergeCmpFunc_Attr_compareAttrs data a m b) e_slices_symMergeCmpFunc_Attr_compareAttrs (dn FTA n_slices_symMergeCmpFunc_Attr [.ln (data.map GAttr.row), .t (.v (.int .i64 a)), .t (.v (.int .i64 m)), .t (.v (.int .i64 b)), .fn n_impl_compareAttrs []])) ∧
  (∀ (data : List (GAttr)) (a : Int) (m : Int) (b : Int) (x44 : Int) (start : Int) (r4 : Int), Ok (slices_symMergeCmpFunc_Attr_compareAttrs_j90 data a m b x44 start r4) e_slices_symMergeCmpFunc_Attr_compareAttrs (ev FTA c_slices_symMergeCmpFunc_Attr_compareAttrs k_slices_symMergeCmpFunc_Attr_r90 [] (putS (List.replicate 220 .dead) [(0, .ref (0, 0) data.length), (1, .t (.v (.int .i64 a))), (2, .t (.v (.int .i64 m))), (3, .t (.v (.int .i64 b))), (4, .fn n_impl_compareAttrs []), (18, .t (.v (.int .i64 (wr .i64 x44)))), (19, .t (.v (.int .i64 (addI (wr .i64 x44) m)))), (20, .t (.v (.int .i64 start))), (21, .t (.v (.int .i64 r4)))]) (putR (List.replicate 220 []) [(0, [.mem (data.map GAttr.row) 0 true])]))) ∧
  (∀ (data : List (GAttr)) (a : Int) (m : Int) (b : Int) (x44 : Int) (start1 : Int) (r9 : Int), Ok (slices_symMergeCmpFunc_Attr_compareAttrs_l104 data a m b x44 start1 r9) e_slices_symMergeCmpFunc_Attr_compareAttrs (ev FTA c_slices_symMergeCmpFunc_Attr_compareAttrs (.loop k_slices_symMergeCmpFunc_Attr_l104) [.lv 8, .th k_slices_symMergeCmpFunc_Attr_r102] (putS (List.replicate 220 .dead) [(0, .ref (0, 0) data.length), (1, .t (.v (.int .i64 a))), (2, .t (.v (.int .i64 m))), (3, .t (.v (.int .i64 b))), (4, .fn n_impl_compareAttrs []), (18, .t (.v (.int .i64 (wr .i64 x44)))), (19, .t (.v (.int .i64 (addI (wr .i64 x44) m)))), (20, .t (.v (.int .i64 start1))), (21, .t (.v (.int .i64 r9))), (22, .t (.v (.int .i64 (subI (addI (wr .i64 x44) m) 1))))]) (putR (List.replicate 220 []) [(0, [.mem (data.map GAttr.row) 0 true])]))) ∧
  (∀ (data7 : List (GAttr)) (a : Int) (b : Int) (x44 : Int) (start1 : Int) (m : Int), Ok (slices_symMergeCmpFunc_Attr_compareAttrs_j121 data7 a b x44 start1 m) e_slices_symMergeCmpFunc_Attr_compareAttrs (ev FTA c_slices_symMergeCmpFunc_Attr_compareAttrs k_slices_symMergeCmpFunc_Attr_r121 [] (putS (List.replicate 220 .dead) [(0, .ref (0, 0) data7.length), (1, .t (.v (.int .i64 a))), (3, .t (.v (.int .i64 b))), (4, .fn n_impl_compareAttrs []), (18, .t (.v (.int .i64 (wr .i64 x44)))), (20, .t (.v (.int .i64 start1))), (24, .t (.v (.int .i64 (subI (addI (wr .i64 x44) m) start1))))]) (putR (List.replicate 220 []) [(0, [.mem (data7.map GAttr.row) 0 true])]))) ∧
  (∀ (data8 : List (GAttr)) (b : Int) (x44 : Int) (m : Int) (start1 : Int), Ok (slices_symMergeCmpFunc_Attr_compareAttrs_j127 data8 b x44 m start1) e_slices_symMergeCmpFunc_Attr_compareAttrs (ev FTA c_slices_symMergeCmpFunc_Attr_compareAttrs k_slices_symMergeCmpFunc_Attr_r127 [] (putS (List.replicate 220 .dead) [(0, .ref (0, 0) data8.length), (3, .t (.v (.int .i64 b))), (4, .fn n_impl_compareAttrs []), (18, .t (.v (.int .i64 (wr .i64 x44)))), (24, .t (.v (.int .i64 (subI (addI (wr .i64 x44) m) start1))))]) (putR (List.replicate 220 []) [(0, [.mem (data8.map GAttr.row) 0 true])]))) := by
 unfold Ok
 refine slices_symMergeCmpFunc_Attr_compareAttrs.mutual_partial_correctness _ _ _ _ _ ?_ ?_ ?_ ?_ ?_
 ·intro F1 ih1 data a m b
  show Ok _ _ _
  have ih1 : ∀ (data : List (GAttr)) (a : Int) (m : Int) (b : Int) (x44 : Int) (start : Int) (r4 : Int), Ok (F1 data a m b x44 start r4) _ _ := ih1
  rw [den_ev FTA (fn := k_slices_symMergeCmpFunc_Attr) rfl (xN rfl rfl _) (lB rfl)]
  have k0 := @k_slices_symMergeCmpFunc_Attr.eq_1; have k1 := @k_slices_symMergeCmpFunc_Attr_r0.eq_1; have k2 := @k_slices_symMergeCmpFunc_Attr_r42.eq_1; have t0 := slices_symMergeCmpFunc_Attr_compareAttrs_l10_ok; have t1 := slices_symMergeCmpFunc_Attr_compareAttrs_l52_ok; have t2 := ih1
  exact gs
 ·intro F2 ih2 data a m b x44 start r4
  show Ok _ _ _
  have ih2 : ∀ (data : List (GAttr)) (a : Int) (m : Int) (b : Int) (x44 : Int) (start1 : Int) (r9 : Int), Ok (F2 data a m b x44 start1 r9) _ _ := ih2
  have k0 := @k_slices_symMergeCmpFunc_Attr_r90.eq_1; have t0 := ih2
  exact gs
 ·intro F2 F3 ih2 ih3 data a m b x44 start1 r9
  show Ok _ _ _
  have ih2 : ∀ (data : List (GAttr)) (a : Int) (m : Int) (b : Int) (x44 : Int) (start1 : Int) (r9 : Int), Ok (F2 data a m b x44 start1 r9) _ _ := ih2
  have ih3 : ∀ (data7 : List (GAttr)) (a : Int) (b : Int) (x44 : Int) (start1 : Int) (m : Int), Ok (F3 data7 a b x44 start1 m) _ _ := ih3
  rw [ev_loop]
  have k0 := @k_slices_symMergeCmpFunc_Attr_l104.eq_1; have k1 := @k_slices_symMergeCmpFunc_Attr_r102.eq_1; have g0 := impl_compareAttrs_ok; have g1 := slices_rotateCmpFunc_Attr_compareAttrs_ok; have t0 := ih2; have t1 := ih3
  exact gs
 ·intro F0 F4 ih0 ih4 data7 a b x44 start1 m
  show Ok _ _ _
  have ih0 : ∀ (data : List (GAttr)) (a : Int) (m : Int) (b : Int), Ok (F0 data a m b) _ _ := ih0
  have ih4 : ∀ (data8 : List (GAttr)) (b : Int) (x44 : Int) (m : Int) (start1 : Int), Ok (F4 data8 b x44 m start1) _ _ := ih4
  have k0 := @k_slices_symMergeCmpFunc_Attr_r121.eq_1; have g0 := ih0; have t0 := ih4
  exact gs
 ·intro F0 ih0 data8 b x44 m start1
  show Ok _ _ _
  have ih0 : ∀ (data : List (GAttr)) (a : Int) (m : Int) (b : Int), Ok (F0 data a m b) _ _ := ih0
  have k0 := @k_slices_symMergeCmpFunc_Attr_r127.eq_1; have g0 := ih0
  exact gs
theorem slices_symMergeCmpFunc_Attr_compareAttrs_ok (data : List (GAttr)) (a : Int) (m : Int) (b : Int) : Ok (slices_symMergeCmpFunc_Attr_compareAttrs data a m b) e_slices_symMergeCmpFunc_Attr_compareAttrs (dn FTA n_slices_symMergeCmpFunc_Attr [.ln (data.map GAttr.row), .t (.v (.int .i64 a)), .t (.v (.int .i64 m)), .t (.v (.int .i64 b)), .fn n_impl_compareAttrs []]) := G_slices_symMergeCmpFunc_Attr_compareAttrs.1 data a m b
theorem G_slices_stableCmpFunc_Attr_compareAttrs_l34 (n : Int) : (∀ (data7 : List (GAttr)) (blockSize1 : Int) (a4 : Int) (b4 : Int), Ok (slices_stableCmpFunc_Attr_compareAttrs_l34 data7 n blockSize1 a4 b4) e_slices_stableCmpFunc_Attr_compareAttrs (ev FTA c_slices_stableCmpFunc_Attr_compareAttrs (.loop k_slices_stableCmpFunc_Attr_l34) [.lv 4, .th k_slices_stableCmpFunc_Attr_r32, .lv 3, .hk [.clean []], .th (.loop k_slices_stableCmpFunc_Attr_l22), .lv 2] (putS (List.replicate 63 .dead) [(0, .ref (0, 0) data7.length), (1, .t (.v (.int .i64 n))), (2, .fn n_impl_compareAttrs []), (6, .t (.v (.int .i64 blockSize1))), (7, .t (.v (.int .i64 a4))), (8, .t (.v (.int .i64 b4)))]) (putR (List.replicate 63 []) [(0, [.mem (data7.map GAttr.row) 0 true])]))) ∧
  (∀ (data6 : List (GAttr)) (blockSize1 : Int), Ok (slices_stableCmpFunc_Attr_compareAttrs_l22 data6 n blockSize1) e_slices_stableCmpFunc_Attr_compareAttrs (ev FTA c_slices_stableCmpFunc_Attr_compareAttrs (.loop k_slices_stableCmpFunc_Attr_l22) [.lv 2] (putS (List.replicate 63 .dead) [(0, .ref (0, 0) data6.length), (1, .t (.v (.int .i64 n))), (2, .fn n_impl_compareAttrs []), (6, .t (.v (.int .i64 blockSize1)))]) (putR (List.replicate 63 []) [(0, [.mem (data6.map GAttr.row) 0 true])]))) := by
 unfold Ok
 refine slices_stableCmpFunc_Attr_compareAttrs_l34.mutual_partial_correctness n _ _ ?_ ?_
 ·intro F0 F1 ih0 ih1 data7 blockSize1 a4 b4
  show Ok _ _ _
  have ih0 : ∀ (data7 : List (GAttr)) (blockSize1 : Int) (a4 : Int) (b4 : Int), Ok (F0 data7 blockSize1 a4 b4) _ _ := ih0
  have ih1 : ∀ (data6 : List (GAttr)) (blockSize1 : Int), Ok (F1 data6 blockSize1) _ _ := ih1
  rw [ev_loop]
  have k0 := @k_slices_stableCmpFunc_Attr_l34.eq_1; have k1 := @k_slices_stableCmpFunc_Attr_r32.eq_1; have g0 := slices_symMergeCmpFunc_Attr_compareAttrs_ok; have t0 := ih0; have t1 := ih1
  exact gs
 ·intro F0 ih0 data6 blockSize1
  show Ok _ _ _
  have ih0 : ∀ (data7 : List (GAttr)) (blockSize1 : Int) (a4 : Int) (b4 : Int), Ok (F0 data7 blockSize1 a4 b4) _ _ := ih0
  rw [ev_loop]
  have k0 := @k_slices_stableCmpFunc_Attr_l22.eq_1; have t0 := ih0
  exact gs
theorem slices_stableCmpFunc_Attr_compareAttrs_l6_ok (n : Int) : ∀ (data4 : List (GAttr)) (a2 : Int) (b2 : Int), Ok (slices_stableCmpFunc_Attr_compareAttrs_l6 data4 n a2 b2) e_slices_stableCmpFunc_Attr_compareAttrs (ev FTA c_slices_stableCmpFunc_Attr_compareAttrs (.loop k_slices_stableCmpFunc_Attr_l6) [.lv 0, .th k_slices_stableCmpFunc_Attr_r4] (putS (List.replicate 63 .dead) [(0, .ref (0, 0) data4.length), (1, .t (.v (.int .i64 n))), (2, .fn n_impl_compareAttrs []), (6, .t (.v (.int .i64 20))), (7, .t (.v (.int .i64 a2))), (8, .t (.v (.int .i64 b2)))]) (putR (List.replicate 63 []) [(0, [.mem (data4.map GAttr.row) 0 true])])) := by
 unfold Ok
 refine slices_stableCmpFunc_Attr_compareAttrs_l6.partial_correctness n _ ?_
 intro F ih data4 a2 b2
 show Ok _ _ _
 have ih : ∀ (data4 : List (GAttr)) (a2 : Int) (b2 : Int), Ok (F data4 a2 b2) _ _ := ih
 rw [ev_loop]
 have k0 := @k_slices_stableCmpFunc_Attr_l6.eq_1; have k1 := @k_slices_stableCmpFunc_Attr_r4.eq_1; have g0 := slices_insertionSortCmpFunc_Attr_compareAttrs_ok; have t0 := ih; have t1 := fun a0 => (G_slices_stableCmpFunc_Attr_compareAttrs_l34 a0).2
 exact gs
theorem slices_stableCmpFunc_Attr_compareAttrs_ok : ∀ (data : List (GAttr)) (n : Int), Ok (slices_stableCmpFunc_Attr_compareAttrs data n) e_slices_stableCmpFunc_Attr_compareAttrs (dn FTA n_slices_stableCmpFunc_Attr [.ln (data.map GAttr.row), .t (.v (.int .i64 n)), .fn n_impl_compareAttrs []]) := by
 intro data n
 rw [den_ev FTA (fn := k_slices_stableCmpFunc_Attr) rfl (xN rfl rfl _) (lB rfl)]
 have k0 := @k_slices_stableCmpFunc_Attr.eq_1; have f0 := @slices_stableCmpFunc_Attr_compareAttrs.eq_1; have t0 := slices_stableCmpFunc_Attr_compareAttrs_l6_ok
 exact gs
theorem slices_SortStableFunc_Attr_compareAttrs_ok : ∀ (a0 : List (GAttr)), Ok (slices_SortStableFunc_Attr_compareAttrs a0) e_slices_SortStableFunc_Attr_compareAttrs (dn FTA n_slices_SortStableFunc_Attr [.ln (a0.map GAttr.row), .fn n_impl_compareAttrs []]) := by
 intro a0
 rw [den_ev FTA (fn := k_slices_SortStableFunc_Attr) rfl (xN rfl rfl _) (lB rfl)]
 have k0 := @k_slices_SortStableFunc_Attr.eq_1; have f0 := @slices_SortStableFunc_Attr_compareAttrs.eq_1; have g0 := slices_stableCmpFunc_Attr_compareAttrs_ok
 exact gs
theorem G_impl_renamed : (∀ (n : GNode) (l : List GDecl), Ok (impl_renamed n l) e_impl_renamed (dn FTA n_impl_renamed [.agg (((GNode.row false) n).map .t), .t (.sl false (l.map GDecl.row))])) ∧
  (∀ (r1 : List GDecl) (ok : Bool) (n : GNode) (r : GNode) (outUri : ByteArray), Ok (impl_renamed_j8 r1 ok n r outUri) e_impl_renamed (ev FTA c_impl_renamed k_impl_renamed_r8 [] (putS (List.replicate 96 .dead) [(2, .ptr (2, 0) [] 0 0 1 0), (4, .ptr (4, 0) [] 0 0 1 0), (6, .ptr (6, 0) [] 0 0 1 0), (7, .ref (24, 0) r1.length), (8, .t (.v (.bool ok)))]) (putR (List.replicate 96 []) [(2, [.mem [[.v (.int .i64 n.Kind), .v (.string n.Pre), .v (.string n.Local), .v (.string n.Uri), .sl false (n.Decls.map GDecl.row), .sl false (n.Attrs.map GAttr.row), .sl false (n.Kids.map (GNode.row false)), .v (.string n.Text)]] 0 false]), (4, [.mem [[.v (.int .i64 0), .v (.string (⟨#[]⟩)), .v (.string (⟨#[]⟩)), .v (.string (⟨#[]⟩)), .sl true [], .sl true [], .sl true [], .v (.string (⟨#[]⟩))]] 0 false]), (6, [.mem [[.v (.int .i64 r.Kind), .v (.string r.Pre), .v (.string r.Local), .v (.string outUri), .sl true (r.Decls.map GDecl.row), .sl true (r.Attrs.map GAttr.row), .sl true (r.Kids.map (GNode.row true)), .v (.string r.Text)]] 0 false]), (24, [.mem (r1.map GDecl.row) 0 false])]))) ∧
  (∀ (r1 : List GDecl) (ok2 : Bool) (n : GNode) (x7 : Int) (r : GNode) (outUri : ByteArray) (outAttrs : List (GAttr)), Ok (impl_renamed_l20 r1 ok2 n x7 r outUri outAttrs) e_impl_renamed (ev FTA c_impl_renamed (.loop k_impl_renamed_l20) [.lv 0, .th k_impl_renamed_r16] (putS (List.replicate 96 .dead) [(2, .ptr (2, 0) [] 0 0 1 0), (4, .ptr (4, 0) [] 0 0 1 0), (6, .ptr (6, 0) [] 0 0 1 0), (7, .ref (24, 0) r1.length), (8, .t (.v (.bool ok2))), (39, .t (.sl false (n.Attrs.map GAttr.row))), (40, .t (.v (.int .i64 (lenL n.Attrs)))), (41, .t (.v (.int .i64 x7)))]) (putR (List.replicate 96 []) [(2, [.mem [[.v (.int .i64 n.Kind), .v (.string n.Pre), .v (.string n.Local), .v (.string n.Uri), .sl false (n.Decls.map GDecl.row), .sl false (n.Attrs.map GAttr.row), .sl false (n.Kids.map (GNode.row false)), .v (.string n.Text)]] 0 false]), (4, [.mem [[.v (.int .i64 0), .v (.string (⟨#[]⟩)), .v (.string (⟨#[]⟩)), .v (.string (⟨#[]⟩)), .sl true [], .sl true [], .sl true [], .v (.string (⟨#[]⟩))]] 0 false]), (6, [.mem [[.v (.int .i64 r.Kind), .v (.string r.Pre), .v (.string r.Local), .v (.string outUri), .sl true (r.Decls.map GDecl.row), .sl true (outAttrs.map GAttr.row), .sl true (r.Kids.map (GNode.row true)), .v (.string r.Text)]] 0 false]), (24, [.mem (r1.map GDecl.row) 0 false])]))) ∧
  (∀ (r1 : List GDecl) (ok3 : Bool) (n : GNode) (x12 : Int) (r : GNode) (outUri : ByteArray) (r8 : List (GAttr)) (outKids1 : List (GNode)), Ok (impl_renamed_l47 r1 ok3 n x12 r outUri r8 outKids1) e_impl_renamed (ev FTA c_impl_renamed (.loop k_impl_renamed_l47) [.lv 2, .th k_impl_renamed_r43] (putS (List.replicate 96 .dead) [(4, .ptr (4, 0) [] 0 0 1 0), (6, .ptr (6, 0) [] 0 0 1 0), (7, .ref (24, 0) r1.length), (8, .t (.v (.bool ok3))), (71, .t (.sl false (n.Kids.map (GNode.row false)))), (72, .t (.v (.int .i64 (lenL n.Kids)))), (73, .t (.v (.int .i64 x12)))]) (putR (List.replicate 96 []) [(4, [.mem [[.v (.int .i64 0), .v (.string (⟨#[]⟩)), .v (.string (⟨#[]⟩)), .v (.string (⟨#[]⟩)), .sl true [], .sl true [], .sl true [], .v (.string (⟨#[]⟩))]] 0 false]), (6, [.mem [[.v (.int .i64 r.Kind), .v (.string r.Pre), .v (.string r.Local), .v (.string outUri), .sl true (r.Decls.map GDecl.row), .sl true (r8.map GAttr.row), .sl true (outKids1.map (GNode.row true)), .v (.string r.Text)]] 0 false]), (24, [.mem (r1.map GDecl.row) 0 false])]))) := by
 unfold Ok
 refine impl_renamed.mutual_partial_correctness _ _ _ _ ?_ ?_ ?_ ?_
 ·intro F1 ih1 n l
  show Ok _ _ _
  have ih1 : ∀ (r1 : List GDecl) (ok : Bool) (n : GNode) (r : GNode) (outUri : ByteArray), Ok (F1 r1 ok n r outUri) _ _ := ih1
  rw [den_ev FTA (fn := k_impl_renamed) rfl (xN rfl rfl _) (lB rfl)]
  have k0 := @k_impl_renamed.eq_1; have g0 := impl_cloneNode_ok; have g1 := impl_Inner_ok; have g2 := impl_SpaceOf_ok; have t0 := ih1
  exact gs
 ·intro F2 ih2 r1 ok n r outUri
  show Ok _ _ _
  have ih2 : ∀ (r1 : List GDecl) (ok2 : Bool) (n : GNode) (x7 : Int) (r : GNode) (outUri : ByteArray) (outAttrs : List (GAttr)), Ok (F2 r1 ok2 n x7 r outUri outAttrs) _ _ := ih2
  have k0 := @k_impl_renamed_r8.eq_1; have t0 := ih2
  exact gs
 ·intro F2 F3 ih2 ih3 r1 ok2 n x7 r outUri outAttrs
  show Ok _ _ _
  have ih2 : ∀ (r1 : List GDecl) (ok2 : Bool) (n : GNode) (x7 : Int) (r : GNode) (outUri : ByteArray) (outAttrs : List (GAttr)), Ok (F2 r1 ok2 n x7 r outUri outAttrs) _ _ := ih2
  have ih3 : ∀ (r1 : List GDecl) (ok3 : Bool) (n : GNode) (x12 : Int) (r : GNode) (outUri : ByteArray) (r8 : List (GAttr)) (outKids1 : List (GNode)), Ok (F3 r1 ok3 n x12 r outUri r8 outKids1) _ _ := ih3
  rw [ev_loop]
  have k0 := @k_impl_renamed_l20.eq_1; have k1 := @k_impl_renamed_r16.eq_1; have g0 := impl_SpaceOf_ok; have g1 := slices_SortStableFunc_Attr_compareAttrs_ok; have t0 := ih2; have t1 := ih3
  exact gs
 ·intro F0 F3 ih0 ih3 r1 ok3 n x12 r outUri r8 outKids1
  show Ok _ _ _
  have ih0 : ∀ (n : GNode) (l : List GDecl), Ok (F0 n l) _ _ := ih0
  have ih3 : ∀ (r1 : List GDecl) (ok3 : Bool) (n : GNode) (x12 : Int) (r : GNode) (outUri : ByteArray) (r8 : List (GAttr)) (outKids1 : List (GNode)), Ok (F3 r1 ok3 n x12 r outUri r8 outKids1) _ _ := ih3
  rw [ev_loop]
  have k0 := @k_impl_renamed_l47.eq_1; have k1 := @k_impl_renamed_r43.eq_1; have g0 := ih0; have t0 := ih3
  exact gs
theorem impl_renamed_ok (n : GNode) (l : List GDecl) : Ok (impl_renamed n l) e_impl_renamed (dn FTA n_impl_renamed [.agg (((GNode.row false) n).map .t), .t (.sl false (l.map GDecl.row))]) := G_impl_renamed.1 n l
theorem G_impl_CountOf : (∀ (n : GNode), Ok (impl_CountOf n) e_impl_CountOf (dn FTA n_impl_CountOf [.agg (((GNode.row false) n).map .t)])) ∧
  (∀ (out : Int) (n : GNode) (x1 : Int), Ok (impl_CountOf_l8 out n x1) e_impl_CountOf (ev FTA c_impl_CountOf (.loop k_impl_CountOf_l8) [.lv 0, .th k_impl_CountOf_r4] (putS (List.replicate 23 .dead) [(3, .t (.v (.int .i64 out))), (11, .t (.sl false (n.Kids.map (GNode.row false)))), (12, .t (.v (.int .i64 (lenL n.Kids)))), (13, .t (.v (.int .i64 x1)))]) (putR (List.replicate 23 []) []))) := by
 unfold Ok
 refine impl_CountOf.mutual_partial_correctness _ _ ?_ ?_
 ·intro F1 ih1 n
  show Ok _ _ _
  have ih1 : ∀ (out : Int) (n : GNode) (x1 : Int), Ok (F1 out n x1) _ _ := ih1
  rw [den_ev FTA (fn := k_impl_CountOf) rfl (xN rfl rfl _) (lB rfl)]
  have k0 := @k_impl_CountOf.eq_1; have t0 := ih1
  exact gs
 ·intro F0 F1 ih0 ih1 out n x1
  show Ok _ _ _
  have ih0 : ∀ (n : GNode), Ok (F0 n) _ _ := ih0
  have ih1 : ∀ (out : Int) (n : GNode) (x1 : Int), Ok (F1 out n x1) _ _ := ih1
  rw [ev_loop]
  have k0 := @k_impl_CountOf_l8.eq_1; have k1 := @k_impl_CountOf_r4.eq_1; have g0 := ih0; have t0 := ih1
  exact gs
theorem impl_CountOf_ok (n : GNode) : Ok (impl_CountOf n) e_impl_CountOf (dn FTA n_impl_CountOf [.agg (((GNode.row false) n).map .t)]) := G_impl_CountOf.1 n
theorem impl_in_ok : ∀ (n : Int) (lo : Int) (hi : Int), Ok (impl_in n lo hi) e_impl_in (dn FTA n_impl_in [.t (.v (.int .i64 n)), .t (.v (.int .i64 lo)), .t (.v (.int .i64 hi))]) := by
 intro n lo hi
 rw [den_ev FTA (fn := k_impl_in) rfl (xN rfl rfl _) (lB rfl)]
 have k0 := @k_impl_in.eq_1; have f0 := @impl_in.eq_1
 exact gs
theorem unicode_utf8_DecodeRuneInString_ok : ∀ (s : ByteArray), Ok (unicode_utf8_DecodeRuneInString s) e_unicode_utf8_DecodeRuneInString (dn FTA n_unicode_utf8_DecodeRuneInString [.t (.v (.string s))]) := by
 intro s r hr
 exact den_ext FTA.ft (xOf FTA) (x_decode_ok s (e := e_unicode_utf8_DecodeRuneInString) (fun _ => rfl) hr)
end TT
