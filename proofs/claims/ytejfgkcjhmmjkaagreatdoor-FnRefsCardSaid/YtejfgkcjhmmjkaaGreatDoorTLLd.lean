import Derived.Test.YtejfgkcjhmmjkaaGreatDoorTLLc
set_option maxHeartbeats 2000000
set_option linter.unusedVariables false
set_option linter.unusedSimpArgs false
set_option linter.defProp false
set_option maxRecDepth 100000
namespace TT
open Go
open Nat (reduceAdd reduceSub reduceMul reduceLeDiff reduceLT reduceEqDiff)
theorem impl_Expand_l14_ok (l : List GEnt) : ∀ (s1 : ByteArray) (out : ByteArray), Ok (impl_Expand_l14 s1 l out) e_impl_Expand (ev FTA c_impl_Expand (.loop k_impl_Expand_l14) [.lv 0, .th k_impl_Expand_r12] (putS (List.replicate 65 .dead) [(0, .t (.v (.string s1))), (1, .t (.sl false (l.map GEnt.row))), (6, .t (.v (.string out)))]) (putR (List.replicate 65 []) [])) := by
 unfold Ok
 refine impl_Expand_l14.partial_correctness l _ ?_
 intro F ih s1 out
 show Ok _ _ _
 have ih : ∀ (s1 : ByteArray) (out : ByteArray), Ok (F s1 out) _ _ := ih
 rw [ev_loop]
 have k0 := @k_impl_Expand_l14.eq_1; have k1 := @k_impl_Expand_r12.eq_1; have g0 := strings_Cut_ok; have g1 := impl_stands_ok; have g2 := impl_TextOk_ok; have t0 := ih
 exact gs
theorem impl_Expand_ok : ∀ (s : ByteArray) (l : List GEnt), Ok (impl_Expand s l) e_impl_Expand (dn FTA n_impl_Expand [.t (.v (.string s)), .t (.sl false (l.map GEnt.row))]) := by
 intro s l
 rw [den_ev FTA (fn := k_impl_Expand) rfl (xN rfl rfl _) (lB rfl)]
 have k0 := @k_impl_Expand.eq_1; have f0 := @impl_Expand.eq_1; have g0 := impl_signsOk_ok; have g1 := impl_EntsOk_ok; have t0 := impl_Expand_l14_ok
 exact gs
theorem spec_l1In_ok : ∀ (a0 : Int) (least : Int) (most : Int), Ok (spec_l1In a0 least most) e_spec_l1In (dn FTA n_spec_l1In [.t (.v (.int .i64 a0)), .t (.v (.int .i64 least)), .t (.v (.int .i64 most))]) := by
 intro a0 least most
 rw [den_ev FTA (fn := k_spec_l1In) rfl (xN rfl rfl _) (lB rfl)]
 have k0 := @k_spec_l1In.eq_1; have f0 := @spec_l1In.eq_1
 exact gs
theorem spec_SignAt_l55_ok (s : ByteArray) (at1 : Int) (n : Int) (least : Int) : ∀ (v1 : Int) (i : Int), Ok (spec_SignAt_l55 s at1 n least v1 i) e_spec_SignAt (ev FTA c_spec_SignAt (.loop k_spec_SignAt_l55) [.lv 1, .th k_spec_SignAt_r51] (putS (List.replicate 102 .dead) [(0, .t (.v (.string s))), (1, .t (.v (.int .i64 at1))), (8, .t (.v (.int .i64 n))), (9, .t (.v (.int .i64 least))), (10, .t (.v (.int .i64 v1))), (11, .t (.v (.int .i64 i)))]) (putR (List.replicate 102 []) [])) := by
 unfold Ok
 refine spec_SignAt_l55.partial_correctness s at1 n least _ ?_
 intro F ih v1 i
 show Ok _ _ _
 have ih : ∀ (v1 : Int) (i : Int), Ok (F v1 i) _ _ := ih
 rw [ev_loop]
 have k0 := @k_spec_SignAt_l55.eq_1; have k1 := @k_spec_SignAt_r51.eq_1; have g0 := spec_l1In_ok; have t0 := ih
 exact gs
theorem spec_SignAt_j26_ok : ∀ (s : ByteArray) (at1 : Int) (n : Int) (least : Int) (v : Int), Ok (spec_SignAt_j26 s at1 n least v) e_spec_SignAt (ev FTA c_spec_SignAt k_spec_SignAt_r26 [] (putS (List.replicate 102 .dead) [(0, .t (.v (.string s))), (1, .t (.v (.int .i64 at1))), (8, .t (.v (.int .i64 n))), (9, .t (.v (.int .i64 least))), (10, .t (.v (.int .i64 v)))]) (putR (List.replicate 102 []) [])) := by
 intro s at1 n least v
 have k0 := @k_spec_SignAt_r26.eq_1; have f0 := @spec_SignAt_j26.eq_1; have t0 := spec_SignAt_l55_ok
 exact gs
theorem spec_SignAt_j32_ok : ∀ (s : ByteArray) (at1 : Int) (x : Int) (x2 : Bool), Ok (spec_SignAt_j32 s at1 x x2) e_spec_SignAt (ev FTA c_spec_SignAt k_spec_SignAt_r32 [.lv 0, .hk [.clean []], .th k_spec_SignAt_r26] (putS (List.replicate 102 .dead) [(0, .t (.v (.string s))), (1, .t (.v (.int .i64 at1))), (7, .t (.v (.int .i64 (wr .i64 x)))), (39, .t (.v (.bool x2)))]) (putR (List.replicate 102 []) [])) := by
 intro s at1 x x2
 have k0 := @k_spec_SignAt_r32.eq_1; have f0 := @spec_SignAt_j32.eq_1; have t0 := spec_SignAt_j26_ok
 exact gs
theorem spec_SignAt_j28_ok : ∀ (s : ByteArray) (at1 : Int) (x : Int) (x1 : Bool), Ok (spec_SignAt_j28 s at1 x x1) e_spec_SignAt (ev FTA c_spec_SignAt k_spec_SignAt_r28 [.lv 0, .hk [.clean []], .th k_spec_SignAt_r26] (putS (List.replicate 102 .dead) [(0, .t (.v (.string s))), (1, .t (.v (.int .i64 at1))), (7, .t (.v (.int .i64 (wr .i64 x)))), (30, .t (.v (.bool x1)))]) (putR (List.replicate 102 []) [])) := by
 intro s at1 x x1
 have k0 := @k_spec_SignAt_r28.eq_1; have f0 := @spec_SignAt_j28.eq_1; have t0 := spec_SignAt_j26_ok; have t1 := spec_SignAt_j32_ok
 exact gs
theorem spec_SignAt_ok : ∀ (s : ByteArray) (at1 : Int), Ok (spec_SignAt s at1) e_spec_SignAt (dn FTA n_spec_SignAt [.t (.v (.string s)), .t (.v (.int .i64 at1))]) := by
 intro s at1
 rw [den_ev FTA (fn := k_spec_SignAt) rfl (xN rfl rfl _) (lB rfl)]
 have k0 := @k_spec_SignAt.eq_1; have f0 := @spec_SignAt.eq_1; have t0 := spec_SignAt_j28_ok
 exact gs
theorem spec_IsSign_ok : ∀ (n : Int), Ok (spec_IsSign n) e_spec_IsSign (dn FTA n_spec_IsSign [.t (.v (.int .i64 n))]) := by
 intro n
 rw [den_ev FTA (fn := k_spec_IsSign) rfl (xN rfl rfl _) (lB rfl)]
 have k0 := @k_spec_IsSign.eq_1; have f0 := @spec_IsSign.eq_1; have g0 := spec_l1In_ok
 exact gs
theorem spec_l1Signs_l6_ok (s : ByteArray) : ∀ (at1 : Int), Ok (spec_l1Signs_l6 s at1) e_spec_l1Signs (ev FTA c_spec_l1Signs (.loop k_spec_l1Signs_l6) [.lv 0, .th k_spec_l1Signs_r2] (putS (List.replicate 29 .dead) [(0, .t (.v (.string s))), (3, .t (.v (.int .i64 at1)))]) (putR (List.replicate 29 []) [])) := by
 unfold Ok
 refine spec_l1Signs_l6.partial_correctness s _ ?_
 intro F ih at1
 show Ok _ _ _
 have ih : ∀ (at1 : Int), Ok (F at1) _ _ := ih
 rw [ev_loop]
 have k0 := @k_spec_l1Signs_l6.eq_1; have k1 := @k_spec_l1Signs_r2.eq_1; have g0 := spec_SignAt_ok; have g1 := spec_IsSign_ok; have t0 := ih
 exact gs
theorem spec_l1Signs_ok : ∀ (s : ByteArray), Ok (spec_l1Signs s) e_spec_l1Signs (dn FTA n_spec_l1Signs [.t (.v (.string s))]) := by
 intro s
 rw [den_ev FTA (fn := k_spec_l1Signs) rfl (xN rfl rfl _) (lB rfl)]
 have k0 := @k_spec_l1Signs.eq_1; have f0 := @spec_l1Signs.eq_1; have t0 := spec_l1Signs_l6_ok
 exact gs
theorem spec_l1Ranges_l6_ok (n : Int) (l : List Int) : ∀ (i : Int), Ok (spec_l1Ranges_l6 n l i) e_spec_l1Ranges (ev FTA c_spec_l1Ranges (.loop k_spec_l1Ranges_l6) [.lv 0, .th k_spec_l1Ranges_r2] (putS (List.replicate 24 .dead) [(0, .t (.v (.int .i64 n))), (1, .t (.sl false (l.map rI))), (5, .t (.v (.int .i64 i)))]) (putR (List.replicate 24 []) [])) := by
 unfold Ok
 refine spec_l1Ranges_l6.partial_correctness n l _ ?_
 intro F ih i
 show Ok _ _ _
 have ih : ∀ (i : Int), Ok (F i) _ _ := ih
 rw [ev_loop]
 have k0 := @k_spec_l1Ranges_l6.eq_1; have k1 := @k_spec_l1Ranges_r2.eq_1; have g0 := spec_l1In_ok; have t0 := ih
 exact gs
theorem spec_l1Ranges_ok : ∀ (n : Int) (l : List Int), Ok (spec_l1Ranges n l) e_spec_l1Ranges (dn FTA n_spec_l1Ranges [.t (.v (.int .i64 n)), .t (.sl false (l.map rI))]) := by
 intro n l
 rw [den_ev FTA (fn := k_spec_l1Ranges) rfl (xN rfl rfl _) (lB rfl)]
 have k0 := @k_spec_l1Ranges.eq_1; have f0 := @spec_l1Ranges.eq_1; have t0 := spec_l1Ranges_l6_ok
 exact gs
theorem spec_IsStart_ok : ∀ (n : Int), Ok (spec_IsStart n) e_spec_IsStart (dn FTA n_spec_IsStart [.t (.v (.int .i64 n))]) := by
 intro n
 rw [den_ev FTA (fn := k_spec_IsStart) rfl (xN rfl rfl _) (lB rfl)]
 have k0 := @k_spec_IsStart.eq_1; have f0 := @spec_IsStart.eq_1; have g0 := spec_l1Ranges_ok
 exact gs
theorem spec_IsPart_ok : ∀ (n : Int), Ok (spec_IsPart n) e_spec_IsPart (dn FTA n_spec_IsPart [.t (.v (.int .i64 n))]) := by
 intro n
 rw [den_ev FTA (fn := k_spec_IsPart) rfl (xN rfl rfl _) (lB rfl)]
 have k0 := @k_spec_IsPart.eq_1; have f0 := @spec_IsPart.eq_1; have g0 := spec_IsStart_ok; have g1 := spec_l1Ranges_ok
 exact gs
theorem spec_PlainOk_l14_ok (s : ByteArray) : ∀ (at1 : Int), Ok (spec_PlainOk_l14 s at1) e_spec_PlainOk (ev FTA c_spec_PlainOk (.loop k_spec_PlainOk_l14) [.lv 0, .th k_spec_PlainOk_r10] (putS (List.replicate 39 .dead) [(0, .t (.v (.string s))), (3, .t (.v (.int .i64 at1)))]) (putR (List.replicate 39 []) [])) := by
 unfold Ok
 refine spec_PlainOk_l14.partial_correctness s _ ?_
 intro F ih at1
 show Ok _ _ _
 have ih : ∀ (at1 : Int), Ok (F at1) _ _ := ih
 rw [ev_loop]
 have k0 := @k_spec_PlainOk_l14.eq_1; have k1 := @k_spec_PlainOk_r10.eq_1; have g0 := spec_SignAt_ok; have g1 := spec_IsStart_ok; have g2 := spec_IsPart_ok; have t0 := ih
 exact gs
theorem spec_PlainOk_ok : ∀ (s : ByteArray), Ok (spec_PlainOk s) e_spec_PlainOk (dn FTA n_spec_PlainOk [.t (.v (.string s))]) := by
 intro s
 rw [den_ev FTA (fn := k_spec_PlainOk) rfl (xN rfl rfl _) (lB rfl)]
 have k0 := @k_spec_PlainOk.eq_1; have f0 := @spec_PlainOk.eq_1; have g0 := spec_l1In_ok; have t0 := spec_PlainOk_l14_ok
 exact gs
theorem spec_l3Known_ok : ∀ (s : ByteArray), Ok (spec_l3Known s) e_spec_l3Known (dn FTA n_spec_l3Known [.t (.v (.string s))]) := by
 intro s
 rw [den_ev FTA (fn := k_spec_l3Known) rfl (xN rfl rfl _) (lB rfl)]
 have k0 := @k_spec_l3Known.eq_1; have f0 := @spec_l3Known.eq_1
 exact gs
theorem spec_TextOk_ok : ∀ (s : ByteArray), Ok (spec_TextOk s) e_spec_TextOk (dn FTA n_spec_TextOk [.t (.v (.string s))]) := by
 intro s
 rw [den_ev FTA (fn := k_spec_TextOk) rfl (xN rfl rfl _) (lB rfl)]
 have k0 := @k_spec_TextOk.eq_1; have f0 := @spec_TextOk.eq_1; have g0 := spec_l1Signs_ok
 exact gs
theorem G_spec_EntsOk_l26 (l : List GEnt) : (∀ (i : Int) (k1 : Int), Ok (spec_EntsOk_l26 l i k1) e_spec_EntsOk (ev FTA c_spec_EntsOk (.loop k_spec_EntsOk_l26) [.lv 2, .lv 1, .th k_spec_EntsOk_r13, .hk [.clean []], .th (.loop k_spec_EntsOk_l6), .lv 0, .th k_spec_EntsOk_r2] (putS (List.replicate 55 .dead) [(0, .t (.sl false (l.map GEnt.row))), (3, .t (.v (.int .i64 i))), (4, .t (.v (.int .i64 k1)))]) (putR (List.replicate 55 []) []))) ∧
  (∀ (i : Int), Ok (spec_EntsOk_l6 l i) e_spec_EntsOk (ev FTA c_spec_EntsOk (.loop k_spec_EntsOk_l6) [.lv 0, .th k_spec_EntsOk_r2] (putS (List.replicate 55 .dead) [(0, .t (.sl false (l.map GEnt.row))), (3, .t (.v (.int .i64 i)))]) (putR (List.replicate 55 []) []))) := by
 unfold Ok
 refine spec_EntsOk_l26.mutual_partial_correctness l _ _ ?_ ?_
 ·intro F0 F1 ih0 ih1 i k1
  show Ok _ _ _
  have ih0 : ∀ (i : Int) (k1 : Int), Ok (F0 i k1) _ _ := ih0
  have ih1 : ∀ (i : Int), Ok (F1 i) _ _ := ih1
  rw [ev_loop]
  have k0 := @k_spec_EntsOk_l26.eq_1; have k1 := @k_spec_EntsOk_r13.eq_1; have t0 := ih0; have t1 := ih1
  exact gs
 ·intro F0 ih0 i
  show Ok _ _ _
  have ih0 : ∀ (i : Int) (k1 : Int), Ok (F0 i k1) _ _ := ih0
  rw [ev_loop]
  have k0 := @k_spec_EntsOk_l6.eq_1; have k1 := @k_spec_EntsOk_r2.eq_1; have g0 := spec_PlainOk_ok; have g1 := spec_l3Known_ok; have g2 := spec_TextOk_ok; have t0 := ih0
  exact gs
theorem spec_EntsOk_ok : ∀ (l : List GEnt), Ok (spec_EntsOk l) e_spec_EntsOk (dn FTA n_spec_EntsOk [.t (.sl false (l.map GEnt.row))]) := by
 intro l
 rw [den_ev FTA (fn := k_spec_EntsOk) rfl (xN rfl rfl _) (lB rfl)]
 have k0 := @k_spec_EntsOk.eq_1; have f0 := @spec_EntsOk.eq_1; have t0 := fun a0 => (G_spec_EntsOk_l26 a0).2
 exact gs
theorem G_spec_l3Number_j29 (s : ByteArray) (base : Int) : (∀ (n : Int) (i : Int) (d1 : Int), Ok (spec_l3Number_j29 s base n i d1) e_spec_l3Number (ev FTA c_spec_l3Number k_spec_l3Number_r29 [.lv 1, .th k_spec_l3Number_r23, .hk [.clean []], .th (.loop k_spec_l3Number_l16), .lv 0, .th k_spec_l3Number_r12] (putS (List.replicate 56 .dead) [(0, .t (.v (.string s))), (1, .t (.v (.int .i64 base))), (7, .t (.v (.int .i64 n))), (8, .t (.v (.int .i64 i))), (10, .t (.v (.int .i64 d1)))]) (putR (List.replicate 56 []) []))) ∧
  (∀ (n : Int) (i : Int), Ok (spec_l3Number_l16 s base n i) e_spec_l3Number (ev FTA c_spec_l3Number (.loop k_spec_l3Number_l16) [.lv 0, .th k_spec_l3Number_r12] (putS (List.replicate 56 .dead) [(0, .t (.v (.string s))), (1, .t (.v (.int .i64 base))), (7, .t (.v (.int .i64 n))), (8, .t (.v (.int .i64 i)))]) (putR (List.replicate 56 []) []))) := by
 unfold Ok
 refine spec_l3Number_j29.mutual_partial_correctness s base _ _ ?_ ?_
 ·intro F1 ih1 n i d1
  show Ok _ _ _
  have ih1 : ∀ (n : Int) (i : Int), Ok (F1 n i) _ _ := ih1
  have k0 := @k_spec_l3Number_r29.eq_1; have k1 := @k_spec_l3Number_r23.eq_1; have t0 := ih1
  exact gs
 ·intro F0 ih0 n i
  show Ok _ _ _
  have ih0 : ∀ (n : Int) (i : Int) (d1 : Int), Ok (F0 n i d1) _ _ := ih0
  rw [ev_loop]
  have k0 := @k_spec_l3Number_l16.eq_1; have k1 := @k_spec_l3Number_r12.eq_1; have g0 := spec_l1In_ok; have t0 := ih0
  exact gs
theorem spec_l3Number_ok : ∀ (s : ByteArray) (base : Int) (most : Int), Ok (spec_l3Number s base most) e_spec_l3Number (dn FTA n_spec_l3Number [.t (.v (.string s)), .t (.v (.int .i64 base)), .t (.v (.int .i64 most))]) := by
 intro s base most
 rw [den_ev FTA (fn := k_spec_l3Number) rfl (xN rfl rfl _) (lB rfl)]
 have k0 := @k_spec_l3Number.eq_1; have f0 := @spec_l3Number.eq_1; have g0 := spec_l1In_ok; have t0 := fun a0 a1 => (G_spec_l3Number_j29 a0 a1).2
 exact gs
theorem spec_SignText_j4_ok : ∀ (n : Int) (x : Bool), Ok (spec_SignText_j4 n x) e_spec_SignText (ev FTA c_spec_SignText k_spec_SignText_r4 [.lv 0, .th k_spec_SignText_r2] (putS (List.replicate 72 .dead) [(0, .t (.v (.int .i64 n))), (3, .t (.v (.bool x)))]) (putR (List.replicate 72 []) [])) := by
 intro n x
 have k0 := @k_spec_SignText_r4.eq_1; have k1 := @k_spec_SignText_r2.eq_1; have f0 := @spec_SignText_j4.eq_1
 exact gs
theorem spec_SignText_ok : ∀ (n : Int), Ok (spec_SignText n) e_spec_SignText (dn FTA n_spec_SignText [.t (.v (.int .i64 n))]) := by
 intro n
 rw [den_ev FTA (fn := k_spec_SignText) rfl (xN rfl rfl _) (lB rfl)]
 have k0 := @k_spec_SignText.eq_1; have f0 := @spec_SignText.eq_1; have g0 := spec_l1In_ok; have t0 := spec_SignText_j4_ok
 exact gs
end TT
