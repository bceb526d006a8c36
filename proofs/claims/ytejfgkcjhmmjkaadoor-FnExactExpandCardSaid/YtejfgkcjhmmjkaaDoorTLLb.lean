import Derived.Test.YtejfgkcjhmmjkaaDoorTLLa
set_option maxHeartbeats 2000000
set_option linter.unusedVariables false
set_option linter.unusedSimpArgs false
set_option linter.defProp false
set_option maxRecDepth 100000
namespace TT
open Go
open Nat (reduceAdd reduceSub reduceMul reduceLeDiff reduceLT reduceEqDiff)
theorem G_spec_l3Number_j29 (s : ByteArray) (base : Int) : (∀ (n : Int) (i : Int) (d1 : Int), Ok (spec_l3Number_j29 s base n i d1) e_spec_l3Number (ev FTA c_spec_l3Number k_spec_l3Number_r29 [.lv 1, .th k_spec_l3Number_r23, .hk [.clean []], .th (.loop k_spec_l3Number_l16), .lv 0, .th k_spec_l3Number_r12] (putS (List.replicate 56 .dead) [(0, .t (.v (.string s))), (1, .t (.v (.int .i64 base))), (7, .t (.v (.int .i64 n))), (8, .t (.v (.int .i64 i))), (10, .t (.v (.int .i64 d1)))]) (putR (List.replicate 56 []) []))) ∧
  (∀ (n : Int) (i : Int), Ok (spec_l3Number_l16 s base n i) e_spec_l3Number (ev FTA c_spec_l3Number (.loop k_spec_l3Number_l16) [.lv 0, .th k_spec_l3Number_r12] (putS (List.replicate 56 .dead) [(0, .t (.v (.string s))), (1, .t (.v (.int .i64 base))), (7, .t (.v (.int .i64 n))), (8, .t (.v (.int .i64 i)))]) (putR (List.replicate 56 []) []))) := by
 unfold Ok
 refine spec_l3Number_j29.mutual_partial_correctness s base _ _ ?_ ?_
 ·intro F1 ih1 n i d1
  show Ok _ _ _
  have ih1 : ∀ (n : Int) (i : Int), Ok (F1 n i) _ _ := ih1
  have k0 := @k_spec_l3Number_r29.eq_1; have k1 := @k_spec_l3Number_r23.eq_1; have t0 := ih1
  exact gs
 ·intro F0 ih0 n i
  show Ok _ _ _
  have ih0 : ∀ (n : Int) (i : Int) (d1 : Int), Ok (F0 n i d1) _ _ := ih0
  rw [ev_loop]
  have k0 := @k_spec_l3Number_l16.eq_1; have k1 := @k_spec_l3Number_r12.eq_1; have g0 := spec_l1In_ok; have t0 := ih0
  exact gs
theorem spec_l3Number_ok : ∀ (s : ByteArray) (base : Int) (most : Int), Ok (spec_l3Number s base most) e_spec_l3Number (dn FTA n_spec_l3Number [.t (.v (.string s)), .t (.v (.int .i64 base)), .t (.v (.int .i64 most))]) := by
 intro s base most
 rw [den_ev FTA (fn := k_spec_l3Number) rfl (xN rfl rfl _) (lB rfl)]
 have k0 := @k_spec_l3Number.eq_1; have f0 := @spec_l3Number.eq_1; have g0 := spec_l1In_ok; have t0 := fun a0 a1 => (G_spec_l3Number_j29 a0 a1).2
 exact gs
theorem spec_SignText_j4_ok : ∀ (n : Int) (x : Bool), Ok (spec_SignText_j4 n x) e_spec_SignText (ev FTA c_spec_SignText k_spec_SignText_r4 [.lv 0, .th k_spec_SignText_r2] (putS (List.replicate 72 .dead) [(0, .t (.v (.int .i64 n))), (3, .t (.v (.bool x)))]) (putR (List.replicate 72 []) [])) := by
 intro n x
 have k0 := @k_spec_SignText_r4.eq_1; have k1 := @k_spec_SignText_r2.eq_1; have f0 := @spec_SignText_j4.eq_1
 exact gs
theorem spec_SignText_ok : ∀ (n : Int), Ok (spec_SignText n) e_spec_SignText (dn FTA n_spec_SignText [.t (.v (.int .i64 n))]) := by
 intro n
 rw [den_ev FTA (fn := k_spec_SignText) rfl (xN rfl rfl _) (lB rfl)]
 have k0 := @k_spec_SignText.eq_1; have f0 := @spec_SignText.eq_1; have g0 := spec_l1In_ok; have t0 := spec_SignText_j4_ok
 exact gs
theorem spec_l3One_j8_ok : ∀ (n : Int), Ok (spec_l3One_j8 n) e_spec_l3One (ev FTA c_spec_l3One k_spec_l3One_r8 [.hk [.kill [15], .clean []], .th k_spec_l3One_r2] (putS (List.replicate 56 .dead) [(6, .t (.v (.int .i64 n)))]) (putR (List.replicate 56 []) [])) := by
 intro n
 have k0 := @k_spec_l3One_r8.eq_1; have f0 := @spec_l3One_j8.eq_1; have g0 := spec_SignText_ok; have g1 := spec_IsSign_ok
 exact gs
theorem spec_l3One_l30_ok (s : ByteArray) (l : List GEnt) : ∀ (i : Int), Ok (spec_l3One_l30 s l i) e_spec_l3One (ev FTA c_spec_l3One (.loop k_spec_l3One_l30) [.lv 0, .th k_spec_l3One_r26] (putS (List.replicate 56 .dead) [(0, .t (.v (.string s))), (1, .t (.sl false (l.map GEnt.row))), (7, .t (.v (.int .i64 i)))]) (putR (List.replicate 56 []) [])) := by
 unfold Ok
 refine spec_l3One_l30.partial_correctness s l _ ?_
 intro F ih i
 show Ok _ _ _
 have ih : ∀ (i : Int), Ok (F i) _ _ := ih
 rw [ev_loop]
 have k0 := @k_spec_l3One_l30.eq_1; have k1 := @k_spec_l3One_r26.eq_1; have t0 := ih
 exact gs
theorem spec_l3One_j3_ok : ∀ (s : ByteArray) (l : List GEnt) (x1 : Bool), Ok (spec_l3One_j3 s l x1) e_spec_l3One (ev FTA c_spec_l3One k_spec_l3One_r3 [.hk [.kill [15], .clean []], .th k_spec_l3One_r2] (putS (List.replicate 56 .dead) [(0, .t (.v (.string s))), (1, .t (.sl false (l.map GEnt.row))), (15, .t (.v (.bool x1)))]) (putR (List.replicate 56 []) [])) := by
 intro s l x1
 have k0 := @k_spec_l3One_r3.eq_1; have k1 := @k_spec_l3One_r2.eq_1; have f0 := @spec_l3One_j3.eq_1; have g0 := spec_l3Number_ok; have g1 := spec_l3Known_ok; have t0 := spec_l3One_j8_ok; have t1 := spec_l3One_l30_ok
 exact gs
theorem spec_l3One_ok : ∀ (s : ByteArray) (l : List GEnt), Ok (spec_l3One s l) e_spec_l3One (dn FTA n_spec_l3One [.t (.v (.string s)), .t (.sl false (l.map GEnt.row))]) := by
 intro s l
 rw [den_ev FTA (fn := k_spec_l3One) rfl (xN rfl rfl _) (lB rfl)]
 have k0 := @k_spec_l3One.eq_1; have f0 := @spec_l3One.eq_1; have t0 := spec_l3One_j3_ok
 exact gs
theorem G_spec_Expand_l37 (s : ByteArray) (l : List GEnt) : (∀ (out : ByteArray) (at1 : Int) (k1 : Int), Ok (spec_Expand_l37 s l out at1 k1) e_spec_Expand (ev FTA c_spec_Expand (.loop k_spec_Expand_l37) [.lv 2, .hk [.kill [46], .clean []], .th k_spec_Expand_r35, .lv 1, .th k_spec_Expand_r23, .hk [.clean []], .th (.loop k_spec_Expand_l16), .lv 0, .th k_spec_Expand_r12] (putS (List.replicate 73 .dead) [(0, .t (.v (.string s))), (1, .t (.sl false (l.map GEnt.row))), (6, .t (.v (.string out))), (7, .t (.v (.int .i64 at1))), (8, .t (.v (.int .i64 k1)))]) (putR (List.replicate 73 []) []))) ∧
  (∀ (out : ByteArray) (at1 : Int) (k1 : Int), Ok (spec_Expand_j35 s l out at1 k1) e_spec_Expand (ev FTA c_spec_Expand k_spec_Expand_r35 [.lv 1, .th k_spec_Expand_r23, .hk [.clean []], .th (.loop k_spec_Expand_l16), .lv 0, .th k_spec_Expand_r12] (putS (List.replicate 73 .dead) [(0, .t (.v (.string s))), (1, .t (.sl false (l.map GEnt.row))), (6, .t (.v (.string out))), (7, .t (.v (.int .i64 at1))), (8, .t (.v (.int .i64 k1)))]) (putR (List.replicate 73 []) []))) ∧
  (∀ (out : ByteArray) (at1 : Int), Ok (spec_Expand_l16 s l out at1) e_spec_Expand (ev FTA c_spec_Expand (.loop k_spec_Expand_l16) [.lv 0, .th k_spec_Expand_r12] (putS (List.replicate 73 .dead) [(0, .t (.v (.string s))), (1, .t (.sl false (l.map GEnt.row))), (6, .t (.v (.string out))), (7, .t (.v (.int .i64 at1)))]) (putR (List.replicate 73 []) []))) := by
 unfold Ok
 refine spec_Expand_l37.mutual_partial_correctness s l _ _ _ ?_ ?_ ?_
 ·intro F0 F1 ih0 ih1 out at1 k1
  show Ok _ _ _
  have ih0 : ∀ (out : ByteArray) (at1 : Int) (k1 : Int), Ok (F0 out at1 k1) _ _ := ih0
  have ih1 : ∀ (out : ByteArray) (at1 : Int) (k1 : Int), Ok (F1 out at1 k1) _ _ := ih1
  rw [ev_loop]
  have k0 := @k_spec_Expand_l37.eq_1; have t0 := ih0; have t1 := ih1
  exact gs
 ·intro F2 ih2 out at1 k1
  show Ok _ _ _
  have ih2 : ∀ (out : ByteArray) (at1 : Int), Ok (F2 out at1) _ _ := ih2
  have k0 := @k_spec_Expand_r35.eq_1; have k1 := @k_spec_Expand_r23.eq_1; have g0 := spec_l3One_ok; have t0 := ih2
  exact gs
 ·intro F0 F2 ih0 ih2 out at1
  show Ok _ _ _
  have ih2 : ∀ (out : ByteArray) (at1 : Int), Ok (F2 out at1) _ _ := ih2
  have ih0 : ∀ (out : ByteArray) (at1 : Int) (k1 : Int), Ok (F0 out at1 k1) _ _ := ih0
  rw [ev_loop]
  have k0 := @k_spec_Expand_l16.eq_1; have k1 := @k_spec_Expand_r12.eq_1; have k2 := @k_spec_Expand_r23.eq_1; have g0 := spec_TextOk_ok; have t0 := ih2; have t1 := ih0
  exact gs
theorem spec_Expand_ok : ∀ (s : ByteArray) (l : List GEnt), Ok (spec_Expand s l) e_spec_Expand (dn FTA n_spec_Expand [.t (.v (.string s)), .t (.sl false (l.map GEnt.row))]) := by
 intro s l
 rw [den_ev FTA (fn := k_spec_Expand) rfl (xN rfl rfl _) (lB rfl)]
 have k0 := @k_spec_Expand.eq_1; have f0 := @spec_Expand.eq_1; have g0 := spec_l1Signs_ok; have g1 := spec_EntsOk_ok; have t0 := fun a0 a1 => (G_spec_Expand_l37 a0 a1).2.2
 exact gs
theorem impl_in_ok : ∀ (n : Int) (lo : Int) (hi : Int), Ok (impl_in n lo hi) e_impl_in (dn FTA n_impl_in [.t (.v (.int .i64 n)), .t (.v (.int .i64 lo)), .t (.v (.int .i64 hi))]) := by
 intro n lo hi
 rw [den_ev FTA (fn := k_impl_in) rfl (xN rfl rfl _) (lB rfl)]
 have k0 := @k_impl_in.eq_1; have f0 := @impl_in.eq_1
 exact gs
theorem unicode_utf8_DecodeRuneInString_ok : ∀ (s : ByteArray), Ok (unicode_utf8_DecodeRuneInString s) e_unicode_utf8_DecodeRuneInString (dn FTA n_unicode_utf8_DecodeRuneInString [.t (.v (.string s))]) := by
 intro s r hr
 exact den_ext FTA.ft (xOf FTA) (x_decode_ok s (e := e_unicode_utf8_DecodeRuneInString) (fun _ => rfl) hr)
theorem impl_SignAt_ok : ∀ (s : ByteArray) (at1 : Int), Ok (impl_SignAt s at1) e_impl_SignAt (dn FTA n_impl_SignAt [.t (.v (.string s)), .t (.v (.int .i64 at1))]) := by
 intro s at1
 rw [den_ev FTA (fn := k_impl_SignAt) rfl (xN rfl rfl _) (lB rfl)]
 have k0 := @k_impl_SignAt.eq_1; have f0 := @impl_SignAt.eq_1; have g0 := impl_in_ok; have g1 := unicode_utf8_DecodeRuneInString_ok
 exact gs
theorem impl_inAny_1_ok : ∀ (r : GArr2Int) (a1 : Int), Ok (impl_inAny_1 r a1) e_impl_inAny_1 (dn FTA n_impl_inAny_1 [.agg ((GArr2Int.row r).map .t), .lp [.v (.int .i64 a1)] 0]) := by
 intro r a1
 rw [den_ev FTA (fn := k_impl_inAny_1) rfl (xN rfl rfl _) (lB rfl)]
 have k0 := @k_impl_inAny_1.eq_1; have f0 := @impl_inAny_1.eq_1; have g0 := impl_in_ok
 exact gs
theorem slices_IndexFunc_A2int_inAny_1_l6_ok (s : List GArr2Int) : ∀ (x1 : Int) (f : Int), Ok (slices_IndexFunc_A2int_inAny_1_l6 s x1 f) e_slices_IndexFunc_A2int_inAny_1 (ev FTA c_slices_IndexFunc_A2int_inAny_1 (.loop k_slices_IndexFunc_A2int_l6) [.lv 0, .th k_slices_IndexFunc_A2int_r2] (putS (List.replicate 19 .dead) [(0, .t (.sl false (s.map GArr2Int.row))), (1, .fn n_impl_inAny_1 [.ptr (1, 0) [] 0 0 1 0]), (7, .t (.v (.int .i64 (lenL s)))), (8, .t (.v (.int .i64 x1)))]) (putR (List.replicate 19 []) [(1, [.mem [[.v (.int .i64 f)]] 0 true])])) := by
 unfold Ok
 refine slices_IndexFunc_A2int_inAny_1_l6.partial_correctness s _ ?_
 intro F ih x1 f
 show Ok _ _ _
 have ih : ∀ (x1 : Int) (f : Int), Ok (F x1 f) _ _ := ih
 rw [ev_loop]
 have k0 := @k_slices_IndexFunc_A2int_l6.eq_1; have k1 := @k_slices_IndexFunc_A2int_r2.eq_1; have g0 := impl_inAny_1_ok; have t0 := ih
 exact gs
theorem slices_IndexFunc_A2int_inAny_1_ok : ∀ (s : List GArr2Int) (fc0 : Int), Ok (slices_IndexFunc_A2int_inAny_1 s fc0) e_slices_IndexFunc_A2int_inAny_1 (dn FTA n_slices_IndexFunc_A2int [.t (.sl false (s.map GArr2Int.row)), .fn n_impl_inAny_1 [.lp [.v (.int .i64 fc0)] 0]]) := by
 intro s fc0
 rw [den_ev FTA (fn := k_slices_IndexFunc_A2int) rfl (xN rfl rfl _) (lB rfl)]
 have k0 := @k_slices_IndexFunc_A2int.eq_1; have f0 := @slices_IndexFunc_A2int_inAny_1.eq_1; have t0 := slices_IndexFunc_A2int_inAny_1_l6_ok
 exact gs
theorem slices_ContainsFunc_A2int_inAny_1_ok : ∀ (s : List GArr2Int) (fc0 : Int), Ok (slices_ContainsFunc_A2int_inAny_1 s fc0) e_slices_ContainsFunc_A2int_inAny_1 (dn FTA n_slices_ContainsFunc_A2int [.t (.sl false (s.map GArr2Int.row)), .fn n_impl_inAny_1 [.lp [.v (.int .i64 fc0)] 0]]) := by
 intro s fc0
 rw [den_ev FTA (fn := k_slices_ContainsFunc_A2int) rfl (xN rfl rfl _) (lB rfl)]
 have k0 := @k_slices_ContainsFunc_A2int.eq_1; have f0 := @slices_ContainsFunc_A2int_inAny_1.eq_1; have g0 := slices_IndexFunc_A2int_inAny_1_ok
 exact gs
theorem impl_inAny_ok : ∀ (n : Int) (ranges : List GArr2Int), Ok (impl_inAny n ranges) e_impl_inAny (dn FTA n_impl_inAny [.t (.v (.int .i64 n)), .t (.sl false (ranges.map GArr2Int.row))]) := by
 intro n ranges
 rw [den_ev FTA (fn := k_impl_inAny) rfl (xN rfl rfl _) (lB rfl)]
 have k0 := @k_impl_inAny.eq_1; have f0 := @impl_inAny.eq_1; have g0 := slices_ContainsFunc_A2int_inAny_1_ok
 exact gs
theorem impl_IsSign_ok : ∀ (n : Int), Ok (impl_IsSign n) e_impl_IsSign (dn FTA n_impl_IsSign [.t (.v (.int .i64 n))]) := by
 intro n
 rw [den_ev FTA (fn := k_impl_IsSign) rfl (xN rfl rfl _) (lB rfl)]
 have k0 := @k_impl_IsSign.eq_1; have f0 := @impl_IsSign.eq_1; have g0 := impl_inAny_ok
 exact gs
theorem impl_signsOk_l6_ok (s : ByteArray) : ∀ (at1 : Int), Ok (impl_signsOk_l6 s at1) e_impl_signsOk (ev FTA c_impl_signsOk (.loop k_impl_signsOk_l6) [.lv 0, .th k_impl_signsOk_r2] (putS (List.replicate 26 .dead) [(0, .t (.v (.string s))), (3, .t (.v (.int .i64 at1)))]) (putR (List.replicate 26 []) [])) := by
 unfold Ok
 refine impl_signsOk_l6.partial_correctness s _ ?_
 intro F ih at1
 show Ok _ _ _
 have ih : ∀ (at1 : Int), Ok (F at1) _ _ := ih
 rw [ev_loop]
 have k0 := @k_impl_signsOk_l6.eq_1; have k1 := @k_impl_signsOk_r2.eq_1; have g0 := impl_SignAt_ok; have g1 := impl_IsSign_ok; have t0 := ih
 exact gs
theorem impl_signsOk_ok : ∀ (s : ByteArray), Ok (impl_signsOk s) e_impl_signsOk (dn FTA n_impl_signsOk [.t (.v (.string s))]) := by
 intro s
 rw [den_ev FTA (fn := k_impl_signsOk) rfl (xN rfl rfl _) (lB rfl)]
 have k0 := @k_impl_signsOk.eq_1; have f0 := @impl_signsOk.eq_1; have t0 := impl_signsOk_l6_ok
 exact gs
theorem impl_IsStart_ok : ∀ (n : Int), Ok (impl_IsStart n) e_impl_IsStart (dn FTA n_impl_IsStart [.t (.v (.int .i64 n))]) := by
 intro n
 rw [den_ev FTA (fn := k_impl_IsStart) rfl (xN rfl rfl _) (lB rfl)]
 have k0 := @k_impl_IsStart.eq_1; have f0 := @impl_IsStart.eq_1; have g0 := impl_inAny_ok
 exact gs
theorem impl_IsPart_ok : ∀ (n : Int), Ok (impl_IsPart n) e_impl_IsPart (dn FTA n_impl_IsPart [.t (.v (.int .i64 n))]) := by
 intro n
 rw [den_ev FTA (fn := k_impl_IsPart) rfl (xN rfl rfl _) (lB rfl)]
 have k0 := @k_impl_IsPart.eq_1; have f0 := @impl_IsPart.eq_1; have g0 := impl_IsStart_ok; have g1 := impl_inAny_ok
 exact gs
theorem impl_PlainOk_l6_ok (s : ByteArray) : ∀ (at1 : Int), Ok (impl_PlainOk_l6 s at1) e_impl_PlainOk (ev FTA c_impl_PlainOk (.loop k_impl_PlainOk_l6) [.lv 0, .th k_impl_PlainOk_r2] (putS (List.replicate 38 .dead) [(0, .t (.v (.string s))), (3, .t (.v (.int .i64 at1)))]) (putR (List.replicate 38 []) [])) := by
 unfold Ok
 refine impl_PlainOk_l6.partial_correctness s _ ?_
 intro F ih at1
 show Ok _ _ _
 have ih : ∀ (at1 : Int), Ok (F at1) _ _ := ih
 rw [ev_loop]
 have k0 := @k_impl_PlainOk_l6.eq_1; have k1 := @k_impl_PlainOk_r2.eq_1; have g0 := impl_SignAt_ok; have g1 := impl_IsStart_ok; have g2 := impl_IsPart_ok; have g3 := impl_in_ok; have t0 := ih
 exact gs
theorem impl_PlainOk_ok : ∀ (s : ByteArray), Ok (impl_PlainOk s) e_impl_PlainOk (dn FTA n_impl_PlainOk [.t (.v (.string s))]) := by
 intro s
 rw [den_ev FTA (fn := k_impl_PlainOk) rfl (xN rfl rfl _) (lB rfl)]
 have k0 := @k_impl_PlainOk.eq_1; have f0 := @impl_PlainOk.eq_1; have t0 := impl_PlainOk_l6_ok
 exact gs
end TT
