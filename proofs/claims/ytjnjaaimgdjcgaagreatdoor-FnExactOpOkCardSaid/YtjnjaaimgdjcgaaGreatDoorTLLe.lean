import Derived.Test.YtjnjaaimgdjcgaaGreatDoorTLLd
set_option maxHeartbeats 2000000
set_option linter.unusedVariables false
set_option linter.unusedSimpArgs false
set_option linter.defProp false
set_option maxRecDepth 100000
namespace TT
open Go
open Nat (reduceAdd reduceSub reduceMul reduceLeDiff reduceLT reduceEqDiff)
theorem slices_IndexFunc_A2int_inAny_1_l6_ok (s : List GArr2Int) : ∀ (x1 : Int) (f : Int), Ok (slices_IndexFunc_A2int_inAny_1_l6 s x1 f) e_slices_IndexFunc_A2int_inAny_1 (ev FTA c_slices_IndexFunc_A2int_inAny_1 (.loop k_slices_IndexFunc_A2int_l6) [.lv 0, .th k_slices_IndexFunc_A2int_r2] (putS (List.replicate 19 .dead) [(0, .t (.sl false (s.map GArr2Int.row))), (1, .fn n_impl_inAny_1 [.ptr (1, 0) [] 0 0 1 0]), (7, .t (.v (.int .i64 (lenL s)))), (8, .t (.v (.int .i64 x1)))]) (putR (List.replicate 19 []) [(1, [.mem [[.v (.int .i64 f)]] 0 true])])) := by
 unfold Ok
 refine slices_IndexFunc_A2int_inAny_1_l6.partial_correctness s _ ?_
 intro F ih x1 f
 show Ok _ _ _
 have ih : ∀ (x1 : Int) (f : Int), Ok (F x1 f) _ _ := ih
 rw [ev_loop]
 have k0 := @k_slices_IndexFunc_A2int_l6.eq_1; have k1 := @k_slices_IndexFunc_A2int_r2.eq_1; have g0 := impl_inAny_1_ok; have t0 := ih
 exact gs
theorem slices_IndexFunc_A2int_inAny_1_ok : ∀ (s : List GArr2Int) (fc0 : Int), Ok (slices_IndexFunc_A2int_inAny_1 s fc0) e_slices_IndexFunc_A2int_inAny_1 (dn FTA n_slices_IndexFunc_A2int [.t (.sl false (s.map GArr2Int.row)), .fn n_impl_inAny_1 [.lp [.v (.int .i64 fc0)] 0]]) := by
 intro s fc0
 rw [den_ev FTA (fn := k_slices_IndexFunc_A2int) rfl (xN rfl rfl _) (lB rfl)]
 have k0 := @k_slices_IndexFunc_A2int.eq_1; have f0 := @slices_IndexFunc_A2int_inAny_1.eq_1; have t0 := slices_IndexFunc_A2int_inAny_1_l6_ok
 exact gs
theorem slices_ContainsFunc_A2int_inAny_1_ok : ∀ (s : List GArr2Int) (fc0 : Int), Ok (slices_ContainsFunc_A2int_inAny_1 s fc0) e_slices_ContainsFunc_A2int_inAny_1 (dn FTA n_slices_ContainsFunc_A2int [.t (.sl false (s.map GArr2Int.row)), .fn n_impl_inAny_1 [.lp [.v (.int .i64 fc0)] 0]]) := by
 intro s fc0
 rw [den_ev FTA (fn := k_slices_ContainsFunc_A2int) rfl (xN rfl rfl _) (lB rfl)]
 have k0 := @k_slices_ContainsFunc_A2int.eq_1; have f0 := @slices_ContainsFunc_A2int_inAny_1.eq_1; have g0 := slices_IndexFunc_A2int_inAny_1_ok
 exact gs
theorem impl_inAny_ok : ∀ (n : Int) (ranges : List GArr2Int), Ok (impl_inAny n ranges) e_impl_inAny (dn FTA n_impl_inAny [.t (.v (.int .i64 n)), .t (.sl false (ranges.map GArr2Int.row))]) := by
 intro n ranges
 rw [den_ev FTA (fn := k_impl_inAny) rfl (xN rfl rfl _) (lB rfl)]
 have k0 := @k_impl_inAny.eq_1; have f0 := @impl_inAny.eq_1; have g0 := slices_ContainsFunc_A2int_inAny_1_ok
 exact gs
theorem impl_IsStart_ok : ∀ (n : Int), Ok (impl_IsStart n) e_impl_IsStart (dn FTA n_impl_IsStart [.t (.v (.int .i64 n))]) := by
 intro n
 rw [den_ev FTA (fn := k_impl_IsStart) rfl (xN rfl rfl _) (lB rfl)]
 have k0 := @k_impl_IsStart.eq_1; have f0 := @impl_IsStart.eq_1; have g0 := impl_inAny_ok
 exact gs
theorem impl_IsPart_ok : ∀ (n : Int), Ok (impl_IsPart n) e_impl_IsPart (dn FTA n_impl_IsPart [.t (.v (.int .i64 n))]) := by
 intro n
 rw [den_ev FTA (fn := k_impl_IsPart) rfl (xN rfl rfl _) (lB rfl)]
 have k0 := @k_impl_IsPart.eq_1; have f0 := @impl_IsPart.eq_1; have g0 := impl_IsStart_ok; have g1 := impl_inAny_ok
 exact gs
theorem impl_PlainOk_l6_ok (s : ByteArray) : ∀ (at1 : Int), Ok (impl_PlainOk_l6 s at1) e_impl_PlainOk (ev FTA c_impl_PlainOk (.loop k_impl_PlainOk_l6) [.lv 0, .th k_impl_PlainOk_r2] (putS (List.replicate 38 .dead) [(0, .t (.v (.string s))), (3, .t (.v (.int .i64 at1)))]) (putR (List.replicate 38 []) [])) := by
 unfold Ok
 refine impl_PlainOk_l6.partial_correctness s _ ?_
 intro F ih at1
 show Ok _ _ _
 have ih : ∀ (at1 : Int), Ok (F at1) _ _ := ih
 rw [ev_loop]
 have k0 := @k_impl_PlainOk_l6.eq_1; have k1 := @k_impl_PlainOk_r2.eq_1; have g0 := impl_SignAt_ok; have g1 := impl_IsStart_ok; have g2 := impl_IsPart_ok; have g3 := impl_in_ok; have t0 := ih
 exact gs
theorem impl_PlainOk_ok : ∀ (s : ByteArray), Ok (impl_PlainOk s) e_impl_PlainOk (dn FTA n_impl_PlainOk [.t (.v (.string s))]) := by
 intro s
 rw [den_ev FTA (fn := k_impl_PlainOk) rfl (xN rfl rfl _) (lB rfl)]
 have k0 := @k_impl_PlainOk.eq_1; have f0 := @impl_PlainOk.eq_1; have t0 := impl_PlainOk_l6_ok
 exact gs
theorem impl_nameOk_ok : ∀ (pre : ByteArray) (local1 : ByteArray), Ok (impl_nameOk pre local1) e_impl_nameOk (dn FTA n_impl_nameOk [.t (.v (.string pre)), .t (.v (.string local1))]) := by
 intro pre local1
 rw [den_ev FTA (fn := k_impl_nameOk) rfl (xN rfl rfl _) (lB rfl)]
 have k0 := @k_impl_nameOk.eq_1; have f0 := @impl_nameOk.eq_1; have g0 := impl_PlainOk_ok
 exact gs
theorem impl_IsSign_ok : ∀ (n : Int), Ok (impl_IsSign n) e_impl_IsSign (dn FTA n_impl_IsSign [.t (.v (.int .i64 n))]) := by
 intro n
 rw [den_ev FTA (fn := k_impl_IsSign) rfl (xN rfl rfl _) (lB rfl)]
 have k0 := @k_impl_IsSign.eq_1; have f0 := @impl_IsSign.eq_1; have g0 := impl_inAny_ok
 exact gs
theorem impl_signsOk_l6_ok (s : ByteArray) : ∀ (at1 : Int), Ok (impl_signsOk_l6 s at1) e_impl_signsOk (ev FTA c_impl_signsOk (.loop k_impl_signsOk_l6) [.lv 0, .th k_impl_signsOk_r2] (putS (List.replicate 26 .dead) [(0, .t (.v (.string s))), (3, .t (.v (.int .i64 at1)))]) (putR (List.replicate 26 []) [])) := by
 unfold Ok
 refine impl_signsOk_l6.partial_correctness s _ ?_
 intro F ih at1
 show Ok _ _ _
 have ih : ∀ (at1 : Int), Ok (F at1) _ _ := ih
 rw [ev_loop]
 have k0 := @k_impl_signsOk_l6.eq_1; have k1 := @k_impl_signsOk_r2.eq_1; have g0 := impl_SignAt_ok; have g1 := impl_IsSign_ok; have t0 := ih
 exact gs
theorem impl_signsOk_ok : ∀ (s : ByteArray), Ok (impl_signsOk s) e_impl_signsOk (dn FTA n_impl_signsOk [.t (.v (.string s))]) := by
 intro s
 rw [den_ev FTA (fn := k_impl_signsOk) rfl (xN rfl rfl _) (lB rfl)]
 have k0 := @k_impl_signsOk.eq_1; have f0 := @impl_signsOk.eq_1; have t0 := impl_signsOk_l6_ok
 exact gs
theorem impl_TextOk_ok : ∀ (s : ByteArray), Ok (impl_TextOk s) e_impl_TextOk (dn FTA n_impl_TextOk [.t (.v (.string s))]) := by
 intro s
 rw [den_ev FTA (fn := k_impl_TextOk) rfl (xN rfl rfl _) (lB rfl)]
 have k0 := @k_impl_TextOk.eq_1; have f0 := @impl_TextOk.eq_1; have g0 := impl_signsOk_ok
 exact gs
theorem strings_Contains_ok : ∀ (s : ByteArray) (t : ByteArray), Ok (strings_Contains s t) e_strings_Contains (dn FTA n_strings_Contains [.t (.v (.string s)), .t (.v (.string t))]) := by
 intro s t r hr
 exact den_ext FTA.ft (xOf FTA) (x_contains_ok s t (e := e_strings_Contains) (fun _ => rfl) hr)
theorem impl_valOk_ok : ∀ (s : ByteArray), Ok (impl_valOk s) e_impl_valOk (dn FTA n_impl_valOk [.t (.v (.string s))]) := by
 intro s
 rw [den_ev FTA (fn := k_impl_valOk) rfl (xN rfl rfl _) (lB rfl)]
 have k0 := @k_impl_valOk.eq_1; have f0 := @impl_valOk.eq_1; have g0 := impl_TextOk_ok; have g1 := strings_Contains_ok
 exact gs
theorem impl_predOk_j16_ok : ∀ (named : Bool) (element : Bool) (p : GPred) (x : Bool), Ok (impl_predOk_j16 named element p x) e_impl_predOk (ev FTA c_impl_predOk k_impl_predOk_r16 [.lv 0, .th k_impl_predOk_r6] (putS (List.replicate 75 .dead) [(2, .ptr (2, 0) [] 0 0 1 0), (5, .t (.v (.bool named))), (6, .t (.v (.bool element))), (22, .t (.v (.int .i64 p.Kind))), (37, .t (.v (.bool x)))]) (putR (List.replicate 75 []) [(2, [.mem [[.v (.int .i64 p.Kind), .v (.int .i64 p.N), .v (.string p.Pre), .v (.string p.Local), .v (.string p.Val)]] 0 false])])) := by
 intro named element p x
 have k0 := @k_impl_predOk_r16.eq_1; have k1 := @k_impl_predOk_r6.eq_1; have f0 := @impl_predOk_j16.eq_1; have g0 := impl_nameOk_ok; have g1 := impl_valOk_ok
 exact gs
theorem impl_predOk_j4_ok : ∀ (named : Bool) (element : Bool) (p : GPred), Ok (impl_predOk_j4 named element p) e_impl_predOk (ev FTA c_impl_predOk k_impl_predOk_r4 [] (putS (List.replicate 75 .dead) [(2, .ptr (2, 0) [] 0 0 1 0), (5, .t (.v (.bool named))), (6, .t (.v (.bool element)))]) (putR (List.replicate 75 []) [(2, [.mem [[.v (.int .i64 p.Kind), .v (.int .i64 p.N), .v (.string p.Pre), .v (.string p.Local), .v (.string p.Val)]] 0 false])])) := by
 intro named element p
 have k0 := @k_impl_predOk_r4.eq_1; have f0 := @impl_predOk_j4.eq_1; have g0 := impl_in_ok; have t0 := impl_predOk_j16_ok
 exact gs
theorem impl_predOk_j2_ok : ∀ (kind : Int) (named : Bool) (p : GPred), Ok (impl_predOk_j2 kind named p) e_impl_predOk (ev FTA c_impl_predOk k_impl_predOk_r2 [] (putS (List.replicate 75 .dead) [(1, .t (.v (.int .i64 kind))), (2, .ptr (2, 0) [] 0 0 1 0), (5, .t (.v (.bool named)))]) (putR (List.replicate 75 []) [(2, [.mem [[.v (.int .i64 p.Kind), .v (.int .i64 p.N), .v (.string p.Pre), .v (.string p.Local), .v (.string p.Val)]] 0 false])])) := by
 intro kind named p
 have k0 := @k_impl_predOk_r2.eq_1; have f0 := @impl_predOk_j2.eq_1; have t0 := impl_predOk_j4_ok
 exact gs
theorem impl_predOk_ok : ∀ (p : GPred) (kind : Int), Ok (impl_predOk p kind) e_impl_predOk (dn FTA n_impl_predOk [.agg ((GPred.row p).map .t), .t (.v (.int .i64 kind))]) := by
 intro p kind
 rw [den_ev FTA (fn := k_impl_predOk) rfl (xN rfl rfl _) (lB rfl)]
 have k0 := @k_impl_predOk.eq_1; have f0 := @impl_predOk.eq_1; have t0 := impl_predOk_j2_ok
 exact gs
theorem impl_stepOk_1_ok : ∀ (p : GPred) (a1 : GStp), Ok (impl_stepOk_1 p a1) e_impl_stepOk_1 (dn FTA n_impl_stepOk_1 [.agg ((GPred.row p).map .t), .lp [.v (.bool a1.Deep), .v (.int .i64 a1.Kind), .v (.string a1.Pre), .v (.string a1.Local), .sl false (a1.Preds.map GPred.row)] 0]) := by
 intro p a1
 rw [den_ev FTA (fn := k_impl_stepOk_1) rfl (xN rfl rfl _) (lB rfl)]
 have k0 := @k_impl_stepOk_1.eq_1; have f0 := @impl_stepOk_1.eq_1; have g0 := impl_predOk_ok
 exact gs
theorem slices_IndexFunc_Pred_stepOk_1_l6_ok (s : List GPred) : ∀ (x1 : Int) (f : GStp), Ok (slices_IndexFunc_Pred_stepOk_1_l6 s x1 f) e_slices_IndexFunc_Pred_stepOk_1 (ev FTA c_slices_IndexFunc_Pred_stepOk_1 (.loop k_slices_IndexFunc_Pred_l6) [.lv 0, .th k_slices_IndexFunc_Pred_r2] (putS (List.replicate 19 .dead) [(0, .t (.sl false (s.map GPred.row))), (1, .fn n_impl_stepOk_1 [.ptr (1, 0) [] 0 0 1 0]), (7, .t (.v (.int .i64 (lenL s)))), (8, .t (.v (.int .i64 x1)))]) (putR (List.replicate 19 []) [(1, [.mem [[.v (.bool f.Deep), .v (.int .i64 f.Kind), .v (.string f.Pre), .v (.string f.Local), .sl false (f.Preds.map GPred.row)]] 0 true])])) := by
 unfold Ok
 refine slices_IndexFunc_Pred_stepOk_1_l6.partial_correctness s _ ?_
 intro F ih x1 f
 show Ok _ _ _
 have ih : ∀ (x1 : Int) (f : GStp), Ok (F x1 f) _ _ := ih
 rw [ev_loop]
 have k0 := @k_slices_IndexFunc_Pred_l6.eq_1; have k1 := @k_slices_IndexFunc_Pred_r2.eq_1; have g0 := impl_stepOk_1_ok; have t0 := ih
 exact gs
theorem slices_IndexFunc_Pred_stepOk_1_ok : ∀ (s : List GPred) (fc0 : GStp), Ok (slices_IndexFunc_Pred_stepOk_1 s fc0) e_slices_IndexFunc_Pred_stepOk_1 (dn FTA n_slices_IndexFunc_Pred [.t (.sl false (s.map GPred.row)), .fn n_impl_stepOk_1 [.lp [.v (.bool fc0.Deep), .v (.int .i64 fc0.Kind), .v (.string fc0.Pre), .v (.string fc0.Local), .sl false (fc0.Preds.map GPred.row)] 0]]) := by
 intro s fc0
 rw [den_ev FTA (fn := k_slices_IndexFunc_Pred) rfl (xN rfl rfl _) (lB rfl)]
 have k0 := @k_slices_IndexFunc_Pred.eq_1; have f0 := @slices_IndexFunc_Pred_stepOk_1.eq_1; have t0 := slices_IndexFunc_Pred_stepOk_1_l6_ok
 exact gs
theorem slices_ContainsFunc_Pred_stepOk_1_ok : ∀ (s : List GPred) (fc0 : GStp), Ok (slices_ContainsFunc_Pred_stepOk_1 s fc0) e_slices_ContainsFunc_Pred_stepOk_1 (dn FTA n_slices_ContainsFunc_Pred [.t (.sl false (s.map GPred.row)), .fn n_impl_stepOk_1 [.lp [.v (.bool fc0.Deep), .v (.int .i64 fc0.Kind), .v (.string fc0.Pre), .v (.string fc0.Local), .sl false (fc0.Preds.map GPred.row)] 0]]) := by
 intro s fc0
 rw [den_ev FTA (fn := k_slices_ContainsFunc_Pred) rfl (xN rfl rfl _) (lB rfl)]
 have k0 := @k_slices_ContainsFunc_Pred.eq_1; have f0 := @slices_ContainsFunc_Pred_stepOk_1.eq_1; have g0 := slices_IndexFunc_Pred_stepOk_1_ok
 exact gs
theorem impl_stepOk_j22_ok : ∀ (end1 : Bool) (r : Bool × GStp) (x : Bool) (sDeep : Bool), Ok (impl_stepOk_j22 end1 r x sDeep) e_impl_stepOk (ev FTA c_impl_stepOk k_impl_stepOk_r22 [.lv 0, .th k_impl_stepOk_r12] (putS (List.replicate 87 .dead) [(2, .ptr (2, 0) [] 0 0 1 0), (5, .t (.v (.bool end1))), (29, .t (.v (.int .i64 r.2.Kind))), (37, .t (.v (.bool x)))]) (putR (List.replicate 87 []) [(2, [.mem [[.v (.bool sDeep), .v (.int .i64 r.2.Kind), .v (.string r.2.Pre), .v (.string r.2.Local), .sl false (r.2.Preds.map GPred.row)]] 0 false])])) := by
 intro end1 r x sDeep
 have k0 := @k_impl_stepOk_r22.eq_1; have k1 := @k_impl_stepOk_r12.eq_1; have f0 := @impl_stepOk_j22.eq_1; have g0 := impl_PlainOk_ok; have g1 := impl_nameOk_ok
 exact gs
theorem impl_stepOk_j10_ok : ∀ (end1 : Bool) (sDeep : Bool) (r : Bool × GStp), Ok (impl_stepOk_j10 end1 sDeep r) e_impl_stepOk (ev FTA c_impl_stepOk k_impl_stepOk_r10 [] (putS (List.replicate 87 .dead) [(2, .ptr (2, 0) [] 0 0 1 0), (5, .t (.v (.bool end1)))]) (putR (List.replicate 87 []) [(2, [.mem [[.v (.bool sDeep), .v (.int .i64 r.2.Kind), .v (.string r.2.Pre), .v (.string r.2.Local), .sl false (r.2.Preds.map GPred.row)]] 0 false])])) := by
 intro end1 sDeep r
 have k0 := @k_impl_stepOk_r10.eq_1; have f0 := @impl_stepOk_j10.eq_1; have g0 := impl_nameOk_ok; have t0 := impl_stepOk_j22_ok
 exact gs
end TT
