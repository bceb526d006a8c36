import Derived.Test.YtejfgkcjhmmjkaaGreatDoorTLLa
set_option maxHeartbeats 2000000
set_option linter.unusedVariables false
set_option linter.unusedSimpArgs false
set_option linter.defProp false
set_option maxRecDepth 100000
namespace TT
open Go
open Nat (reduceAdd reduceSub reduceMul reduceLeDiff reduceLT reduceEqDiff)
theorem slices_IndexFunc_A2int_inAny_1_l6_ok (s : List GArr2Int) : ∀ (x1 : Int) (f : Int), Ok (slices_IndexFunc_A2int_inAny_1_l6 s x1 f) e_slices_IndexFunc_A2int_inAny_1 (ev FTA c_slices_IndexFunc_A2int_inAny_1 (.loop k_slices_IndexFunc_A2int_l6) [.lv 0, .th k_slices_IndexFunc_A2int_r2] (putS (List.replicate 19 .dead) [(0, .t (.sl false (s.map GArr2Int.row))), (1, .fn n_impl_inAny_1 [.ptr (1, 0) [] 0 0 1 0]), (7, .t (.v (.int .i64 (lenL s)))), (8, .t (.v (.int .i64 x1)))]) (putR (List.replicate 19 []) [(1, [.mem [[.v (.int .i64 f)]] 0 true])])) := by
 unfold Ok
 refine slices_IndexFunc_A2int_inAny_1_l6.partial_correctness s _ ?_
 intro F ih x1 f
 show Ok _ _ _
 have ih : ∀ (x1 : Int) (f : Int), Ok (F x1 f) _ _ := ih
 rw [ev_loop]
 have k0 := @k_slices_IndexFunc_A2int_l6.eq_1; have k1 := @k_slices_IndexFunc_A2int_r2.eq_1; have g0 := impl_inAny_1_ok; have t0 := ih
 exact gs
theorem slices_IndexFunc_A2int_inAny_1_ok : ∀ (s : List GArr2Int) (fc0 : Int), Ok (slices_IndexFunc_A2int_inAny_1 s fc0) e_slices_IndexFunc_A2int_inAny_1 (dn FTA n_slices_IndexFunc_A2int [.t (.sl false (s.map GArr2Int.row)), .fn n_impl_inAny_1 [.lp [.v (.int .i64 fc0)] 0]]) := by
 intro s fc0
 rw [den_ev FTA (fn := k_slices_IndexFunc_A2int) rfl (xN rfl rfl _) (lB rfl)]
 have k0 := @k_slices_IndexFunc_A2int.eq_1; have f0 := @slices_IndexFunc_A2int_inAny_1.eq_1; have t0 := slices_IndexFunc_A2int_inAny_1_l6_ok
 exact gs
theorem slices_ContainsFunc_A2int_inAny_1_ok : ∀ (s : List GArr2Int) (fc0 : Int), Ok (slices_ContainsFunc_A2int_inAny_1 s fc0) e_slices_ContainsFunc_A2int_inAny_1 (dn FTA n_slices_ContainsFunc_A2int [.t (.sl false (s.map GArr2Int.row)), .fn n_impl_inAny_1 [.lp [.v (.int .i64 fc0)] 0]]) := by
 intro s fc0
 rw [den_ev FTA (fn := k_slices_ContainsFunc_A2int) rfl (xN rfl rfl _) (lB rfl)]
 have k0 := @k_slices_ContainsFunc_A2int.eq_1; have f0 := @slices_ContainsFunc_A2int_inAny_1.eq_1; have g0 := slices_IndexFunc_A2int_inAny_1_ok
 exact gs
theorem impl_inAny_ok : ∀ (n : Int) (ranges : List GArr2Int), Ok (impl_inAny n ranges) e_impl_inAny (dn FTA n_impl_inAny [.t (.v (.int .i64 n)), .t (.sl false (ranges.map GArr2Int.row))]) := by
 intro n ranges
 rw [den_ev FTA (fn := k_impl_inAny) rfl (xN rfl rfl _) (lB rfl)]
 have k0 := @k_impl_inAny.eq_1; have f0 := @impl_inAny.eq_1; have g0 := slices_ContainsFunc_A2int_inAny_1_ok
 exact gs
theorem impl_IsSign_ok : ∀ (n : Int), Ok (impl_IsSign n) e_impl_IsSign (dn FTA n_impl_IsSign [.t (.v (.int .i64 n))]) := by
 intro n
 rw [den_ev FTA (fn := k_impl_IsSign) rfl (xN rfl rfl _) (lB rfl)]
 have k0 := @k_impl_IsSign.eq_1; have f0 := @impl_IsSign.eq_1; have g0 := impl_inAny_ok
 exact gs
theorem impl_signsOk_l6_ok (s : ByteArray) : ∀ (at1 : Int), Ok (impl_signsOk_l6 s at1) e_impl_signsOk (ev FTA c_impl_signsOk (.loop k_impl_signsOk_l6) [.lv 0, .th k_impl_signsOk_r2] (putS (List.replicate 26 .dead) [(0, .t (.v (.string s))), (3, .t (.v (.int .i64 at1)))]) (putR (List.replicate 26 []) [])) := by
 unfold Ok
 refine impl_signsOk_l6.partial_correctness s _ ?_
 intro F ih at1
 show Ok _ _ _
 have ih : ∀ (at1 : Int), Ok (F at1) _ _ := ih
 rw [ev_loop]
 have k0 := @k_impl_signsOk_l6.eq_1; have k1 := @k_impl_signsOk_r2.eq_1; have g0 := impl_SignAt_ok; have g1 := impl_IsSign_ok; have t0 := ih
 exact gs
theorem impl_signsOk_ok : ∀ (s : ByteArray), Ok (impl_signsOk s) e_impl_signsOk (dn FTA n_impl_signsOk [.t (.v (.string s))]) := by
 intro s
 rw [den_ev FTA (fn := k_impl_signsOk) rfl (xN rfl rfl _) (lB rfl)]
 have k0 := @k_impl_signsOk.eq_1; have f0 := @impl_signsOk.eq_1; have t0 := impl_signsOk_l6_ok
 exact gs
theorem impl_IsStart_ok : ∀ (n : Int), Ok (impl_IsStart n) e_impl_IsStart (dn FTA n_impl_IsStart [.t (.v (.int .i64 n))]) := by
 intro n
 rw [den_ev FTA (fn := k_impl_IsStart) rfl (xN rfl rfl _) (lB rfl)]
 have k0 := @k_impl_IsStart.eq_1; have f0 := @impl_IsStart.eq_1; have g0 := impl_inAny_ok
 exact gs
theorem impl_IsPart_ok : ∀ (n : Int), Ok (impl_IsPart n) e_impl_IsPart (dn FTA n_impl_IsPart [.t (.v (.int .i64 n))]) := by
 intro n
 rw [den_ev FTA (fn := k_impl_IsPart) rfl (xN rfl rfl _) (lB rfl)]
 have k0 := @k_impl_IsPart.eq_1; have f0 := @impl_IsPart.eq_1; have g0 := impl_IsStart_ok; have g1 := impl_inAny_ok
 exact gs
theorem impl_PlainOk_l6_ok (s : ByteArray) : ∀ (at1 : Int), Ok (impl_PlainOk_l6 s at1) e_impl_PlainOk (ev FTA c_impl_PlainOk (.loop k_impl_PlainOk_l6) [.lv 0, .th k_impl_PlainOk_r2] (putS (List.replicate 38 .dead) [(0, .t (.v (.string s))), (3, .t (.v (.int .i64 at1)))]) (putR (List.replicate 38 []) [])) := by
 unfold Ok
 refine impl_PlainOk_l6.partial_correctness s _ ?_
 intro F ih at1
 show Ok _ _ _
 have ih : ∀ (at1 : Int), Ok (F at1) _ _ := ih
 rw [ev_loop]
 have k0 := @k_impl_PlainOk_l6.eq_1; have k1 := @k_impl_PlainOk_r2.eq_1; have g0 := impl_SignAt_ok; have g1 := impl_IsStart_ok; have g2 := impl_IsPart_ok; have g3 := impl_in_ok; have t0 := ih
 exact gs
theorem impl_PlainOk_ok : ∀ (s : ByteArray), Ok (impl_PlainOk s) e_impl_PlainOk (dn FTA n_impl_PlainOk [.t (.v (.string s))]) := by
 intro s
 rw [den_ev FTA (fn := k_impl_PlainOk) rfl (xN rfl rfl _) (lB rfl)]
 have k0 := @k_impl_PlainOk.eq_1; have f0 := @impl_PlainOk.eq_1; have t0 := impl_PlainOk_l6_ok
 exact gs
theorem impl_ownNames_ok : Ok (impl_ownNames) e_impl_ownNames (dn FTA n_impl_ownNames []) := by
 rw [den_ev FTA (fn := k_impl_ownNames) rfl (xN rfl rfl _) (lB rfl)]
 have k0 := @k_impl_ownNames.eq_1; have f0 := @impl_ownNames.eq_1
 exact gs
theorem slices_Index_string_l6_ok (s : List ByteArray) (v : ByteArray) : ∀ (x1 : Int), Ok (slices_Index_string_l6 s v x1) e_slices_Index_string (ev FTA c_slices_Index_string (.loop k_slices_Index_string_l6) [.lv 0, .th k_slices_Index_string_r2] (putS (List.replicate 19 .dead) [(0, .t (.sl false (s.map rS))), (1, .t (.v (.string v))), (7, .t (.v (.int .i64 (lenL s)))), (8, .t (.v (.int .i64 x1)))]) (putR (List.replicate 19 []) [])) := by
 unfold Ok
 refine slices_Index_string_l6.partial_correctness s v _ ?_
 intro F ih x1
 show Ok _ _ _
 have ih : ∀ (x1 : Int), Ok (F x1) _ _ := ih
 rw [ev_loop]
 have k0 := @k_slices_Index_string_l6.eq_1; have k1 := @k_slices_Index_string_r2.eq_1; have t0 := ih
 exact gs
theorem slices_Index_string_ok : ∀ (s : List ByteArray) (v : ByteArray), Ok (slices_Index_string s v) e_slices_Index_string (dn FTA n_slices_Index_string [.t (.sl false (s.map rS)), .t (.v (.string v))]) := by
 intro s v
 rw [den_ev FTA (fn := k_slices_Index_string) rfl (xN rfl rfl _) (lB rfl)]
 have k0 := @k_slices_Index_string.eq_1; have f0 := @slices_Index_string.eq_1; have t0 := slices_Index_string_l6_ok
 exact gs
theorem slices_Contains_string_ok : ∀ (s : List ByteArray) (v : ByteArray), Ok (slices_Contains_string s v) e_slices_Contains_string (dn FTA n_slices_Contains_string [.t (.sl false (s.map rS)), .t (.v (.string v))]) := by
 intro s v
 rw [den_ev FTA (fn := k_slices_Contains_string) rfl (xN rfl rfl _) (lB rfl)]
 have k0 := @k_slices_Contains_string.eq_1; have f0 := @slices_Contains_string.eq_1; have g0 := slices_Index_string_ok
 exact gs
theorem impl_TextOk_ok : ∀ (s : ByteArray), Ok (impl_TextOk s) e_impl_TextOk (dn FTA n_impl_TextOk [.t (.v (.string s))]) := by
 intro s
 rw [den_ev FTA (fn := k_impl_TextOk) rfl (xN rfl rfl _) (lB rfl)]
 have k0 := @k_impl_TextOk.eq_1; have f0 := @impl_TextOk.eq_1; have g0 := impl_signsOk_ok
 exact gs
theorem impl_entAt_1_ok : ∀ (e : GEnt) (a1 : ByteArray), Ok (impl_entAt_1 e a1) e_impl_entAt_1 (dn FTA n_impl_entAt_1 [.agg ((GEnt.row e).map .t), .lp [.v (.string a1)] 0]) := by
 intro e a1
 rw [den_ev FTA (fn := k_impl_entAt_1) rfl (xN rfl rfl _) (lB rfl)]
 have k0 := @k_impl_entAt_1.eq_1; have f0 := @impl_entAt_1.eq_1
 exact gs
theorem slices_IndexFunc_Ent_entAt_1_l6_ok (s : List GEnt) : ∀ (x1 : Int) (f : ByteArray), Ok (slices_IndexFunc_Ent_entAt_1_l6 s x1 f) e_slices_IndexFunc_Ent_entAt_1 (ev FTA c_slices_IndexFunc_Ent_entAt_1 (.loop k_slices_IndexFunc_Ent_l6) [.lv 0, .th k_slices_IndexFunc_Ent_r2] (putS (List.replicate 19 .dead) [(0, .t (.sl false (s.map GEnt.row))), (1, .fn n_impl_entAt_1 [.ptr (1, 0) [] 0 0 1 0]), (7, .t (.v (.int .i64 (lenL s)))), (8, .t (.v (.int .i64 x1)))]) (putR (List.replicate 19 []) [(1, [.mem [[.v (.string f)]] 0 true])])) := by
 unfold Ok
 refine slices_IndexFunc_Ent_entAt_1_l6.partial_correctness s _ ?_
 intro F ih x1 f
 show Ok _ _ _
 have ih : ∀ (x1 : Int) (f : ByteArray), Ok (F x1 f) _ _ := ih
 rw [ev_loop]
 have k0 := @k_slices_IndexFunc_Ent_l6.eq_1; have k1 := @k_slices_IndexFunc_Ent_r2.eq_1; have g0 := impl_entAt_1_ok; have t0 := ih
 exact gs
theorem slices_IndexFunc_Ent_entAt_1_ok : ∀ (s : List GEnt) (fc0 : ByteArray), Ok (slices_IndexFunc_Ent_entAt_1 s fc0) e_slices_IndexFunc_Ent_entAt_1 (dn FTA n_slices_IndexFunc_Ent [.t (.sl false (s.map GEnt.row)), .fn n_impl_entAt_1 [.lp [.v (.string fc0)] 0]]) := by
 intro s fc0
 rw [den_ev FTA (fn := k_slices_IndexFunc_Ent) rfl (xN rfl rfl _) (lB rfl)]
 have k0 := @k_slices_IndexFunc_Ent.eq_1; have f0 := @slices_IndexFunc_Ent_entAt_1.eq_1; have t0 := slices_IndexFunc_Ent_entAt_1_l6_ok
 exact gs
theorem impl_entAt_ok : ∀ (l : List GEnt) (name : ByteArray), Ok (impl_entAt l name) e_impl_entAt (dn FTA n_impl_entAt [.t (.sl false (l.map GEnt.row)), .t (.v (.string name))]) := by
 intro l name
 rw [den_ev FTA (fn := k_impl_entAt) rfl (xN rfl rfl _) (lB rfl)]
 have k0 := @k_impl_entAt.eq_1; have f0 := @impl_entAt.eq_1; have g0 := slices_IndexFunc_Ent_entAt_1_ok
 exact gs
theorem impl_EntsOk_l6_ok (l : List GEnt) : ∀ (x1 : Int), Ok (impl_EntsOk_l6 l x1) e_impl_EntsOk (ev FTA c_impl_EntsOk (.loop k_impl_EntsOk_l6) [.lv 0, .th k_impl_EntsOk_r2] (putS (List.replicate 40 .dead) [(0, .t (.sl false (l.map GEnt.row))), (5, .t (.sl false (l.map GEnt.row))), (6, .t (.v (.int .i64 (lenL l)))), (7, .t (.v (.int .i64 x1)))]) (putR (List.replicate 40 []) [])) := by
 unfold Ok
 refine impl_EntsOk_l6.partial_correctness l _ ?_
 intro F ih x1
 show Ok _ _ _
 have ih : ∀ (x1 : Int), Ok (F x1) _ _ := ih
 rw [ev_loop]
 have k0 := @k_impl_EntsOk_l6.eq_1; have k1 := @k_impl_EntsOk_r2.eq_1; have g0 := impl_PlainOk_ok; have g1 := impl_ownNames_ok; have g2 := slices_Contains_string_ok; have g3 := impl_TextOk_ok; have g4 := impl_entAt_ok; have t0 := ih
 exact gs
theorem impl_EntsOk_ok : ∀ (l : List GEnt), Ok (impl_EntsOk l) e_impl_EntsOk (dn FTA n_impl_EntsOk [.t (.sl false (l.map GEnt.row))]) := by
 intro l
 rw [den_ev FTA (fn := k_impl_EntsOk) rfl (xN rfl rfl _) (lB rfl)]
 have k0 := @k_impl_EntsOk.eq_1; have f0 := @impl_EntsOk.eq_1; have t0 := impl_EntsOk_l6_ok
 exact gs
theorem strings_Cut_ok : ∀ (s : ByteArray) (t : ByteArray), Ok (strings_Cut s t) e_strings_Cut (dn FTA n_strings_Cut [.t (.v (.string s)), .t (.v (.string t))]) := by
 intro s t r hr
 exact den_ext FTA.ft (xOf FTA) (x_cut_ok s t (e := e_strings_Cut) (fun _ => rfl) hr)
theorem internal_stringslite_HasPrefix_ok : ∀ (s : ByteArray) (prefix1 : ByteArray), Ok (internal_stringslite_HasPrefix s prefix1) e_internal_stringslite_HasPrefix (dn FTA n_internal_stringslite_HasPrefix [.t (.v (.string s)), .t (.v (.string prefix1))]) := by
 intro s prefix1
 rw [den_ev FTA (fn := k_internal_stringslite_HasPrefix) rfl (xN rfl rfl _) (lB rfl)]
 have k0 := @k_internal_stringslite_HasPrefix.eq_1; have f0 := @internal_stringslite_HasPrefix.eq_1
 exact gs
theorem internal_stringslite_CutPrefix_ok : ∀ (s : ByteArray) (prefix1 : ByteArray), Ok (internal_stringslite_CutPrefix s prefix1) e_internal_stringslite_CutPrefix (dn FTA n_internal_stringslite_CutPrefix [.t (.v (.string s)), .t (.v (.string prefix1))]) := by
 intro s prefix1
 rw [den_ev FTA (fn := k_internal_stringslite_CutPrefix) rfl (xN rfl rfl _) (lB rfl)]
 have k0 := @k_internal_stringslite_CutPrefix.eq_1; have f0 := @internal_stringslite_CutPrefix.eq_1; have g0 := internal_stringslite_HasPrefix_ok
 exact gs
end TT
