import Derived.Test.YtjljocncnibofaaGreatDoorTLLd
set_option maxHeartbeats 40000000
set_option linter.unusedVariables false
set_option linter.unusedSimpArgs false
set_option linter.defProp false
set_option maxRecDepth 100000
namespace TT
open Go
open Nat (reduceAdd reduceSub reduceMul reduceLeDiff reduceLT reduceEqDiff)
theorem impl_SignAt_ok : ∀ (s : ByteArray) (at1 : Int), Ok (impl_SignAt s at1) e_impl_SignAt (dn FTA n_impl_SignAt [.t (.v (.string s)), .t (.v (.int .i64 at1))]) := by
 intro s at1
 rw [den_ev FTA (fn := k_impl_SignAt) rfl (xN rfl rfl _) (lB rfl)]
 have k0 := @k_impl_SignAt.eq_1; have f0 := @impl_SignAt.eq_1; have g0 := impl_in_ok; have g1 := unicode_utf8_DecodeRuneInString_ok
 exact gs
theorem impl_inAny_1_ok : ∀ (r : GArr2Int) (a1 : Int), Ok (impl_inAny_1 r a1) e_impl_inAny_1 (dn FTA n_impl_inAny_1 [.agg ((GArr2Int.row r).map .t), .lp [.v (.int .i64 a1)] 0]) := by
 intro r a1
 rw [den_ev FTA (fn := k_impl_inAny_1) rfl (xN rfl rfl _) (lB rfl)]
 have k0 := @k_impl_inAny_1.eq_1; have f0 := @impl_inAny_1.eq_1; have g0 := impl_in_ok
 exact gs
theorem slices_IndexFunc_A2int_inAny_1_l6_ok (s : List GArr2Int) : ∀ (x1 : Int) (f : Int), Ok (slices_IndexFunc_A2int_inAny_1_l6 s x1 f) e_slices_IndexFunc_A2int_inAny_1 (ev FTA c_slices_IndexFunc_A2int_inAny_1 (.loop k_slices_IndexFunc_A2int_l6) [.lv 0, .th k_slices_IndexFunc_A2int_r2] (putS (List.replicate 19 .dead) [(0, .t (.sl false (s.map GArr2Int.row))), (1, .fn n_impl_inAny_1 [.ptr (1, 0) [] 0 0 1 0]), (7, .t (.v (.int .i64 (lenL s)))), (8, .t (.v (.int .i64 x1)))]) (putR (List.replicate 19 []) [(1, [.mem [[.v (.int .i64 f)]] 0 true])])) := by
 unfold Ok
 refine slices_IndexFunc_A2int_inAny_1_l6.partial_correctness s _ ?_
 intro F ih x1 f
 show Ok _ _ _
 have ih : ∀ (x1 : Int) (f : Int), Ok (F x1 f) _ _ := ih
 rw [ev_loop]
 have k0 := @k_slices_IndexFunc_A2int_l6.eq_1; have k1 := @k_slices_IndexFunc_A2int_r2.eq_1; have g0 := impl_inAny_1_ok; have t0 := ih
 exact gs
theorem slices_IndexFunc_A2int_inAny_1_ok : ∀ (s : List GArr2Int) (fc0 : Int), Ok (slices_IndexFunc_A2int_inAny_1 s fc0) e_slices_IndexFunc_A2int_inAny_1 (dn FTA n_slices_IndexFunc_A2int [.t (.sl false (s.map GArr2Int.row)), .fn n_impl_inAny_1 [.lp [.v (.int .i64 fc0)] 0]]) := by
 intro s fc0
 rw [den_ev FTA (fn := k_slices_IndexFunc_A2int) rfl (xN rfl rfl _) (lB rfl)]
 have k0 := @k_slices_IndexFunc_A2int.eq_1; have f0 := @slices_IndexFunc_A2int_inAny_1.eq_1; have t0 := slices_IndexFunc_A2int_inAny_1_l6_ok
 exact gs
theorem slices_ContainsFunc_A2int_inAny_1_ok : ∀ (s : List GArr2Int) (fc0 : Int), Ok (slices_ContainsFunc_A2int_inAny_1 s fc0) e_slices_ContainsFunc_A2int_inAny_1 (dn FTA n_slices_ContainsFunc_A2int [.t (.sl false (s.map GArr2Int.row)), .fn n_impl_inAny_1 [.lp [.v (.int .i64 fc0)] 0]]) := by
 intro s fc0
 rw [den_ev FTA (fn := k_slices_ContainsFunc_A2int) rfl (xN rfl rfl _) (lB rfl)]
 have k0 := @k_slices_ContainsFunc_A2int.eq_1; have f0 := @slices_ContainsFunc_A2int_inAny_1.eq_1; have g0 := slices_IndexFunc_A2int_inAny_1_ok
 exact gs
theorem impl_inAny_ok : ∀ (n : Int) (ranges : List GArr2Int), Ok (impl_inAny n ranges) e_impl_inAny (dn FTA n_impl_inAny [.t (.v (.int .i64 n)), .t (.sl false (ranges.map GArr2Int.row))]) := by
 intro n ranges
 rw [den_ev FTA (fn := k_impl_inAny) rfl (xN rfl rfl _) (lB rfl)]
 have k0 := @k_impl_inAny.eq_1; have f0 := @impl_inAny.eq_1; have g0 := slices_ContainsFunc_A2int_inAny_1_ok
 exact gs
theorem impl_IsSign_ok : ∀ (n : Int), Ok (impl_IsSign n) e_impl_IsSign (dn FTA n_impl_IsSign [.t (.v (.int .i64 n))]) := by
 intro n
 rw [den_ev FTA (fn := k_impl_IsSign) rfl (xN rfl rfl _) (lB rfl)]
 have k0 := @k_impl_IsSign.eq_1; have f0 := @impl_IsSign.eq_1; have g0 := impl_inAny_ok
 exact gs
theorem impl_signsOk_l6_ok (s : ByteArray) : ∀ (at1 : Int), Ok (impl_signsOk_l6 s at1) e_impl_signsOk (ev FTA c_impl_signsOk (.loop k_impl_signsOk_l6) [.lv 0, .th k_impl_signsOk_r2] (putS (List.replicate 26 .dead) [(0, .t (.v (.string s))), (3, .t (.v (.int .i64 at1)))]) (putR (List.replicate 26 []) [])) := by
 unfold Ok
 refine impl_signsOk_l6.partial_correctness s _ ?_
 intro F ih at1
 show Ok _ _ _
 have ih : ∀ (at1 : Int), Ok (F at1) _ _ := ih
 rw [ev_loop]
 have k0 := @k_impl_signsOk_l6.eq_1; have k1 := @k_impl_signsOk_r2.eq_1; have g0 := impl_SignAt_ok; have g1 := impl_IsSign_ok; have t0 := ih
 exact gs
theorem impl_signsOk_ok : ∀ (s : ByteArray), Ok (impl_signsOk s) e_impl_signsOk (dn FTA n_impl_signsOk [.t (.v (.string s))]) := by
 intro s
 rw [den_ev FTA (fn := k_impl_signsOk) rfl (xN rfl rfl _) (lB rfl)]
 have k0 := @k_impl_signsOk.eq_1; have f0 := @impl_signsOk.eq_1; have t0 := impl_signsOk_l6_ok
 exact gs
theorem impl_TextOk_ok : ∀ (s : ByteArray), Ok (impl_TextOk s) e_impl_TextOk (dn FTA n_impl_TextOk [.t (.v (.string s))]) := by
 intro s
 rw [den_ev FTA (fn := k_impl_TextOk) rfl (xN rfl rfl _) (lB rfl)]
 have k0 := @k_impl_TextOk.eq_1; have f0 := @impl_TextOk.eq_1; have g0 := impl_signsOk_ok
 exact gs
theorem strings_Contains_ok : ∀ (s : ByteArray) (t : ByteArray), Ok (strings_Contains s t) e_strings_Contains (dn FTA n_strings_Contains [.t (.v (.string s)), .t (.v (.string t))]) := by
 intro s t r hr
 exact den_ext FTA.ft (xOf FTA) (x_contains_ok s t (e := e_strings_Contains) (fun _ => rfl) hr)
theorem internal_stringslite_HasSuffix_ok : ∀ (s : ByteArray) (suffix : ByteArray), Ok (internal_stringslite_HasSuffix s suffix) e_internal_stringslite_HasSuffix (dn FTA n_internal_stringslite_HasSuffix [.t (.v (.string s)), .t (.v (.string suffix))]) := by
 intro s suffix
 rw [den_ev FTA (fn := k_internal_stringslite_HasSuffix) rfl (xN rfl rfl _) (lB rfl)]
 have k0 := @k_internal_stringslite_HasSuffix.eq_1; have f0 := @internal_stringslite_HasSuffix.eq_1
 exact gs
theorem strings_HasSuffix_ok : ∀ (s : ByteArray) (suffix : ByteArray), Ok (strings_HasSuffix s suffix) e_strings_HasSuffix (dn FTA n_strings_HasSuffix [.t (.v (.string s)), .t (.v (.string suffix))]) := by
 intro s suffix
 rw [den_ev FTA (fn := k_strings_HasSuffix) rfl (xN rfl rfl _) (lB rfl)]
 have k0 := @k_strings_HasSuffix.eq_1; have f0 := @strings_HasSuffix.eq_1; have g0 := internal_stringslite_HasSuffix_ok
 exact gs
theorem impl_noteOk_ok : ∀ (s : ByteArray), Ok (impl_noteOk s) e_impl_noteOk (dn FTA n_impl_noteOk [.t (.v (.string s))]) := by
 intro s
 rw [den_ev FTA (fn := k_impl_noteOk) rfl (xN rfl rfl _) (lB rfl)]
 have k0 := @k_impl_noteOk.eq_1; have f0 := @impl_noteOk.eq_1; have g0 := impl_TextOk_ok; have g1 := strings_Contains_ok; have g2 := strings_HasSuffix_ok
 exact gs
theorem impl_IsStart_ok : ∀ (n : Int), Ok (impl_IsStart n) e_impl_IsStart (dn FTA n_impl_IsStart [.t (.v (.int .i64 n))]) := by
 intro n
 rw [den_ev FTA (fn := k_impl_IsStart) rfl (xN rfl rfl _) (lB rfl)]
 have k0 := @k_impl_IsStart.eq_1; have f0 := @impl_IsStart.eq_1; have g0 := impl_inAny_ok
 exact gs
theorem impl_IsPart_ok : ∀ (n : Int), Ok (impl_IsPart n) e_impl_IsPart (dn FTA n_impl_IsPart [.t (.v (.int .i64 n))]) := by
 intro n
 rw [den_ev FTA (fn := k_impl_IsPart) rfl (xN rfl rfl _) (lB rfl)]
 have k0 := @k_impl_IsPart.eq_1; have f0 := @impl_IsPart.eq_1; have g0 := impl_IsStart_ok; have g1 := impl_inAny_ok
 exact gs
theorem impl_PlainOk_l6_ok (s : ByteArray) : ∀ (at1 : Int), Ok (impl_PlainOk_l6 s at1) e_impl_PlainOk (ev FTA c_impl_PlainOk (.loop k_impl_PlainOk_l6) [.lv 0, .th k_impl_PlainOk_r2] (putS (List.replicate 38 .dead) [(0, .t (.v (.string s))), (3, .t (.v (.int .i64 at1)))]) (putR (List.replicate 38 []) [])) := by
 unfold Ok
 refine impl_PlainOk_l6.partial_correctness s _ ?_
 intro F ih at1
 show Ok _ _ _
 have ih : ∀ (at1 : Int), Ok (F at1) _ _ := ih
 rw [ev_loop]
 have k0 := @k_impl_PlainOk_l6.eq_1; have k1 := @k_impl_PlainOk_r2.eq_1; have g0 := impl_SignAt_ok; have g1 := impl_IsStart_ok; have g2 := impl_IsPart_ok; have g3 := impl_in_ok; have t0 := ih
 exact gs
theorem impl_PlainOk_ok : ∀ (s : ByteArray), Ok (impl_PlainOk s) e_impl_PlainOk (dn FTA n_impl_PlainOk [.t (.v (.string s))]) := by
 intro s
 rw [den_ev FTA (fn := k_impl_PlainOk) rfl (xN rfl rfl _) (lB rfl)]
 have k0 := @k_impl_PlainOk.eq_1; have f0 := @impl_PlainOk.eq_1; have t0 := impl_PlainOk_l6_ok
 exact gs
theorem strings_EqualFold_ok : ∀ (s : ByteArray) (t : ByteArray), Ok (strings_EqualFold s t) e_strings_EqualFold (dn FTA n_strings_EqualFold [.t (.v (.string s)), .t (.v (.string t))]) := by
 intro s t r hr
 exact den_ext FTA.ft (xOf FTA) (x_fold_ok s t (e := e_strings_EqualFold) (fun _ => rfl) hr)
theorem impl_IsBlank_ok : ∀ (n : Int), Ok (impl_IsBlank n) e_impl_IsBlank (dn FTA n_impl_IsBlank [.t (.v (.int .i64 n))]) := by
 intro n
 rw [den_ev FTA (fn := k_impl_IsBlank) rfl (xN rfl rfl _) (lB rfl)]
 have k0 := @k_impl_IsBlank.eq_1; have f0 := @impl_IsBlank.eq_1
 exact gs
theorem impl_toldOk_ok : ∀ (local1 : ByteArray) (s : ByteArray), Ok (impl_toldOk local1 s) e_impl_toldOk (dn FTA n_impl_toldOk [.t (.v (.string local1)), .t (.v (.string s))]) := by
 intro local1 s
 rw [den_ev FTA (fn := k_impl_toldOk) rfl (xN rfl rfl _) (lB rfl)]
 have k0 := @k_impl_toldOk.eq_1; have f0 := @impl_toldOk.eq_1; have g0 := impl_PlainOk_ok; have g1 := strings_EqualFold_ok; have g2 := impl_TextOk_ok; have g3 := strings_Contains_ok; have g4 := impl_IsBlank_ok
 exact gs
theorem impl_leafOk_j2_ok : ∀ (n : GNode), Ok (impl_leafOk_j2 n) e_impl_leafOk (ev FTA c_impl_leafOk k_impl_leafOk_r2 [] (putS (List.replicate 63 .dead) [(1, .ptr (1, 0) [] 0 0 1 0)]) (putR (List.replicate 63 []) [(1, [.mem [[.v (.int .i64 n.Kind), .v (.string n.Pre), .v (.string n.Local), .v (.string n.Uri), .sl false (n.Decls.map GDecl.row), .sl false (n.Attrs.map GAttr.row), .sl false (n.Kids.map (GNode.row false)), .v (.string n.Text)]] 0 false])])) := by
 intro n
 have k0 := @k_impl_leafOk_r2.eq_1; have f0 := @impl_leafOk_j2.eq_1; have g0 := impl_TextOk_ok; have g1 := impl_noteOk_ok; have g2 := impl_toldOk_ok
 exact gs
theorem impl_leafOk_ok : ∀ (n : GNode), Ok (impl_leafOk n) e_impl_leafOk (dn FTA n_impl_leafOk [.agg (((GNode.row false) n).map .t)]) := by
 intro n
 rw [den_ev FTA (fn := k_impl_leafOk) rfl (xN rfl rfl _) (lB rfl)]
 have k0 := @k_impl_leafOk.eq_1; have f0 := @impl_leafOk.eq_1; have t0 := impl_leafOk_j2_ok
 exact gs
theorem internal_stringslite_HasPrefix_ok : ∀ (s : ByteArray) (prefix1 : ByteArray), Ok (internal_stringslite_HasPrefix s prefix1) e_internal_stringslite_HasPrefix (dn FTA n_internal_stringslite_HasPrefix [.t (.v (.string s)), .t (.v (.string prefix1))]) := by
 intro s prefix1
 rw [den_ev FTA (fn := k_internal_stringslite_HasPrefix) rfl (xN rfl rfl _) (lB rfl)]
 have k0 := @k_internal_stringslite_HasPrefix.eq_1; have f0 := @internal_stringslite_HasPrefix.eq_1
 exact gs
theorem strings_HasPrefix_ok : ∀ (s : ByteArray) (prefix1 : ByteArray), Ok (strings_HasPrefix s prefix1) e_strings_HasPrefix (dn FTA n_strings_HasPrefix [.t (.v (.string s)), .t (.v (.string prefix1))]) := by
 intro s prefix1
 rw [den_ev FTA (fn := k_strings_HasPrefix) rfl (xN rfl rfl _) (lB rfl)]
 have k0 := @k_strings_HasPrefix.eq_1; have f0 := @strings_HasPrefix.eq_1; have g0 := internal_stringslite_HasPrefix_ok
 exact gs
end TT
