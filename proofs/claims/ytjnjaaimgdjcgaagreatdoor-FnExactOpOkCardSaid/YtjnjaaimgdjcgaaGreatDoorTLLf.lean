import Derived.Test.YtjnjaaimgdjcgaaGreatDoorTLLe
set_option maxHeartbeats 2000000
set_option linter.unusedVariables false
set_option linter.unusedSimpArgs false
set_option linter.defProp false
set_option maxRecDepth 100000
namespace TT
open Go
open Nat (reduceAdd reduceSub reduceMul reduceLeDiff reduceLT reduceEqDiff)
theorem impl_stepOk_ok : ∀ (s : GStp) (last : Bool), Ok (impl_stepOk s last) e_impl_stepOk (dn FTA n_impl_stepOk [.agg (((GStp.row false) s).map .t), .t (.v (.bool last))]) := by
 intro s last
 rw [den_ev FTA (fn := k_impl_stepOk) rfl (xN rfl rfl _) (lB rfl)]
 have k0 := @k_impl_stepOk.eq_1; have f0 := @impl_stepOk.eq_1; have g0 := slices_ContainsFunc_Pred_stepOk_1_ok; have t0 := impl_stepOk_j10_ok
 exact gs
theorem impl_SelOk_l8_ok (s : GSel) : ∀ (x1 : Int), Ok (impl_SelOk_l8 s x1) e_impl_SelOk (ev FTA c_impl_SelOk (.loop k_impl_SelOk_l8) [.lv 0, .th k_impl_SelOk_r4] (putS (List.replicate 41 .dead) [(1, .ptr (1, 0) [] 0 0 1 0), (3, .t (.v (.int .i64 (lenL s.Steps)))), (10, .t (.sl false (s.Steps.map (GStp.row false)))), (11, .t (.v (.int .i64 (lenL s.Steps)))), (12, .t (.v (.int .i64 x1)))]) (putR (List.replicate 41 []) [(1, [.mem [[.v (.string s.Id), .sl false (s.Steps.map (GStp.row false))]] 0 false])])) := by
 unfold Ok
 refine impl_SelOk_l8.partial_correctness s _ ?_
 intro F ih x1
 show Ok _ _ _
 have ih : ∀ (x1 : Int), Ok (F x1) _ _ := ih
 rw [ev_loop]
 have k0 := @k_impl_SelOk_l8.eq_1; have k1 := @k_impl_SelOk_r4.eq_1; have g0 := impl_stepOk_ok; have g1 := impl_valOk_ok; have t0 := ih
 exact gs
theorem impl_SelOk_ok : ∀ (s : GSel), Ok (impl_SelOk s) e_impl_SelOk (dn FTA n_impl_SelOk [.agg (((GSel.row false) s).map .t)]) := by
 intro s
 rw [den_ev FTA (fn := k_impl_SelOk) rfl (xN rfl rfl _) (lB rfl)]
 have k0 := @k_impl_SelOk.eq_1; have f0 := @impl_SelOk.eq_1; have t0 := impl_SelOk_l8_ok
 exact gs
theorem impl_twicePre_1_ok : ∀ (a0 : GDecl) (a1 : GDecl), Ok (impl_twicePre_1 a0 a1) e_impl_twicePre_1 (dn FTA n_impl_twicePre_1 [.agg ((GDecl.row a0).map .t), .lp [.v (.string a1.Pre), .v (.string a1.Uri)] 0]) := by
 intro a0 a1
 rw [den_ev FTA (fn := k_impl_twicePre_1) rfl (xN rfl rfl _) (lB rfl)]
 have k0 := @k_impl_twicePre_1.eq_1; have f0 := @impl_twicePre_1.eq_1
 exact gs
theorem slices_IndexFunc_Decl_twicePre_1_l6_ok (s : List GDecl) : ∀ (x1 : Int) (f : GDecl), Ok (slices_IndexFunc_Decl_twicePre_1_l6 s x1 f) e_slices_IndexFunc_Decl_twicePre_1 (ev FTA c_slices_IndexFunc_Decl_twicePre_1 (.loop k_slices_IndexFunc_Decl_l6) [.lv 0, .th k_slices_IndexFunc_Decl_r2] (putS (List.replicate 19 .dead) [(0, .t (.sl false (s.map GDecl.row))), (1, .fn n_impl_twicePre_1 [.ptr (1, 0) [] 0 0 1 0]), (7, .t (.v (.int .i64 (lenL s)))), (8, .t (.v (.int .i64 x1)))]) (putR (List.replicate 19 []) [(1, [.mem [[.v (.string f.Pre), .v (.string f.Uri)]] 0 true])])) := by
 unfold Ok
 refine slices_IndexFunc_Decl_twicePre_1_l6.partial_correctness s _ ?_
 intro F ih x1 f
 show Ok _ _ _
 have ih : ∀ (x1 : Int) (f : GDecl), Ok (F x1 f) _ _ := ih
 rw [ev_loop]
 have k0 := @k_slices_IndexFunc_Decl_l6.eq_1; have k1 := @k_slices_IndexFunc_Decl_r2.eq_1; have g0 := impl_twicePre_1_ok; have t0 := ih
 exact gs
theorem slices_IndexFunc_Decl_twicePre_1_ok : ∀ (s : List GDecl) (fc0 : GDecl), Ok (slices_IndexFunc_Decl_twicePre_1 s fc0) e_slices_IndexFunc_Decl_twicePre_1 (dn FTA n_slices_IndexFunc_Decl [.t (.sl false (s.map GDecl.row)), .fn n_impl_twicePre_1 [.lp [.v (.string fc0.Pre), .v (.string fc0.Uri)] 0]]) := by
 intro s fc0
 rw [den_ev FTA (fn := k_slices_IndexFunc_Decl) rfl (xN rfl rfl _) (lB rfl)]
 have k0 := @k_slices_IndexFunc_Decl.eq_1; have f0 := @slices_IndexFunc_Decl_twicePre_1.eq_1; have t0 := slices_IndexFunc_Decl_twicePre_1_l6_ok
 exact gs
theorem slices_ContainsFunc_Decl_twicePre_1_ok : ∀ (s : List GDecl) (fc0 : GDecl), Ok (slices_ContainsFunc_Decl_twicePre_1 s fc0) e_slices_ContainsFunc_Decl_twicePre_1 (dn FTA n_slices_ContainsFunc_Decl [.t (.sl false (s.map GDecl.row)), .fn n_impl_twicePre_1 [.lp [.v (.string fc0.Pre), .v (.string fc0.Uri)] 0]]) := by
 intro s fc0
 rw [den_ev FTA (fn := k_slices_ContainsFunc_Decl) rfl (xN rfl rfl _) (lB rfl)]
 have k0 := @k_slices_ContainsFunc_Decl.eq_1; have f0 := @slices_ContainsFunc_Decl_twicePre_1.eq_1; have g0 := slices_IndexFunc_Decl_twicePre_1_ok
 exact gs
theorem impl_twicePre_l6_ok (l : List GDecl) : ∀ (x2 : Int), Ok (impl_twicePre_l6 l x2) e_impl_twicePre (ev FTA c_impl_twicePre (.loop k_impl_twicePre_l6) [.lv 0, .th k_impl_twicePre_r2] (putS (List.replicate 18 .dead) [(0, .t (.sl false (l.map GDecl.row))), (5, .t (.sl false (l.map GDecl.row))), (6, .t (.v (.int .i64 (lenL l)))), (7, .t (.v (.int .i64 x2)))]) (putR (List.replicate 18 []) [])) := by
 unfold Ok
 refine impl_twicePre_l6.partial_correctness l _ ?_
 intro F ih x2
 show Ok _ _ _
 have ih : ∀ (x2 : Int), Ok (F x2) _ _ := ih
 rw [ev_loop]
 have k0 := @k_impl_twicePre_l6.eq_1; have k1 := @k_impl_twicePre_r2.eq_1; have g0 := slices_ContainsFunc_Decl_twicePre_1_ok; have t0 := ih
 exact gs
theorem impl_twicePre_ok : ∀ (l : List GDecl), Ok (impl_twicePre l) e_impl_twicePre (dn FTA n_impl_twicePre [.t (.sl false (l.map GDecl.row))]) := by
 intro l
 rw [den_ev FTA (fn := k_impl_twicePre) rfl (xN rfl rfl _) (lB rfl)]
 have k0 := @k_impl_twicePre.eq_1; have f0 := @impl_twicePre.eq_1; have t0 := impl_twicePre_l6_ok
 exact gs
theorem internal_stringslite_HasPrefix_ok : ∀ (s : ByteArray) (prefix1 : ByteArray), Ok (internal_stringslite_HasPrefix s prefix1) e_internal_stringslite_HasPrefix (dn FTA n_internal_stringslite_HasPrefix [.t (.v (.string s)), .t (.v (.string prefix1))]) := by
 intro s prefix1
 rw [den_ev FTA (fn := k_internal_stringslite_HasPrefix) rfl (xN rfl rfl _) (lB rfl)]
 have k0 := @k_internal_stringslite_HasPrefix.eq_1; have f0 := @internal_stringslite_HasPrefix.eq_1
 exact gs
theorem strings_HasPrefix_ok : ∀ (s : ByteArray) (prefix1 : ByteArray), Ok (strings_HasPrefix s prefix1) e_strings_HasPrefix (dn FTA n_strings_HasPrefix [.t (.v (.string s)), .t (.v (.string prefix1))]) := by
 intro s prefix1
 rw [den_ev FTA (fn := k_strings_HasPrefix) rfl (xN rfl rfl _) (lB rfl)]
 have k0 := @k_strings_HasPrefix.eq_1; have f0 := @strings_HasPrefix.eq_1; have g0 := internal_stringslite_HasPrefix_ok
 exact gs
theorem impl_preOk_ok : ∀ (s : ByteArray), Ok (impl_preOk s) e_impl_preOk (dn FTA n_impl_preOk [.t (.v (.string s))]) := by
 intro s
 rw [den_ev FTA (fn := k_impl_preOk) rfl (xN rfl rfl _) (lB rfl)]
 have k0 := @k_impl_preOk.eq_1; have f0 := @impl_preOk.eq_1; have g0 := impl_PlainOk_ok; have g1 := strings_HasPrefix_ok
 exact gs
theorem impl_uriOk_ok : ∀ (uri : ByteArray) (pre : ByteArray), Ok (impl_uriOk uri pre) e_impl_uriOk (dn FTA n_impl_uriOk [.t (.v (.string uri)), .t (.v (.string pre))]) := by
 intro uri pre
 rw [den_ev FTA (fn := k_impl_uriOk) rfl (xN rfl rfl _) (lB rfl)]
 have k0 := @k_impl_uriOk.eq_1; have f0 := @impl_uriOk.eq_1; have g0 := impl_TextOk_ok
 exact gs
theorem impl_DeclOk_ok : ∀ (d : GDecl), Ok (impl_DeclOk d) e_impl_DeclOk (dn FTA n_impl_DeclOk [.agg ((GDecl.row d).map .t)]) := by
 intro d
 rw [den_ev FTA (fn := k_impl_DeclOk) rfl (xN rfl rfl _) (lB rfl)]
 have k0 := @k_impl_DeclOk.eq_1; have f0 := @impl_DeclOk.eq_1; have g0 := impl_preOk_ok; have g1 := impl_uriOk_ok
 exact gs
theorem impl_OpOk_1_ok : ∀ (d : GDecl), Ok (impl_OpOk_1 d) e_impl_OpOk_1 (dn FTA n_impl_OpOk_1 [.agg ((GDecl.row d).map .t)]) := by
 intro d
 rw [den_ev FTA (fn := k_impl_OpOk_1) rfl (xN rfl rfl _) (lB rfl)]
 have k0 := @k_impl_OpOk_1.eq_1; have f0 := @impl_OpOk_1.eq_1; have g0 := impl_DeclOk_ok
 exact gs
theorem slices_IndexFunc_Decl_OpOk_1_l6_ok (s : List GDecl) : ∀ (x1 : Int), Ok (slices_IndexFunc_Decl_OpOk_1_l6 s x1) e_slices_IndexFunc_Decl_OpOk_1 (ev FTA c_slices_IndexFunc_Decl_OpOk_1 (.loop k_slices_IndexFunc_Decl_l6) [.lv 0, .th k_slices_IndexFunc_Decl_r2] (putS (List.replicate 19 .dead) [(0, .t (.sl false (s.map GDecl.row))), (1, .fn n_impl_OpOk_1 []), (7, .t (.v (.int .i64 (lenL s)))), (8, .t (.v (.int .i64 x1)))]) (putR (List.replicate 19 []) [])) := by
 unfold Ok
 refine slices_IndexFunc_Decl_OpOk_1_l6.partial_correctness s _ ?_
 intro F ih x1
 show Ok _ _ _
 have ih : ∀ (x1 : Int), Ok (F x1) _ _ := ih
 rw [ev_loop]
 have k0 := @k_slices_IndexFunc_Decl_l6.eq_1; have k1 := @k_slices_IndexFunc_Decl_r2.eq_1; have g0 := impl_OpOk_1_ok; have t0 := ih
 exact gs
theorem slices_IndexFunc_Decl_OpOk_1_ok : ∀ (s : List GDecl), Ok (slices_IndexFunc_Decl_OpOk_1 s) e_slices_IndexFunc_Decl_OpOk_1 (dn FTA n_slices_IndexFunc_Decl [.t (.sl false (s.map GDecl.row)), .fn n_impl_OpOk_1 []]) := by
 intro s
 rw [den_ev FTA (fn := k_slices_IndexFunc_Decl) rfl (xN rfl rfl _) (lB rfl)]
 have k0 := @k_slices_IndexFunc_Decl.eq_1; have f0 := @slices_IndexFunc_Decl_OpOk_1.eq_1; have t0 := slices_IndexFunc_Decl_OpOk_1_l6_ok
 exact gs
theorem slices_ContainsFunc_Decl_OpOk_1_ok : ∀ (s : List GDecl), Ok (slices_ContainsFunc_Decl_OpOk_1 s) e_slices_ContainsFunc_Decl_OpOk_1 (dn FTA n_slices_ContainsFunc_Decl [.t (.sl false (s.map GDecl.row)), .fn n_impl_OpOk_1 []]) := by
 intro s
 rw [den_ev FTA (fn := k_slices_ContainsFunc_Decl) rfl (xN rfl rfl _) (lB rfl)]
 have k0 := @k_slices_ContainsFunc_Decl.eq_1; have f0 := @slices_ContainsFunc_Decl_OpOk_1.eq_1; have g0 := slices_IndexFunc_Decl_OpOk_1_ok
 exact gs
theorem G_impl_CountOf : (∀ (n : GNode), Ok (impl_CountOf n) e_impl_CountOf (dn FTA n_impl_CountOf [.agg (((GNode.row false) n).map .t)])) ∧
  (∀ (out : Int) (n : GNode) (x1 : Int), Ok (impl_CountOf_l8 out n x1) e_impl_CountOf (ev FTA c_impl_CountOf (.loop k_impl_CountOf_l8) [.lv 0, .th k_impl_CountOf_r4] (putS (List.replicate 23 .dead) [(3, .t (.v (.int .i64 out))), (11, .t (.sl false (n.Kids.map (GNode.row false)))), (12, .t (.v (.int .i64 (lenL n.Kids)))), (13, .t (.v (.int .i64 x1)))]) (putR (List.replicate 23 []) []))) := by
 unfold Ok
 refine impl_CountOf.mutual_partial_correctness _ _ ?_ ?_
 ·intro F1 ih1 n
  show Ok _ _ _
  have ih1 : ∀ (out : Int) (n : GNode) (x1 : Int), Ok (F1 out n x1) _ _ := ih1
  rw [den_ev FTA (fn := k_impl_CountOf) rfl (xN rfl rfl _) (lB rfl)]
  have k0 := @k_impl_CountOf.eq_1; have t0 := ih1
  exact gs
 ·intro F0 F1 ih0 ih1 out n x1
  show Ok _ _ _
  have ih0 : ∀ (n : GNode), Ok (F0 n) _ _ := ih0
  have ih1 : ∀ (out : Int) (n : GNode) (x1 : Int), Ok (F1 out n x1) _ _ := ih1
  rw [ev_loop]
  have k0 := @k_impl_CountOf_l8.eq_1; have k1 := @k_impl_CountOf_r4.eq_1; have g0 := ih0; have t0 := ih1
  exact gs
theorem impl_CountOf_ok (n : GNode) : Ok (impl_CountOf n) e_impl_CountOf (dn FTA n_impl_CountOf [.agg (((GNode.row false) n).map .t)]) := G_impl_CountOf.1 n
theorem internal_stringslite_HasSuffix_ok : ∀ (s : ByteArray) (suffix : ByteArray), Ok (internal_stringslite_HasSuffix s suffix) e_internal_stringslite_HasSuffix (dn FTA n_internal_stringslite_HasSuffix [.t (.v (.string s)), .t (.v (.string suffix))]) := by
 intro s suffix
 rw [den_ev FTA (fn := k_internal_stringslite_HasSuffix) rfl (xN rfl rfl _) (lB rfl)]
 have k0 := @k_internal_stringslite_HasSuffix.eq_1; have f0 := @internal_stringslite_HasSuffix.eq_1
 exact gs
theorem strings_HasSuffix_ok : ∀ (s : ByteArray) (suffix : ByteArray), Ok (strings_HasSuffix s suffix) e_strings_HasSuffix (dn FTA n_strings_HasSuffix [.t (.v (.string s)), .t (.v (.string suffix))]) := by
 intro s suffix
 rw [den_ev FTA (fn := k_strings_HasSuffix) rfl (xN rfl rfl _) (lB rfl)]
 have k0 := @k_strings_HasSuffix.eq_1; have f0 := @strings_HasSuffix.eq_1; have g0 := internal_stringslite_HasSuffix_ok
 exact gs
theorem impl_noteOk_ok : ∀ (s : ByteArray), Ok (impl_noteOk s) e_impl_noteOk (dn FTA n_impl_noteOk [.t (.v (.string s))]) := by
 intro s
 rw [den_ev FTA (fn := k_impl_noteOk) rfl (xN rfl rfl _) (lB rfl)]
 have k0 := @k_impl_noteOk.eq_1; have f0 := @impl_noteOk.eq_1; have g0 := impl_TextOk_ok; have g1 := strings_Contains_ok; have g2 := strings_HasSuffix_ok
 exact gs
theorem strings_EqualFold_ok : ∀ (s : ByteArray) (t : ByteArray), Ok (strings_EqualFold s t) e_strings_EqualFold (dn FTA n_strings_EqualFold [.t (.v (.string s)), .t (.v (.string t))]) := by
 intro s t r hr
 exact den_ext FTA.ft (xOf FTA) (x_fold_ok s t (e := e_strings_EqualFold) (fun _ => rfl) hr)
theorem impl_IsBlank_ok : ∀ (n : Int), Ok (impl_IsBlank n) e_impl_IsBlank (dn FTA n_impl_IsBlank [.t (.v (.int .i64 n))]) := by
 intro n
 rw [den_ev FTA (fn := k_impl_IsBlank) rfl (xN rfl rfl _) (lB rfl)]
 have k0 := @k_impl_IsBlank.eq_1; have f0 := @impl_IsBlank.eq_1
 exact gs
end TT
