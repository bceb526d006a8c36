import Derived.Test.YtejfgkcjhmmjkaaDoorTLLc
set_option maxHeartbeats 2000000
set_option linter.unusedVariables false
set_option linter.unusedSimpArgs false
set_option linter.defProp false
set_option maxRecDepth 100000
namespace TT
open Go
open Nat (reduceAdd reduceSub reduceMul reduceLeDiff reduceLT reduceEqDiff)
theorem internal_strconv_ParseUint_j14_ok : ∀ (s1 : ByteArray) (base1 : Int) (bitSize : Int) (base0 : Bool) (s : ByteArray), Ok (internal_strconv_ParseUint_j14 s1 base1 bitSize base0 s) e_internal_strconv_ParseUint (ev FTA c_internal_strconv_ParseUint k_internal_strconv_ParseUint_r14 [] (putS (List.replicate 172 .dead) [(0, .t (.v (.string s1))), (1, .t (.v (.int .i64 base1))), (2, .t (.v (.int .i64 bitSize))), (8, .t (.v (.bool base0))), (9, .t (.v (.string s)))]) (putR (List.replicate 172 []) [])) := by
 intro s1 base1 bitSize base0 s
 have k0 := @k_internal_strconv_ParseUint_r14.eq_1; have f0 := @internal_strconv_ParseUint_j14.eq_1; have t0 := internal_strconv_ParseUint_j54_ok
 exact gs
theorem internal_strconv_ParseUint_j35_ok : ∀ (s : ByteArray) (bitSize : Int) (x6 : Bool), Ok (internal_strconv_ParseUint_j35 s bitSize x6) e_internal_strconv_ParseUint (ev FTA c_internal_strconv_ParseUint k_internal_strconv_ParseUint_r35 [.lv 1, .lv 0, .hk [.kill [25, 37], .clean []], .th k_internal_strconv_ParseUint_r14] (putS (List.replicate 172 .dead) [(0, .t (.v (.string s))), (2, .t (.v (.int .i64 bitSize))), (8, .t (.v (.bool true))), (9, .t (.v (.string s))), (52, .t (.v (.bool x6)))]) (putR (List.replicate 172 []) [])) := by
 intro s bitSize x6
 have k0 := @k_internal_strconv_ParseUint_r35.eq_1; have f0 := @internal_strconv_ParseUint_j35.eq_1; have g0 := internal_strconv_lower_ok; have t0 := internal_strconv_ParseUint_j14_ok
 exact gs
theorem internal_strconv_ParseUint_j29_ok : ∀ (s : ByteArray) (bitSize : Int) (x3 : Bool), Ok (internal_strconv_ParseUint_j29 s bitSize x3) e_internal_strconv_ParseUint (ev FTA c_internal_strconv_ParseUint k_internal_strconv_ParseUint_r29 [.lv 1, .lv 0, .hk [.kill [25, 37], .clean []], .th k_internal_strconv_ParseUint_r14] (putS (List.replicate 172 .dead) [(0, .t (.v (.string s))), (2, .t (.v (.int .i64 bitSize))), (8, .t (.v (.bool true))), (9, .t (.v (.string s))), (40, .t (.v (.bool x3)))]) (putR (List.replicate 172 []) [])) := by
 intro s bitSize x3
 have k0 := @k_internal_strconv_ParseUint_r29.eq_1; have f0 := @internal_strconv_ParseUint_j29.eq_1; have g0 := internal_strconv_lower_ok; have t0 := internal_strconv_ParseUint_j14_ok; have t1 := internal_strconv_ParseUint_j35_ok
 exact gs
theorem internal_strconv_ParseUint_j16_ok : ∀ (s : ByteArray) (base : Int) (bitSize : Int) (x : Bool), Ok (internal_strconv_ParseUint_j16 s base bitSize x) e_internal_strconv_ParseUint (ev FTA c_internal_strconv_ParseUint k_internal_strconv_ParseUint_r16 [.lv 0, .hk [.kill [25, 37], .clean []], .th k_internal_strconv_ParseUint_r14] (putS (List.replicate 172 .dead) [(0, .t (.v (.string s))), (1, .t (.v (.int .i64 base))), (2, .t (.v (.int .i64 bitSize))), (8, .t (.v (.bool (eqI base 0)))), (9, .t (.v (.string s))), (25, .t (.v (.bool x)))]) (putR (List.replicate 172 []) [])) := by
 intro s base bitSize x
 have k0 := @k_internal_strconv_ParseUint_r16.eq_1; have f0 := @internal_strconv_ParseUint_j16.eq_1; have g0 := internal_strconv_lower_ok; have t0 := internal_strconv_ParseUint_j14_ok; have t1 := internal_strconv_ParseUint_j29_ok
 exact gs
theorem internal_strconv_ParseUint_ok : ∀ (s : ByteArray) (base : Int) (bitSize : Int), Ok (internal_strconv_ParseUint s base bitSize) e_internal_strconv_ParseUint (dn FTA n_internal_strconv_ParseUint [.t (.v (.string s)), .t (.v (.int .i64 base)), .t (.v (.int .i64 bitSize))]) := by
 intro s base bitSize
 rw [den_ev FTA (fn := k_internal_strconv_ParseUint) rfl (xN rfl rfl _) (lB rfl)]
 have k0 := @k_internal_strconv_ParseUint.eq_1; have f0 := @internal_strconv_ParseUint.eq_1; have t0 := internal_strconv_ParseUint_j16_ok
 exact gs
theorem internal_strconv_ParseInt_j55_ok : ∀ (neg2 : Bool) (r : Int × Unit), Ok (internal_strconv_ParseInt_j55 neg2 r) e_internal_strconv_ParseInt (ev FTA c_internal_strconv_ParseInt k_internal_strconv_ParseInt_r55 [] (putS (List.replicate 73 .dead) [(8, .t (.v (.bool neg2))), (9, .t (.v (.int .u64 r.1)))]) (putR (List.replicate 73 []) [])) := by
 intro neg2 r
 have k0 := @k_internal_strconv_ParseInt_r55.eq_1; have f0 := @internal_strconv_ParseInt_j55.eq_1
 exact gs
theorem internal_strconv_ParseInt_j47_ok : ∀ (neg1 : Bool) (r : Int × Unit) (x3 : Int), Ok (internal_strconv_ParseInt_j47 neg1 r x3) e_internal_strconv_ParseInt (ev FTA c_internal_strconv_ParseInt k_internal_strconv_ParseInt_r47 [] (putS (List.replicate 73 .dead) [(8, .t (.v (.bool neg1))), (9, .t (.v (.int .u64 r.1))), (10, .t (.v (.int .u64 x3)))]) (putR (List.replicate 73 []) [])) := by
 intro neg1 r x3
 have k0 := @k_internal_strconv_ParseInt_r47.eq_1; have f0 := @internal_strconv_ParseInt_j47.eq_1; have t0 := internal_strconv_ParseInt_j55_ok
 exact gs
theorem internal_strconv_ParseInt_j39_ok : ∀ (bitSize1 : Int) (neg : Bool) (r : Int × Unit), Ok (internal_strconv_ParseInt_j39 bitSize1 neg r) e_internal_strconv_ParseInt (ev FTA c_internal_strconv_ParseInt k_internal_strconv_ParseInt_r39 [] (putS (List.replicate 73 .dead) [(2, .t (.v (.int .i64 bitSize1))), (8, .t (.v (.bool neg))), (9, .t (.v (.int .u64 r.1)))]) (putR (List.replicate 73 []) [])) := by
 intro bitSize1 neg r
 have k0 := @k_internal_strconv_ParseInt_r39.eq_1; have f0 := @internal_strconv_ParseInt_j39.eq_1; have t0 := internal_strconv_ParseInt_j47_ok
 exact gs
theorem internal_strconv_ParseInt_j12_ok : ∀ (s1 : ByteArray) (base : Int) (bitSize : Int) (neg : Bool), Ok (internal_strconv_ParseInt_j12 s1 base bitSize neg) e_internal_strconv_ParseInt (ev FTA c_internal_strconv_ParseInt k_internal_strconv_ParseInt_r12 [] (putS (List.replicate 73 .dead) [(0, .t (.v (.string s1))), (1, .t (.v (.int .i64 base))), (2, .t (.v (.int .i64 bitSize))), (8, .t (.v (.bool neg)))]) (putR (List.replicate 73 []) [])) := by
 intro s1 base bitSize neg
 have k0 := @k_internal_strconv_ParseInt_r12.eq_1; have f0 := @internal_strconv_ParseInt_j12.eq_1; have g0 := internal_strconv_ParseUint_ok; have t0 := internal_strconv_ParseInt_j39_ok
 exact gs
theorem internal_strconv_ParseInt_ok : ∀ (s : ByteArray) (base : Int) (bitSize : Int), Ok (internal_strconv_ParseInt s base bitSize) e_internal_strconv_ParseInt (dn FTA n_internal_strconv_ParseInt [.t (.v (.string s)), .t (.v (.int .i64 base)), .t (.v (.int .i64 bitSize))]) := by
 intro s base bitSize
 rw [den_ev FTA (fn := k_internal_strconv_ParseInt) rfl (xN rfl rfl _) (lB rfl)]
 have k0 := @k_internal_strconv_ParseInt.eq_1; have f0 := @internal_strconv_ParseInt.eq_1; have t0 := internal_strconv_ParseInt_j12_ok
 exact gs
theorem strconv_ParseInt_ok : ∀ (s : ByteArray) (base : Int) (bitSize : Int), Ok (strconv_ParseInt s base bitSize) e_strconv_ParseInt (dn FTA n_strconv_ParseInt [.t (.v (.string s)), .t (.v (.int .i64 base)), .t (.v (.int .i64 bitSize))]) := by
 intro s base bitSize
 rw [den_ev FTA (fn := k_strconv_ParseInt) rfl (xN rfl rfl _) (lB rfl)]
 have k0 := @k_strconv_ParseInt.eq_1; have f0 := @strconv_ParseInt.eq_1; have g0 := internal_strconv_ParseInt_ok
 exact gs
theorem impl_SignText_ok : ∀ (n : Int), Ok (impl_SignText n) e_impl_SignText (dn FTA n_impl_SignText [.t (.v (.int .i64 n))]) := by
 intro n
 rw [den_ev FTA (fn := k_impl_SignText) rfl (xN rfl rfl _) (lB rfl)]
 have k0 := @k_impl_SignText.eq_1; have f0 := @impl_SignText.eq_1; have g0 := impl_in_ok
 exact gs
theorem impl_numbered_ok : ∀ (s : ByteArray) (base : Int) (most : Int), Ok (impl_numbered s base most) e_impl_numbered (dn FTA n_impl_numbered [.t (.v (.string s)), .t (.v (.int .i64 base)), .t (.v (.int .i64 most))]) := by
 intro s base most
 rw [den_ev FTA (fn := k_impl_numbered) rfl (xN rfl rfl _) (lB rfl)]
 have k0 := @k_impl_numbered.eq_1; have f0 := @impl_numbered.eq_1; have g0 := impl_isDigits_ok; have g1 := strconv_ParseInt_ok; have g2 := impl_IsSign_ok; have g3 := impl_SignText_ok
 exact gs
theorem impl_stands_ok : ∀ (name : ByteArray) (l : List GEnt), Ok (impl_stands name l) e_impl_stands (dn FTA n_impl_stands [.t (.v (.string name)), .t (.sl false (l.map GEnt.row))]) := by
 intro name l
 rw [den_ev FTA (fn := k_impl_stands) rfl (xN rfl rfl _) (lB rfl)]
 have k0 := @k_impl_stands.eq_1; have f0 := @impl_stands.eq_1; have g0 := strings_CutPrefix_ok; have g1 := impl_numbered_ok; have g2 := impl_ownNames_ok; have g3 := slices_Index_string_ok; have g4 := impl_entAt_ok
 exact gs
theorem impl_Expand_l14_ok (l : List GEnt) : ∀ (s1 : ByteArray) (out : ByteArray), Ok (impl_Expand_l14 s1 l out) e_impl_Expand (ev FTA c_impl_Expand (.loop k_impl_Expand_l14) [.lv 0, .th k_impl_Expand_r12] (putS (List.replicate 65 .dead) [(0, .t (.v (.string s1))), (1, .t (.sl false (l.map GEnt.row))), (6, .t (.v (.string out)))]) (putR (List.replicate 65 []) [])) := by
 unfold Ok
 refine impl_Expand_l14.partial_correctness l _ ?_
 intro F ih s1 out
 show Ok _ _ _
 have ih : ∀ (s1 : ByteArray) (out : ByteArray), Ok (F s1 out) _ _ := ih
 rw [ev_loop]
 have k0 := @k_impl_Expand_l14.eq_1; have k1 := @k_impl_Expand_r12.eq_1; have g0 := strings_Cut_ok; have g1 := impl_stands_ok; have g2 := impl_TextOk_ok; have t0 := ih
 exact gs
theorem impl_Expand_ok : ∀ (s : ByteArray) (l : List GEnt), Ok (impl_Expand s l) e_impl_Expand (dn FTA n_impl_Expand [.t (.v (.string s)), .t (.sl false (l.map GEnt.row))]) := by
 intro s l
 rw [den_ev FTA (fn := k_impl_Expand) rfl (xN rfl rfl _) (lB rfl)]
 have k0 := @k_impl_Expand.eq_1; have f0 := @impl_Expand.eq_1; have g0 := impl_signsOk_ok; have g1 := impl_EntsOk_ok; have t0 := impl_Expand_l14_ok
 exact gs
theorem laws_eqEnt_ok : ∀ (a : GEnt) (b : GEnt), Ok (laws_eqEnt a b) e_laws_eqEnt (dn FTA n_laws_eqEnt [.agg ((GEnt.row a).map .t), .agg ((GEnt.row b).map .t)]) := by
 intro a b
 rw [den_ev FTA (fn := k_laws_eqEnt) rfl (xN rfl rfl _) (lB rfl)]
 have k0 := @k_laws_eqEnt.eq_1; have f0 := @laws_eqEnt.eq_1
 exact gs
theorem laws_eqEntS_l14_ok (a : List GEnt) (b : List GEnt) : ∀ (i : Int), Ok (laws_eqEntS_l14 a b i) e_laws_eqEntS (ev FTA c_laws_eqEntS (.loop k_laws_eqEntS_l14) [.lv 0, .th k_laws_eqEntS_r10] (putS (List.replicate 27 .dead) [(0, .t (.sl false (a.map GEnt.row))), (1, .t (.sl false (b.map GEnt.row))), (5, .t (.v (.int .i64 i)))]) (putR (List.replicate 27 []) [])) := by
 unfold Ok
 refine laws_eqEntS_l14.partial_correctness a b _ ?_
 intro F ih i
 show Ok _ _ _
 have ih : ∀ (i : Int), Ok (F i) _ _ := ih
 rw [ev_loop]
 have k0 := @k_laws_eqEntS_l14.eq_1; have k1 := @k_laws_eqEntS_r10.eq_1; have g0 := laws_eqEnt_ok; have t0 := ih
 exact gs
theorem laws_eqEntS_ok : ∀ (a : List GEnt) (b : List GEnt), Ok (laws_eqEntS a b) e_laws_eqEntS (dn FTA n_laws_eqEntS [.t (.sl false (a.map GEnt.row)), .t (.sl false (b.map GEnt.row))]) := by
 intro a b
 rw [den_ev FTA (fn := k_laws_eqEntS) rfl (xN rfl rfl _) (lB rfl)]
 have k0 := @k_laws_eqEntS.eq_1; have f0 := @laws_eqEntS.eq_1; have t0 := laws_eqEntS_l14_ok
 exact gs
theorem laws_FnExactExpand_ok : ∀ (aS : ByteArray) (aL : List GEnt), Ok (laws_FnExactExpand aS aL) e_laws_FnExactExpand (dn FTA n_laws_FnExactExpand [.t (.v (.string aS)), .t (.sl false (aL.map GEnt.row))]) := by
 intro aS aL
 rw [den_ev FTA (fn := k_laws_FnExactExpand) rfl (xN rfl rfl _) (lB rfl)]
 have k0 := @k_laws_FnExactExpand.eq_1; have f0 := @laws_FnExactExpand.eq_1; have g0 := laws_szEntS_ok; have g1 := laws_toEntS_ok; have g2 := spec_Expand_ok; have g3 := impl_Expand_ok; have g4 := laws_eqEntS_ok
 exact gs
end TT
