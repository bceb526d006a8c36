import Derived.Test.YtejfgkcjhmmjkaaGreatDoorTLLb
set_option maxHeartbeats 2000000
set_option linter.unusedVariables false
set_option linter.unusedSimpArgs false
set_option linter.defProp false
set_option maxRecDepth 100000
namespace TT
open Go
open Nat (reduceAdd reduceSub reduceMul reduceLeDiff reduceLT reduceEqDiff)
theorem strings_CutPrefix_ok : ∀ (s : ByteArray) (prefix1 : ByteArray), Ok (strings_CutPrefix s prefix1) e_strings_CutPrefix (dn FTA n_strings_CutPrefix [.t (.v (.string s)), .t (.v (.string prefix1))]) := by
 intro s prefix1
 rw [den_ev FTA (fn := k_strings_CutPrefix) rfl (xN rfl rfl _) (lB rfl)]
 have k0 := @k_strings_CutPrefix.eq_1; have f0 := @strings_CutPrefix.eq_1; have g0 := internal_stringslite_CutPrefix_ok
 exact gs
theorem impl_isDigits_l6_ok (s : ByteArray) (base : Int) (most : Int) : ∀ (x1 : Int), Ok (impl_isDigits_l6 s base most x1) e_impl_isDigits (ev FTA c_impl_isDigits (.loop k_impl_isDigits_l6) [.lv 0, .th k_impl_isDigits_r2] (putS (List.replicate 48 .dead) [(0, .t (.v (.string s))), (1, .t (.v (.int .i64 base))), (2, .t (.v (.int .i64 most))), (10, .t (.v (.int .i64 (lenS s)))), (11, .t (.v (.int .i64 x1)))]) (putR (List.replicate 48 []) [])) := by
 unfold Ok
 refine impl_isDigits_l6.partial_correctness s base most _ ?_
 intro F ih x1
 show Ok _ _ _
 have ih : ∀ (x1 : Int), Ok (F x1) _ _ := ih
 rw [ev_loop]
 have k0 := @k_impl_isDigits_l6.eq_1; have k1 := @k_impl_isDigits_r2.eq_1; have g0 := impl_in_ok; have t0 := ih
 exact gs
theorem impl_isDigits_ok : ∀ (s : ByteArray) (base : Int) (most : Int), Ok (impl_isDigits s base most) e_impl_isDigits (dn FTA n_impl_isDigits [.t (.v (.string s)), .t (.v (.int .i64 base)), .t (.v (.int .i64 most))]) := by
 intro s base most
 rw [den_ev FTA (fn := k_impl_isDigits) rfl (xN rfl rfl _) (lB rfl)]
 have k0 := @k_impl_isDigits.eq_1; have f0 := @impl_isDigits.eq_1; have t0 := impl_isDigits_l6_ok
 exact gs
theorem internal_strconv_lower_ok : ∀ (c : Int), Ok (internal_strconv_lower c) e_internal_strconv_lower (dn FTA n_internal_strconv_lower [.t (.v (.int .u8 c))]) := by
 intro c
 rw [den_ev FTA (fn := k_internal_strconv_lower) rfl (xN rfl rfl _) (lB rfl)]
 have k0 := @k_internal_strconv_lower.eq_1; have f0 := @internal_strconv_lower.eq_1
 exact gs
theorem G_internal_strconv_underscoreOK_j35 (s1 : ByteArray) : (∀ (saw1 : Int) (i1 : Int) (hex3 : Bool), Ok (internal_strconv_underscoreOK_j35 s1 saw1 i1 hex3) e_internal_strconv_underscoreOK (ev FTA c_internal_strconv_underscoreOK k_internal_strconv_underscoreOK_r35 [.lv 1, .th k_internal_strconv_underscoreOK_r33, .hk [.clean []], .th (.loop k_internal_strconv_underscoreOK_l26), .lv 0, .th k_internal_strconv_underscoreOK_r24] (putS (List.replicate 94 .dead) [(0, .t (.v (.string s1))), (3, .t (.v (.int .i32 saw1))), (4, .t (.v (.int .i64 i1))), (5, .t (.v (.bool hex3)))]) (putR (List.replicate 94 []) []))) ∧
  (∀ (saw1 : Int) (i1 : Int) (hex2 : Bool), Ok (internal_strconv_underscoreOK_l26 s1 saw1 i1 hex2) e_internal_strconv_underscoreOK (ev FTA c_internal_strconv_underscoreOK (.loop k_internal_strconv_underscoreOK_l26) [.lv 0, .th k_internal_strconv_underscoreOK_r24] (putS (List.replicate 94 .dead) [(0, .t (.v (.string s1))), (3, .t (.v (.int .i32 saw1))), (4, .t (.v (.int .i64 i1))), (5, .t (.v (.bool hex2)))]) (putR (List.replicate 94 []) []))) := by
 unfold Ok
 refine internal_strconv_underscoreOK_j35.mutual_partial_correctness s1 _ _ ?_ ?_
 ·intro F1 ih1 saw1 i1 hex3
  show Ok _ _ _
  have ih1 : ∀ (saw1 : Int) (i1 : Int) (hex2 : Bool), Ok (F1 saw1 i1 hex2) _ _ := ih1
  have k0 := @k_internal_strconv_underscoreOK_r35.eq_1; have k1 := @k_internal_strconv_underscoreOK_r33.eq_1; have t0 := ih1
  exact gs
 ·intro F0 F1 ih0 ih1 saw1 i1 hex2
  show Ok _ _ _
  have ih1 : ∀ (saw1 : Int) (i1 : Int) (hex2 : Bool), Ok (F1 saw1 i1 hex2) _ _ := ih1
  have ih0 : ∀ (saw1 : Int) (i1 : Int) (hex3 : Bool), Ok (F0 saw1 i1 hex3) _ _ := ih0
  rw [ev_loop]
  have k0 := @k_internal_strconv_underscoreOK_l26.eq_1; have k1 := @k_internal_strconv_underscoreOK_r24.eq_1; have k2 := @k_internal_strconv_underscoreOK_r33.eq_1; have g0 := internal_strconv_lower_ok; have t0 := ih1; have t1 := ih0
  exact gs
theorem internal_strconv_underscoreOK_j14_ok : ∀ (s1 : ByteArray) (saw : Int) (i : Int) (hex : Bool), Ok (internal_strconv_underscoreOK_j14 s1 saw i hex) e_internal_strconv_underscoreOK (ev FTA c_internal_strconv_underscoreOK k_internal_strconv_underscoreOK_r14 [] (putS (List.replicate 94 .dead) [(0, .t (.v (.string s1))), (3, .t (.v (.int .i32 saw))), (4, .t (.v (.int .i64 i))), (5, .t (.v (.bool hex)))]) (putR (List.replicate 94 []) [])) := by
 intro s1 saw i hex
 have k0 := @k_internal_strconv_underscoreOK_r14.eq_1; have f0 := @internal_strconv_underscoreOK_j14.eq_1; have t0 := fun a0 => (G_internal_strconv_underscoreOK_j35 a0).2
 exact gs
theorem internal_strconv_underscoreOK_j6_ok : ∀ (s1 : ByteArray), Ok (internal_strconv_underscoreOK_j6 s1) e_internal_strconv_underscoreOK (ev FTA c_internal_strconv_underscoreOK k_internal_strconv_underscoreOK_r6 [] (putS (List.replicate 94 .dead) [(0, .t (.v (.string s1))), (3, .t (.v (.int .i32 94))), (4, .t (.v (.int .i64 0)))]) (putR (List.replicate 94 []) [])) := by
 intro s1
 have k0 := @k_internal_strconv_underscoreOK_r6.eq_1; have f0 := @internal_strconv_underscoreOK_j6.eq_1; have g0 := internal_strconv_lower_ok; have t0 := internal_strconv_underscoreOK_j14_ok
 exact gs
theorem internal_strconv_underscoreOK_ok : ∀ (s : ByteArray), Ok (internal_strconv_underscoreOK s) e_internal_strconv_underscoreOK (dn FTA n_internal_strconv_underscoreOK [.t (.v (.string s))]) := by
 intro s
 rw [den_ev FTA (fn := k_internal_strconv_underscoreOK) rfl (xN rfl rfl _) (lB rfl)]
 have k0 := @k_internal_strconv_underscoreOK.eq_1; have f0 := @internal_strconv_underscoreOK.eq_1; have t0 := internal_strconv_underscoreOK_j6_ok
 exact gs
theorem G_internal_strconv_ParseUint_j106 (base1 : Int) (base0 : Bool) (s : ByteArray) (cutoff : Int) (x13 : Int) (x14 : List Int) : (∀ (underscores : Bool) (n : Int) (x19 : Int) (x18 : Int) (x20 : Bool), Ok (internal_strconv_ParseUint_j106 base1 base0 s cutoff x13 underscores n x19 x14 x18 x20) e_internal_strconv_ParseUint (ev FTA c_internal_strconv_ParseUint k_internal_strconv_ParseUint_r106 [.lv 5, .hk [.clean []], .th k_internal_strconv_ParseUint_r104, .lv 4, .th k_internal_strconv_ParseUint_r98, .hk [.clean []], .th (.loop k_internal_strconv_ParseUint_l91), .lv 3, .th k_internal_strconv_ParseUint_r87] (putS (List.replicate 172 .dead) [(1, .t (.v (.int .i64 base1))), (8, .t (.v (.bool base0))), (9, .t (.v (.string s))), (10, .t (.v (.int .u64 cutoff))), (11, .t (.v (.int .u64 (subK .u64 x13 1)))), (12, .t (.v (.bool underscores))), (13, .t (.v (.int .u64 n))), (15, .t (.v (.int .u8 x19))), (99, .t (.sl false (x14.map (rK .u8)))), (100, .t (.v (.int .i64 (lenL x14)))), (101, .t (.v (.int .i64 x18))), (106, .t (.v (.bool x20)))]) (putR (List.replicate 172 []) []))) ∧
  (∀ (underscores : Bool) (n : Int) (x19 : Int) (x18 : Int) (x21 : Bool), Ok (internal_strconv_ParseUint_j112 base1 base0 s cutoff x13 underscores n x19 x14 x18 x21) e_internal_strconv_ParseUint (ev FTA c_internal_strconv_ParseUint k_internal_strconv_ParseUint_r112 [.lv 5, .hk [.clean []], .th k_internal_strconv_ParseUint_r104, .lv 4, .th k_internal_strconv_ParseUint_r98, .hk [.clean []], .th (.loop k_internal_strconv_ParseUint_l91), .lv 3, .th k_internal_strconv_ParseUint_r87] (putS (List.replicate 172 .dead) [(1, .t (.v (.int .i64 base1))), (8, .t (.v (.bool base0))), (9, .t (.v (.string s))), (10, .t (.v (.int .u64 cutoff))), (11, .t (.v (.int .u64 (subK .u64 x13 1)))), (12, .t (.v (.bool underscores))), (13, .t (.v (.int .u64 n))), (15, .t (.v (.int .u8 x19))), (99, .t (.sl false (x14.map (rK .u8)))), (100, .t (.v (.int .i64 (lenL x14)))), (101, .t (.v (.int .i64 x18))), (112, .t (.v (.bool x21)))]) (putR (List.replicate 172 []) []))) ∧
  (∀ (underscores : Bool) (n : Int) (d1 : Int) (x18 : Int), Ok (internal_strconv_ParseUint_j104 base1 base0 s cutoff x13 underscores n d1 x14 x18) e_internal_strconv_ParseUint (ev FTA c_internal_strconv_ParseUint k_internal_strconv_ParseUint_r104 [.lv 4, .th k_internal_strconv_ParseUint_r98, .hk [.clean []], .th (.loop k_internal_strconv_ParseUint_l91), .lv 3, .th k_internal_strconv_ParseUint_r87] (putS (List.replicate 172 .dead) [(1, .t (.v (.int .i64 base1))), (8, .t (.v (.bool base0))), (9, .t (.v (.string s))), (10, .t (.v (.int .u64 cutoff))), (11, .t (.v (.int .u64 (subK .u64 x13 1)))), (12, .t (.v (.bool underscores))), (13, .t (.v (.int .u64 n))), (16, .t (.v (.int .u8 d1))), (99, .t (.sl false (x14.map (rK .u8)))), (100, .t (.v (.int .i64 (lenL x14)))), (101, .t (.v (.int .i64 x18)))]) (putR (List.replicate 172 []) []))) ∧
  (∀ (underscores : Bool) (n : Int) (x18 : Int), Ok (internal_strconv_ParseUint_l91 base1 base0 s cutoff x13 underscores n x14 x18) e_internal_strconv_ParseUint (ev FTA c_internal_strconv_ParseUint (.loop k_internal_strconv_ParseUint_l91) [.lv 3, .th k_internal_strconv_ParseUint_r87] (putS (List.replicate 172 .dead) [(1, .t (.v (.int .i64 base1))), (8, .t (.v (.bool base0))), (9, .t (.v (.string s))), (10, .t (.v (.int .u64 cutoff))), (11, .t (.v (.int .u64 (subK .u64 x13 1)))), (12, .t (.v (.bool underscores))), (13, .t (.v (.int .u64 n))), (99, .t (.sl false (x14.map (rK .u8)))), (100, .t (.v (.int .i64 (lenL x14)))), (101, .t (.v (.int .i64 x18)))]) (putR (List.replicate 172 []) []))) := by
 unfold Ok
 refine internal_strconv_ParseUint_j106.mutual_partial_correctness base1 base0 s cutoff x13 x14 _ _ _ _ ?_ ?_ ?_ ?_
 ·intro F1 F3 ih1 ih3 underscores n x19 x18 x20
  show Ok _ _ _
  have ih3 : ∀ (underscores : Bool) (n : Int) (x18 : Int), Ok (F3 underscores n x18) _ _ := ih3
  have ih1 : ∀ (underscores : Bool) (n : Int) (x19 : Int) (x18 : Int) (x21 : Bool), Ok (F1 underscores n x19 x18 x21) _ _ := ih1
  have k0 := @k_internal_strconv_ParseUint_r106.eq_1; have k1 := @k_internal_strconv_ParseUint_r98.eq_1; have t0 := ih3; have t1 := ih1
  exact gs
 ·intro F2 ih2 underscores n x19 x18 x21
  show Ok _ _ _
  have ih2 : ∀ (underscores : Bool) (n : Int) (d1 : Int) (x18 : Int), Ok (F2 underscores n d1 x18) _ _ := ih2
  have k0 := @k_internal_strconv_ParseUint_r112.eq_1; have g0 := internal_strconv_lower_ok; have t0 := ih2
  exact gs
 ·intro F3 ih3 underscores n d1 x18
  show Ok _ _ _
  have ih3 : ∀ (underscores : Bool) (n : Int) (x18 : Int), Ok (F3 underscores n x18) _ _ := ih3
  have k0 := @k_internal_strconv_ParseUint_r104.eq_1; have k1 := @k_internal_strconv_ParseUint_r98.eq_1; have t0 := ih3
  exact gs
 ·intro F0 ih0 underscores n x18
  show Ok _ _ _
  have ih0 : ∀ (underscores : Bool) (n : Int) (x19 : Int) (x18 : Int) (x20 : Bool), Ok (F0 underscores n x19 x18 x20) _ _ := ih0
  rw [ev_loop]
  have k0 := @k_internal_strconv_ParseUint_l91.eq_1; have k1 := @k_internal_strconv_ParseUint_r87.eq_1; have g0 := internal_strconv_underscoreOK_ok; have t0 := ih0
  exact gs
theorem internal_strconv_ParseUint_j68_ok : ∀ (s1 : ByteArray) (base1 : Int) (bitSize1 : Int) (base0 : Bool) (s : ByteArray) (cutoff : Int), Ok (internal_strconv_ParseUint_j68 s1 base1 bitSize1 base0 s cutoff) e_internal_strconv_ParseUint (ev FTA c_internal_strconv_ParseUint k_internal_strconv_ParseUint_r68 [] (putS (List.replicate 172 .dead) [(0, .t (.v (.string s1))), (1, .t (.v (.int .i64 base1))), (2, .t (.v (.int .i64 bitSize1))), (8, .t (.v (.bool base0))), (9, .t (.v (.string s))), (10, .t (.v (.int .u64 cutoff)))]) (putR (List.replicate 172 []) [])) := by
 intro s1 base1 bitSize1 base0 s cutoff
 have k0 := @k_internal_strconv_ParseUint_r68.eq_1; have f0 := @internal_strconv_ParseUint_j68.eq_1; have t0 := fun a0 a1 a2 a3 a4 a5 => (G_internal_strconv_ParseUint_j106 a0 a1 a2 a3 a4 a5).2.2.2
 exact gs
theorem internal_strconv_ParseUint_j54_ok : ∀ (s1 : ByteArray) (base1 : Int) (bitSize1 : Int) (base0 : Bool) (s : ByteArray), Ok (internal_strconv_ParseUint_j54 s1 base1 bitSize1 base0 s) e_internal_strconv_ParseUint (ev FTA c_internal_strconv_ParseUint k_internal_strconv_ParseUint_r54 [] (putS (List.replicate 172 .dead) [(0, .t (.v (.string s1))), (1, .t (.v (.int .i64 base1))), (2, .t (.v (.int .i64 bitSize1))), (8, .t (.v (.bool base0))), (9, .t (.v (.string s)))]) (putR (List.replicate 172 []) [])) := by
 intro s1 base1 bitSize1 base0 s
 have k0 := @k_internal_strconv_ParseUint_r54.eq_1; have f0 := @internal_strconv_ParseUint_j54.eq_1; have t0 := internal_strconv_ParseUint_j68_ok
 exact gs
theorem internal_strconv_ParseUint_j14_ok : ∀ (s1 : ByteArray) (base1 : Int) (bitSize : Int) (base0 : Bool) (s : ByteArray), Ok (internal_strconv_ParseUint_j14 s1 base1 bitSize base0 s) e_internal_strconv_ParseUint (ev FTA c_internal_strconv_ParseUint k_internal_strconv_ParseUint_r14 [] (putS (List.replicate 172 .dead) [(0, .t (.v (.string s1))), (1, .t (.v (.int .i64 base1))), (2, .t (.v (.int .i64 bitSize))), (8, .t (.v (.bool base0))), (9, .t (.v (.string s)))]) (putR (List.replicate 172 []) [])) := by
 intro s1 base1 bitSize base0 s
 have k0 := @k_internal_strconv_ParseUint_r14.eq_1; have f0 := @internal_strconv_ParseUint_j14.eq_1; have t0 := internal_strconv_ParseUint_j54_ok
 exact gs
theorem internal_strconv_ParseUint_j35_ok : ∀ (s : ByteArray) (bitSize : Int) (x6 : Bool), Ok (internal_strconv_ParseUint_j35 s bitSize x6) e_internal_strconv_ParseUint (ev FTA c_internal_strconv_ParseUint k_internal_strconv_ParseUint_r35 [.lv 1, .lv 0, .hk [.kill [25, 37], .clean []], .th k_internal_strconv_ParseUint_r14] (putS (List.replicate 172 .dead) [(0, .t (.v (.string s))), (2, .t (.v (.int .i64 bitSize))), (8, .t (.v (.bool true))), (9, .t (.v (.string s))), (52, .t (.v (.bool x6)))]) (putR (List.replicate 172 []) [])) := by
 intro s bitSize x6
 have k0 := @k_internal_strconv_ParseUint_r35.eq_1; have f0 := @internal_strconv_ParseUint_j35.eq_1; have g0 := internal_strconv_lower_ok; have t0 := internal_strconv_ParseUint_j14_ok
 exact gs
theorem internal_strconv_ParseUint_j29_ok : ∀ (s : ByteArray) (bitSize : Int) (x3 : Bool), Ok (internal_strconv_ParseUint_j29 s bitSize x3) e_internal_strconv_ParseUint (ev FTA c_internal_strconv_ParseUint k_internal_strconv_ParseUint_r29 [.lv 1, .lv 0, .hk [.kill [25, 37], .clean []], .th k_internal_strconv_ParseUint_r14] (putS (List.replicate 172 .dead) [(0, .t (.v (.string s))), (2, .t (.v (.int .i64 bitSize))), (8, .t (.v (.bool true))), (9, .t (.v (.string s))), (40, .t (.v (.bool x3)))]) (putR (List.replicate 172 []) [])) := by
 intro s bitSize x3
 have k0 := @k_internal_strconv_ParseUint_r29.eq_1; have f0 := @internal_strconv_ParseUint_j29.eq_1; have g0 := internal_strconv_lower_ok; have t0 := internal_strconv_ParseUint_j14_ok; have t1 := internal_strconv_ParseUint_j35_ok
 exact gs
theorem internal_strconv_ParseUint_j16_ok : ∀ (s : ByteArray) (base : Int) (bitSize : Int) (x : Bool), Ok (internal_strconv_ParseUint_j16 s base bitSize x) e_internal_strconv_ParseUint (ev FTA c_internal_strconv_ParseUint k_internal_strconv_ParseUint_r16 [.lv 0, .hk [.kill [25, 37], .clean []], .th k_internal_strconv_ParseUint_r14] (putS (List.replicate 172 .dead) [(0, .t (.v (.string s))), (1, .t (.v (.int .i64 base))), (2, .t (.v (.int .i64 bitSize))), (8, .t (.v (.bool (eqI base 0)))), (9, .t (.v (.string s))), (25, .t (.v (.bool x)))]) (putR (List.replicate 172 []) [])) := by
 intro s base bitSize x
 have k0 := @k_internal_strconv_ParseUint_r16.eq_1; have f0 := @internal_strconv_ParseUint_j16.eq_1; have g0 := internal_strconv_lower_ok; have t0 := internal_strconv_ParseUint_j14_ok; have t1 := internal_strconv_ParseUint_j29_ok
 exact gs
theorem internal_strconv_ParseUint_ok : ∀ (s : ByteArray) (base : Int) (bitSize : Int), Ok (internal_strconv_ParseUint s base bitSize) e_internal_strconv_ParseUint (dn FTA n_internal_strconv_ParseUint [.t (.v (.string s)), .t (.v (.int .i64 base)), .t (.v (.int .i64 bitSize))]) := by
 intro s base bitSize
 rw [den_ev FTA (fn := k_internal_strconv_ParseUint) rfl (xN rfl rfl _) (lB rfl)]
 have k0 := @k_internal_strconv_ParseUint.eq_1; have f0 := @internal_strconv_ParseUint.eq_1; have t0 := internal_strconv_ParseUint_j16_ok
 exact gs
theorem internal_strconv_ParseInt_j55_ok : ∀ (neg2 : Bool) (r : Int × Unit), Ok (internal_strconv_ParseInt_j55 neg2 r) e_internal_strconv_ParseInt (ev FTA c_internal_strconv_ParseInt k_internal_strconv_ParseInt_r55 [] (putS (List.replicate 73 .dead) [(8, .t (.v (.bool neg2))), (9, .t (.v (.int .u64 r.1)))]) (putR (List.replicate 73 []) [])) := by
 intro neg2 r
 have k0 := @k_internal_strconv_ParseInt_r55.eq_1; have f0 := @internal_strconv_ParseInt_j55.eq_1
 exact gs
theorem internal_strconv_ParseInt_j47_ok : ∀ (neg1 : Bool) (r : Int × Unit) (x3 : Int), Ok (internal_strconv_ParseInt_j47 neg1 r x3) e_internal_strconv_ParseInt (ev FTA c_internal_strconv_ParseInt k_internal_strconv_ParseInt_r47 [] (putS (List.replicate 73 .dead) [(8, .t (.v (.bool neg1))), (9, .t (.v (.int .u64 r.1))), (10, .t (.v (.int .u64 x3)))]) (putR (List.replicate 73 []) [])) := by
 intro neg1 r x3
 have k0 := @k_internal_strconv_ParseInt_r47.eq_1; have f0 := @internal_strconv_ParseInt_j47.eq_1; have t0 := internal_strconv_ParseInt_j55_ok
 exact gs
theorem internal_strconv_ParseInt_j39_ok : ∀ (bitSize1 : Int) (neg : Bool) (r : Int × Unit), Ok (internal_strconv_ParseInt_j39 bitSize1 neg r) e_internal_strconv_ParseInt (ev FTA c_internal_strconv_ParseInt k_internal_strconv_ParseInt_r39 [] (putS (List.replicate 73 .dead) [(2, .t (.v (.int .i64 bitSize1))), (8, .t (.v (.bool neg))), (9, .t (.v (.int .u64 r.1)))]) (putR (List.replicate 73 []) [])) := by
 intro bitSize1 neg r
 have k0 := @k_internal_strconv_ParseInt_r39.eq_1; have f0 := @internal_strconv_ParseInt_j39.eq_1; have t0 := internal_strconv_ParseInt_j47_ok
 exact gs
theorem internal_strconv_ParseInt_j12_ok : ∀ (s1 : ByteArray) (base : Int) (bitSize : Int) (neg : Bool), Ok (internal_strconv_ParseInt_j12 s1 base bitSize neg) e_internal_strconv_ParseInt (ev FTA c_internal_strconv_ParseInt k_internal_strconv_ParseInt_r12 [] (putS (List.replicate 73 .dead) [(0, .t (.v (.string s1))), (1, .t (.v (.int .i64 base))), (2, .t (.v (.int .i64 bitSize))), (8, .t (.v (.bool neg)))]) (putR (List.replicate 73 []) [])) := by
 intro s1 base bitSize neg
 have k0 := @k_internal_strconv_ParseInt_r12.eq_1; have f0 := @internal_strconv_ParseInt_j12.eq_1; have g0 := internal_strconv_ParseUint_ok; have t0 := internal_strconv_ParseInt_j39_ok
 exact gs
theorem internal_strconv_ParseInt_ok : ∀ (s : ByteArray) (base : Int) (bitSize : Int), Ok (internal_strconv_ParseInt s base bitSize) e_internal_strconv_ParseInt (dn FTA n_internal_strconv_ParseInt [.t (.v (.string s)), .t (.v (.int .i64 base)), .t (.v (.int .i64 bitSize))]) := by
 intro s base bitSize
 rw [den_ev FTA (fn := k_internal_strconv_ParseInt) rfl (xN rfl rfl _) (lB rfl)]
 have k0 := @k_internal_strconv_ParseInt.eq_1; have f0 := @internal_strconv_ParseInt.eq_1; have t0 := internal_strconv_ParseInt_j12_ok
 exact gs
theorem strconv_ParseInt_ok : ∀ (s : ByteArray) (base : Int) (bitSize : Int), Ok (strconv_ParseInt s base bitSize) e_strconv_ParseInt (dn FTA n_strconv_ParseInt [.t (.v (.string s)), .t (.v (.int .i64 base)), .t (.v (.int .i64 bitSize))]) := by
 intro s base bitSize
 rw [den_ev FTA (fn := k_strconv_ParseInt) rfl (xN rfl rfl _) (lB rfl)]
 have k0 := @k_strconv_ParseInt.eq_1; have f0 := @strconv_ParseInt.eq_1; have g0 := internal_strconv_ParseInt_ok
 exact gs
theorem impl_SignText_ok : ∀ (n : Int), Ok (impl_SignText n) e_impl_SignText (dn FTA n_impl_SignText [.t (.v (.int .i64 n))]) := by
 intro n
 rw [den_ev FTA (fn := k_impl_SignText) rfl (xN rfl rfl _) (lB rfl)]
 have k0 := @k_impl_SignText.eq_1; have f0 := @impl_SignText.eq_1; have g0 := impl_in_ok
 exact gs
theorem impl_numbered_ok : ∀ (s : ByteArray) (base : Int) (most : Int), Ok (impl_numbered s base most) e_impl_numbered (dn FTA n_impl_numbered [.t (.v (.string s)), .t (.v (.int .i64 base)), .t (.v (.int .i64 most))]) := by
 intro s base most
 rw [den_ev FTA (fn := k_impl_numbered) rfl (xN rfl rfl _) (lB rfl)]
 have k0 := @k_impl_numbered.eq_1; have f0 := @impl_numbered.eq_1; have g0 := impl_isDigits_ok; have g1 := strconv_ParseInt_ok; have g2 := impl_IsSign_ok; have g3 := impl_SignText_ok
 exact gs
theorem impl_stands_ok : ∀ (name : ByteArray) (l : List GEnt), Ok (impl_stands name l) e_impl_stands (dn FTA n_impl_stands [.t (.v (.string name)), .t (.sl false (l.map GEnt.row))]) := by
 intro name l
 rw [den_ev FTA (fn := k_impl_stands) rfl (xN rfl rfl _) (lB rfl)]
 have k0 := @k_impl_stands.eq_1; have f0 := @impl_stands.eq_1; have g0 := strings_CutPrefix_ok; have g1 := impl_numbered_ok; have g2 := impl_ownNames_ok; have g3 := slices_Index_string_ok; have g4 := impl_entAt_ok
 exact gs
end TT
