import Derived.Test.YtjnjaaimgdjcgaaGreatDoorTLLa
set_option maxHeartbeats 2000000
set_option linter.unusedVariables false
set_option linter.unusedSimpArgs false
set_option linter.defProp false
set_option maxRecDepth 100000
namespace TT
open Go
open Nat (reduceAdd reduceSub reduceMul reduceLeDiff reduceLT reduceEqDiff)
theorem spec_SignAt_ok : ∀ (s : ByteArray) (at1 : Int), Ok (spec_SignAt s at1) e_spec_SignAt (dn FTA n_spec_SignAt [.t (.v (.string s)), .t (.v (.int .i64 at1))]) := by
 intro s at1
 rw [den_ev FTA (fn := k_spec_SignAt) rfl (xN rfl rfl _) (lB rfl)]
 have k0 := @k_spec_SignAt.eq_1; have f0 := @spec_SignAt.eq_1; have t0 := spec_SignAt_j28_ok
 exact gs
theorem spec_l1Ranges_l6_ok (n : Int) (l : List Int) : ∀ (i : Int), Ok (spec_l1Ranges_l6 n l i) e_spec_l1Ranges (ev FTA c_spec_l1Ranges (.loop k_spec_l1Ranges_l6) [.lv 0, .th k_spec_l1Ranges_r2] (putS (List.replicate 24 .dead) [(0, .t (.v (.int .i64 n))), (1, .t (.sl false (l.map rI))), (5, .t (.v (.int .i64 i)))]) (putR (List.replicate 24 []) [])) := by
 unfold Ok
 refine spec_l1Ranges_l6.partial_correctness n l _ ?_
 intro F ih i
 show Ok _ _ _
 have ih : ∀ (i : Int), Ok (F i) _ _ := ih
 rw [ev_loop]
 have k0 := @k_spec_l1Ranges_l6.eq_1; have k1 := @k_spec_l1Ranges_r2.eq_1; have g0 := spec_l1In_ok; have t0 := ih
 exact gs
theorem spec_l1Ranges_ok : ∀ (n : Int) (l : List Int), Ok (spec_l1Ranges n l) e_spec_l1Ranges (dn FTA n_spec_l1Ranges [.t (.v (.int .i64 n)), .t (.sl false (l.map rI))]) := by
 intro n l
 rw [den_ev FTA (fn := k_spec_l1Ranges) rfl (xN rfl rfl _) (lB rfl)]
 have k0 := @k_spec_l1Ranges.eq_1; have f0 := @spec_l1Ranges.eq_1; have t0 := spec_l1Ranges_l6_ok
 exact gs
theorem spec_IsStart_ok : ∀ (n : Int), Ok (spec_IsStart n) e_spec_IsStart (dn FTA n_spec_IsStart [.t (.v (.int .i64 n))]) := by
 intro n
 rw [den_ev FTA (fn := k_spec_IsStart) rfl (xN rfl rfl _) (lB rfl)]
 have k0 := @k_spec_IsStart.eq_1; have f0 := @spec_IsStart.eq_1; have g0 := spec_l1Ranges_ok
 exact gs
theorem spec_IsPart_ok : ∀ (n : Int), Ok (spec_IsPart n) e_spec_IsPart (dn FTA n_spec_IsPart [.t (.v (.int .i64 n))]) := by
 intro n
 rw [den_ev FTA (fn := k_spec_IsPart) rfl (xN rfl rfl _) (lB rfl)]
 have k0 := @k_spec_IsPart.eq_1; have f0 := @spec_IsPart.eq_1; have g0 := spec_IsStart_ok; have g1 := spec_l1Ranges_ok
 exact gs
theorem spec_PlainOk_l14_ok (s : ByteArray) : ∀ (at1 : Int), Ok (spec_PlainOk_l14 s at1) e_spec_PlainOk (ev FTA c_spec_PlainOk (.loop k_spec_PlainOk_l14) [.lv 0, .th k_spec_PlainOk_r10] (putS (List.replicate 39 .dead) [(0, .t (.v (.string s))), (3, .t (.v (.int .i64 at1)))]) (putR (List.replicate 39 []) [])) := by
 unfold Ok
 refine spec_PlainOk_l14.partial_correctness s _ ?_
 intro F ih at1
 show Ok _ _ _
 have ih : ∀ (at1 : Int), Ok (F at1) _ _ := ih
 rw [ev_loop]
 have k0 := @k_spec_PlainOk_l14.eq_1; have k1 := @k_spec_PlainOk_r10.eq_1; have g0 := spec_SignAt_ok; have g1 := spec_IsStart_ok; have g2 := spec_IsPart_ok; have t0 := ih
 exact gs
theorem spec_PlainOk_ok : ∀ (s : ByteArray), Ok (spec_PlainOk s) e_spec_PlainOk (dn FTA n_spec_PlainOk [.t (.v (.string s))]) := by
 intro s
 rw [den_ev FTA (fn := k_spec_PlainOk) rfl (xN rfl rfl _) (lB rfl)]
 have k0 := @k_spec_PlainOk.eq_1; have f0 := @spec_PlainOk.eq_1; have g0 := spec_l1In_ok; have t0 := spec_PlainOk_l14_ok
 exact gs
theorem spec_l4Xml_ok : ∀ (s : ByteArray), Ok (spec_l4Xml s) e_spec_l4Xml (dn FTA n_spec_l4Xml [.t (.v (.string s))]) := by
 intro s
 rw [den_ev FTA (fn := k_spec_l4Xml) rfl (xN rfl rfl _) (lB rfl)]
 have k0 := @k_spec_l4Xml.eq_1; have f0 := @spec_l4Xml.eq_1
 exact gs
theorem spec_l5Pre_ok : ∀ (s : ByteArray), Ok (spec_l5Pre s) e_spec_l5Pre (dn FTA n_spec_l5Pre [.t (.v (.string s))]) := by
 intro s
 rw [den_ev FTA (fn := k_spec_l5Pre) rfl (xN rfl rfl _) (lB rfl)]
 have k0 := @k_spec_l5Pre.eq_1; have f0 := @spec_l5Pre.eq_1; have g0 := spec_PlainOk_ok; have g1 := spec_l4Xml_ok
 exact gs
theorem spec_IsSign_ok : ∀ (n : Int), Ok (spec_IsSign n) e_spec_IsSign (dn FTA n_spec_IsSign [.t (.v (.int .i64 n))]) := by
 intro n
 rw [den_ev FTA (fn := k_spec_IsSign) rfl (xN rfl rfl _) (lB rfl)]
 have k0 := @k_spec_IsSign.eq_1; have f0 := @spec_IsSign.eq_1; have g0 := spec_l1In_ok
 exact gs
theorem spec_l1Signs_l6_ok (s : ByteArray) : ∀ (at1 : Int), Ok (spec_l1Signs_l6 s at1) e_spec_l1Signs (ev FTA c_spec_l1Signs (.loop k_spec_l1Signs_l6) [.lv 0, .th k_spec_l1Signs_r2] (putS (List.replicate 29 .dead) [(0, .t (.v (.string s))), (3, .t (.v (.int .i64 at1)))]) (putR (List.replicate 29 []) [])) := by
 unfold Ok
 refine spec_l1Signs_l6.partial_correctness s _ ?_
 intro F ih at1
 show Ok _ _ _
 have ih : ∀ (at1 : Int), Ok (F at1) _ _ := ih
 rw [ev_loop]
 have k0 := @k_spec_l1Signs_l6.eq_1; have k1 := @k_spec_l1Signs_r2.eq_1; have g0 := spec_SignAt_ok; have g1 := spec_IsSign_ok; have t0 := ih
 exact gs
theorem spec_l1Signs_ok : ∀ (s : ByteArray), Ok (spec_l1Signs s) e_spec_l1Signs (dn FTA n_spec_l1Signs [.t (.v (.string s))]) := by
 intro s
 rw [den_ev FTA (fn := k_spec_l1Signs) rfl (xN rfl rfl _) (lB rfl)]
 have k0 := @k_spec_l1Signs.eq_1; have f0 := @spec_l1Signs.eq_1; have t0 := spec_l1Signs_l6_ok
 exact gs
theorem spec_TextOk_ok : ∀ (s : ByteArray), Ok (spec_TextOk s) e_spec_TextOk (dn FTA n_spec_TextOk [.t (.v (.string s))]) := by
 intro s
 rw [den_ev FTA (fn := k_spec_TextOk) rfl (xN rfl rfl _) (lB rfl)]
 have k0 := @k_spec_TextOk.eq_1; have f0 := @spec_TextOk.eq_1; have g0 := spec_l1Signs_ok
 exact gs
theorem spec_DeclOk_j2_ok : ∀ (d : GDecl), Ok (spec_DeclOk_j2 d) e_spec_DeclOk (ev FTA c_spec_DeclOk k_spec_DeclOk_r2 [] (putS (List.replicate 31 .dead) [(1, .ptr (1, 0) [] 0 0 1 0)]) (putR (List.replicate 31 []) [(1, [.mem [[.v (.string d.Pre), .v (.string d.Uri)]] 0 false])])) := by
 intro d
 have k0 := @k_spec_DeclOk_r2.eq_1; have f0 := @spec_DeclOk_j2.eq_1; have g0 := spec_TextOk_ok
 exact gs
theorem spec_DeclOk_ok : ∀ (d : GDecl), Ok (spec_DeclOk d) e_spec_DeclOk (dn FTA n_spec_DeclOk [.agg ((GDecl.row d).map .t)]) := by
 intro d
 rw [den_ev FTA (fn := k_spec_DeclOk) rfl (xN rfl rfl _) (lB rfl)]
 have k0 := @k_spec_DeclOk.eq_1; have f0 := @spec_DeclOk.eq_1; have g0 := spec_PlainOk_ok; have g1 := spec_l4Xml_ok; have t0 := spec_DeclOk_j2_ok
 exact gs
theorem spec_DeclsOk_l6_ok (l : List GDecl) : ∀ (i : Int), Ok (spec_DeclsOk_l6 l i) e_spec_DeclsOk (ev FTA c_spec_DeclsOk (.loop k_spec_DeclsOk_l6) [.lv 0, .th k_spec_DeclsOk_r2] (putS (List.replicate 37 .dead) [(0, .t (.sl false (l.map GDecl.row))), (3, .t (.v (.int .i64 i)))]) (putR (List.replicate 37 []) [])) := by
 unfold Ok
 refine spec_DeclsOk_l6.partial_correctness l _ ?_
 intro F ih i
 show Ok _ _ _
 have ih : ∀ (i : Int), Ok (F i) _ _ := ih
 rw [ev_loop]
 have k0 := @k_spec_DeclsOk_l6.eq_1; have k1 := @k_spec_DeclsOk_r2.eq_1; have g0 := spec_DeclOk_ok; have t0 := ih
 exact gs
theorem spec_DeclsOk_ok : ∀ (l : List GDecl), Ok (spec_DeclsOk l) e_spec_DeclsOk (dn FTA n_spec_DeclsOk [.t (.sl false (l.map GDecl.row))]) := by
 intro l
 rw [den_ev FTA (fn := k_spec_DeclsOk) rfl (xN rfl rfl _) (lB rfl)]
 have k0 := @k_spec_DeclsOk.eq_1; have f0 := @spec_DeclsOk.eq_1; have t0 := spec_DeclsOk_l6_ok
 exact gs
theorem spec_l5Bare_ok : ∀ (n : GNode), Ok (spec_l5Bare n) e_spec_l5Bare (dn FTA n_spec_l5Bare [.agg (((GNode.row false) n).map .t)]) := by
 intro n
 rw [den_ev FTA (fn := k_spec_l5Bare) rfl (xN rfl rfl _) (lB rfl)]
 have k0 := @k_spec_l5Bare.eq_1; have f0 := @spec_l5Bare.eq_1
 exact gs
theorem spec_l5Has_l6_ok (s : ByteArray) (t : ByteArray) : ∀ (i : Int), Ok (spec_l5Has_l6 s t i) e_spec_l5Has (ev FTA c_spec_l5Has (.loop k_spec_l5Has_l6) [.lv 0, .th k_spec_l5Has_r2] (putS (List.replicate 24 .dead) [(0, .t (.v (.string s))), (1, .t (.v (.string t))), (5, .t (.v (.int .i64 i)))]) (putR (List.replicate 24 []) [])) := by
 unfold Ok
 refine spec_l5Has_l6.partial_correctness s t _ ?_
 intro F ih i
 show Ok _ _ _
 have ih : ∀ (i : Int), Ok (F i) _ _ := ih
 rw [ev_loop]
 have k0 := @k_spec_l5Has_l6.eq_1; have k1 := @k_spec_l5Has_r2.eq_1; have t0 := ih
 exact gs
theorem spec_l5Has_ok : ∀ (s : ByteArray) (t : ByteArray), Ok (spec_l5Has s t) e_spec_l5Has (dn FTA n_spec_l5Has [.t (.v (.string s)), .t (.v (.string t))]) := by
 intro s t
 rw [den_ev FTA (fn := k_spec_l5Has) rfl (xN rfl rfl _) (lB rfl)]
 have k0 := @k_spec_l5Has.eq_1; have f0 := @spec_l5Has.eq_1; have t0 := spec_l5Has_l6_ok
 exact gs
theorem spec_l5Xml_ok : ∀ (s : ByteArray), Ok (spec_l5Xml s) e_spec_l5Xml (dn FTA n_spec_l5Xml [.t (.v (.string s))]) := by
 intro s
 rw [den_ev FTA (fn := k_spec_l5Xml) rfl (xN rfl rfl _) (lB rfl)]
 have k0 := @k_spec_l5Xml.eq_1; have f0 := @spec_l5Xml.eq_1
 exact gs
theorem spec_IsBlank_ok : ∀ (n : Int), Ok (spec_IsBlank n) e_spec_IsBlank (dn FTA n_spec_IsBlank [.t (.v (.int .i64 n))]) := by
 intro n
 rw [den_ev FTA (fn := k_spec_IsBlank) rfl (xN rfl rfl _) (lB rfl)]
 have k0 := @k_spec_IsBlank.eq_1; have f0 := @spec_IsBlank.eq_1
 exact gs
theorem spec_l5AttrOk_j2_ok : ∀ (a : GAttr), Ok (spec_l5AttrOk_j2 a) e_spec_l5AttrOk (ev FTA c_spec_l5AttrOk k_spec_l5AttrOk_r2 [] (putS (List.replicate 46 .dead) [(1, .ptr (1, 0) [] 0 0 1 0)]) (putR (List.replicate 46 []) [(1, [.mem [[.v (.string a.Pre), .v (.string a.Local), .v (.string a.Uri), .v (.string a.Val)]] 0 false])])) := by
 intro a
 have k0 := @k_spec_l5AttrOk_r2.eq_1; have f0 := @spec_l5AttrOk_j2.eq_1; have g0 := spec_TextOk_ok
 exact gs
theorem spec_l5AttrOk_ok : ∀ (a : GAttr), Ok (spec_l5AttrOk a) e_spec_l5AttrOk (dn FTA n_spec_l5AttrOk [.agg ((GAttr.row a).map .t)]) := by
 intro a
 rw [den_ev FTA (fn := k_spec_l5AttrOk) rfl (xN rfl rfl _) (lB rfl)]
 have k0 := @k_spec_l5AttrOk.eq_1; have f0 := @spec_l5AttrOk.eq_1; have g0 := spec_l5Pre_ok; have g1 := spec_PlainOk_ok; have t0 := spec_l5AttrOk_j2_ok
 exact gs
theorem spec_l5Less_ok : ∀ (a : GAttr) (b : GAttr), Ok (spec_l5Less a b) e_spec_l5Less (dn FTA n_spec_l5Less [.agg ((GAttr.row a).map .t), .agg ((GAttr.row b).map .t)]) := by
 intro a b
 rw [den_ev FTA (fn := k_spec_l5Less) rfl (xN rfl rfl _) (lB rfl)]
 have k0 := @k_spec_l5Less.eq_1; have f0 := @spec_l5Less.eq_1
 exact gs
end TT
