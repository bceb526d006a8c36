import Derived.Test.YtaeegkjcjlnanaaGreatDoorTLLa
set_option maxHeartbeats 2000000
set_option linter.unusedVariables false
set_option linter.unusedSimpArgs false
set_option linter.defProp false
set_option maxRecDepth 100000
namespace TT
open Go
open Nat (reduceAdd reduceSub reduceMul reduceLeDiff reduceLT reduceEqDiff)
theorem Ms : ∀ (a0 : Int) (least : Int) (most : Int), Ok (Dk a0 least most) Wn (dn AF G7 [.t (.v (.int .i64 a0)), .t (.v (.int .i64 least)), .t (.v (.int .i64 most))]) := by
 intro a0 least most
 rw [A9 AF (fn := Nl) rfl (xN rfl rfl _) (lB rfl)]
 have k0 := @Nl.eq_1; have f0 := @Dk.eq_1
 exact gs
theorem Ta (s : ByteArray) (at1 : Int) (n : Int) (least : Int) : ∀ (v1 : Int) (i : Int), Ok (Af s at1 n least v1 i) Fl (ev AF HC (.loop JP) [.lv 1, .th JQ] (Bk (List.replicate 102 .dead) [(0, .t (.v (.string s))), (1, .t (.v (.int .i64 at1))), (8, .t (.v (.int .i64 n))), (9, .t (.v (.int .i64 least))), (10, .t (.v (.int .i64 v1))), (11, .t (.v (.int .i64 i)))]) (Bm (List.replicate 102 []) [])) := by
 unfold Ok
 refine Af.partial_correctness s at1 n least _ ?_
 intro F ih v1 i
 show Ok _ _ _
 have ih : ∀ (v1 : Int) (i : Int), Ok (F v1 i) _ _ := ih
 rw [Aa]
 have k0 := @JP.eq_1; have k1 := @JQ.eq_1; have g0 := Ms; have t0 := ih
 exact gs
theorem NQ : ∀ (s : ByteArray) (at1 : Int) (n : Int) (least : Int) (v : Int), Ok (C5 s at1 n least v) Fl (ev AF HC EI [] (Bk (List.replicate 102 .dead) [(0, .t (.v (.string s))), (1, .t (.v (.int .i64 at1))), (8, .t (.v (.int .i64 n))), (9, .t (.v (.int .i64 least))), (10, .t (.v (.int .i64 v)))]) (Bm (List.replicate 102 []) [])) := by
 intro s at1 n least v
 have k0 := @EI.eq_1; have f0 := @C5.eq_1; have t0 := Ta
 exact gs
theorem Tb : ∀ (s : ByteArray) (at1 : Int) (x : Int) (x2 : Bool), Ok (Ce s at1 x x2) Fl (ev AF HC JN [.lv 0, .hk [.clean []], .th EI] (Bk (List.replicate 102 .dead) [(0, .t (.v (.string s))), (1, .t (.v (.int .i64 at1))), (7, .t (.v (.int .i64 (wr .i64 x)))), (39, .t (.v (.bool x2)))]) (Bm (List.replicate 102 []) [])) := by
 intro s at1 x x2
 have k0 := @JN.eq_1; have f0 := @Ce.eq_1; have t0 := NQ
 exact gs
theorem Tc : ∀ (s : ByteArray) (at1 : Int) (x : Int) (x1 : Bool), Ok (Cf s at1 x x1) Fl (ev AF HC JO [.lv 0, .hk [.clean []], .th EI] (Bk (List.replicate 102 .dead) [(0, .t (.v (.string s))), (1, .t (.v (.int .i64 at1))), (7, .t (.v (.int .i64 (wr .i64 x)))), (30, .t (.v (.bool x1)))]) (Bm (List.replicate 102 []) [])) := by
 intro s at1 x x1
 have k0 := @JO.eq_1; have f0 := @Cf.eq_1; have t0 := NQ; have t1 := Tb
 exact gs
theorem Qx : ∀ (s : ByteArray) (at1 : Int), Ok (Da s at1) Fl (dn AF O7 [.t (.v (.string s)), .t (.v (.int .i64 at1))]) := by
 intro s at1
 rw [A9 AF (fn := Ky) rfl (xN rfl rfl _) (lB rfl)]
 have k0 := @Ky.eq_1; have f0 := @Da.eq_1; have t0 := Tc
 exact gs
theorem Rx (n : Int) (l : List Int) : ∀ (i : Int), Ok (AW n l i) Lu (ev AF Pr (.loop Hr) [.lv 0, .th Hs] (Bk (List.replicate 24 .dead) [(0, .t (.v (.int .i64 n))), (1, .t (.sl false (l.map rI))), (5, .t (.v (.int .i64 i)))]) (Bm (List.replicate 24 []) [])) := by
 unfold Ok
 refine AW.partial_correctness n l _ ?_
 intro F ih i
 show Ok _ _ _
 have ih : ∀ (i : Int), Ok (F i) _ _ := ih
 rw [Aa]
 have k0 := @Hr.eq_1; have k1 := @Hs.eq_1; have g0 := Ms; have t0 := ih
 exact gs
theorem Ox : ∀ (n : Int) (l : List Int), Ok (D6 n l) Lu (dn AF LY [.t (.v (.int .i64 n)), .t (.sl false (l.map rI))]) := by
 intro n l
 rw [A9 AF (fn := Hf) rfl (xN rfl rfl _) (lB rfl)]
 have k0 := @Hf.eq_1; have f0 := @D6.eq_1; have t0 := Rx
 exact gs
theorem Q0 : ∀ (n : Int), Ok (CT n) Qg (dn AF N8 [.t (.v (.int .i64 n))]) := by
 intro n
 rw [A9 AF (fn := JR) rfl (xN rfl rfl _) (lB rfl)]
 have k0 := @JR.eq_1; have f0 := @CT.eq_1; have g0 := Ox
 exact gs
theorem Yn : ∀ (n : Int), Ok (D9 n) Se (dn AF SQ [.t (.v (.int .i64 n))]) := by
 intro n
 rw [A9 AF (fn := Kz) rfl (xN rfl rfl _) (lB rfl)]
 have k0 := @Kz.eq_1; have f0 := @D9.eq_1; have g0 := Q0; have g1 := Ox
 exact gs
theorem Ry (s : ByteArray) : ∀ (at1 : Int), Ok (AQ s at1) NF (ev AF Qh (.loop Ho) [.lv 0, .th Hp] (Bk (List.replicate 39 .dead) [(0, .t (.v (.string s))), (3, .t (.v (.int .i64 at1)))]) (Bm (List.replicate 39 []) [])) := by
 unfold Ok
 refine AQ.partial_correctness s _ ?_
 intro F ih at1
 show Ok _ _ _
 have ih : ∀ (at1 : Int), Ok (F at1) _ _ := ih
 rw [Aa]
 have k0 := @Ho.eq_1; have k1 := @Hp.eq_1; have g0 := Qx; have g1 := Q0; have g2 := Yn; have t0 := ih
 exact gs
theorem Hj : ∀ (s : ByteArray), Ok (B6 s) NF (dn AF FC [.t (.v (.string s))]) := by
 intro s
 rw [A9 AF (fn := JE) rfl (xN rfl rfl _) (lB rfl)]
 have k0 := @JE.eq_1; have f0 := @B6.eq_1; have g0 := Ms; have t0 := Ry
 exact gs
theorem TA : ∀ (s : ByteArray), Ok (GD s) Ua (dn AF PU [.t (.v (.string s))]) := by
 intro s
 rw [A9 AF (fn := Mm) rfl (xN rfl rfl _) (lB rfl)]
 have k0 := @Mm.eq_1; have f0 := @GD.eq_1
 exact gs
theorem TB : ∀ (s : ByteArray), Ok (CU s) Ub (dn AF PW [.t (.v (.string s))]) := by
 intro s
 rw [A9 AF (fn := Mi) rfl (xN rfl rfl _) (lB rfl)]
 have k0 := @Mi.eq_1; have f0 := @CU.eq_1; have g0 := Hj; have g1 := TA
 exact gs
theorem Yo : ∀ (n : Int), Ok (GE n) Sg (dn AF SR [.t (.v (.int .i64 n))]) := by
 intro n
 rw [A9 AF (fn := L5) rfl (xN rfl rfl _) (lB rfl)]
 have k0 := @L5.eq_1; have f0 := @GE.eq_1; have g0 := Ms
 exact gs
theorem Td (s : ByteArray) : ∀ (at1 : Int), Ok (B8 s at1) NG (ev AF Qi (.loop JS) [.lv 0, .th JT] (Bk (List.replicate 29 .dead) [(0, .t (.v (.string s))), (3, .t (.v (.int .i64 at1)))]) (Bm (List.replicate 29 []) [])) := by
 unfold Ok
 refine B8.partial_correctness s _ ?_
 intro F ih at1
 show Ok _ _ _
 have ih : ∀ (at1 : Int), Ok (F at1) _ _ := ih
 rw [Aa]
 have k0 := @JS.eq_1; have k1 := @JT.eq_1; have g0 := Qx; have g1 := Yo; have t0 := ih
 exact gs
theorem XM : ∀ (s : ByteArray), Ok (EK s) NG (dn AF Qb [.t (.v (.string s))]) := by
 intro s
 rw [A9 AF (fn := JU) rfl (xN rfl rfl _) (lB rfl)]
 have k0 := @JU.eq_1; have f0 := @EK.eq_1; have t0 := Td
 exact gs
theorem NR : ∀ (s : ByteArray), Ok (Ax s) Sh (dn AF DX [.t (.v (.string s))]) := by
 intro s
 rw [A9 AF (fn := Kw) rfl (xN rfl rfl _) (lB rfl)]
 have k0 := @Kw.eq_1; have f0 := @Ax.eq_1; have g0 := XM
 exact gs
theorem Uo : ∀ (d : A1), Ok (Dx d) OE (ev AF Si KE [] (Bk (List.replicate 31 .dead) [(1, .ptr (1, 0) [] 0 0 1 0)]) (Bm (List.replicate 31 []) [(1, [.mem [[.v (.string d.Pre), .v (.string d.Uri)]] 0 false])])) := by
 intro d
 have k0 := @KE.eq_1; have f0 := @Dx.eq_1; have g0 := NR
 exact gs
theorem Yp : ∀ (d : A1), Ok (GF d) OE (dn AF SP [.agg ((A1.row d).map .t)]) := by
 intro d
 rw [A9 AF (fn := L3) rfl (xN rfl rfl _) (lB rfl)]
 have k0 := @L3.eq_1; have f0 := @GF.eq_1; have g0 := Hj; have g1 := TA; have t0 := Uo
 exact gs
theorem Te (l : List A1) : ∀ (i : Int), Ok (B9 l i) NH (ev AF Qj (.loop JF) [.lv 0, .th JG] (Bk (List.replicate 37 .dead) [(0, .t (.sl false (l.map A1.row))), (3, .t (.v (.int .i64 i)))]) (Bm (List.replicate 37 []) [])) := by
 unfold Ok
 refine B9.partial_correctness l _ ?_
 intro F ih i
 show Ok _ _ _
 have ih : ∀ (i : Int), Ok (F i) _ _ := ih
 rw [Aa]
 have k0 := @JF.eq_1; have k1 := @JG.eq_1; have g0 := Yp; have t0 := ih
 exact gs
theorem XN : ∀ (l : List A1), Ok (C6 l) NH (dn AF QZ [.t (.sl false (l.map A1.row))]) := by
 intro l
 rw [A9 AF (fn := JH) rfl (xN rfl rfl _) (lB rfl)]
 have k0 := @JH.eq_1; have f0 := @C6.eq_1; have t0 := Te
 exact gs
theorem Yq : ∀ (n : A0), Ok (FO n) Sj (dn AF KS [.agg (((A0.row false) n).map .t)]) := by
 intro n
 rw [A9 AF (fn := Kx) rfl (xN rfl rfl _) (lB rfl)]
 have k0 := @Kx.eq_1; have f0 := @FO.eq_1
 exact gs
theorem Vz (s : ByteArray) (t : ByteArray) : ∀ (i : Int), Ok (Bg s t i) Pa (ev AF Uc (.loop Ls) [.lv 0, .th Lt] (Bk (List.replicate 24 .dead) [(0, .t (.v (.string s))), (1, .t (.v (.string t))), (5, .t (.v (.int .i64 i)))]) (Bm (List.replicate 24 []) [])) := by
 unfold Ok
 refine Bg.partial_correctness s t _ ?_
 intro F ih i
 show Ok _ _ _
 have ih : ∀ (i : Int), Ok (F i) _ _ := ih
 rw [Aa]
 have k0 := @Ls.eq_1; have k1 := @Lt.eq_1; have t0 := ih
 exact gs
theorem bK : ∀ (s : ByteArray) (t : ByteArray), Ok (D0 s t) Pa (dn AF Ih [.t (.v (.string s)), .t (.v (.string t))]) := by
 intro s t
 rw [A9 AF (fn := Mj) rfl (xN rfl rfl _) (lB rfl)]
 have k0 := @Mj.eq_1; have f0 := @D0.eq_1; have t0 := Vz
 exact gs
end TT
