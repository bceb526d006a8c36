import Derived.Test.YtaeegkjcjlnanaaGreatDoorTLLa
set_option maxHeartbeats 2000000
set_option linter.unusedVariables false
set_option linter.unusedSimpArgs false
set_option linter.defProp false
set_option maxRecDepth 100000
namespace TT
open Go
open Nat (reduceAdd reduceSub reduceMul reduceLeDiff reduceLT reduceEqDiff)
theorem Js : ∀ (a0 : Int) (least : Int) (most : Int), Ok (Cb a0 least most) Xf (dn AF FW [.t (.v (.int .i64 a0)), .t (.v (.int .i64 least)), .t (.v (.int .i64 most))]) := by
 intro a0 least most
 rw [A9 AF (fn := OI) rfl (xN rfl rfl _) (lB rfl)]
 have k0 := @OI.eq_1; have f0 := @Cb.eq_1
 exact gs
theorem UD (s : ByteArray) (at1 : Int) (n : Int) (least : Int) : ∀ (v1 : Int) (i : Int), Ok (Ac s at1 n least v1 i) Fv (ev AF HM (.loop JY) [.lv 1, .th JZ] (BZ (List.replicate 102 .dead) [(0, .t (.v (.string s))), (1, .t (.v (.int .i64 at1))), (8, .t (.v (.int .i64 n))), (9, .t (.v (.int .i64 least))), (10, .t (.v (.int .i64 v1))), (11, .t (.v (.int .i64 i)))]) (Ba (List.replicate 102 []) [])) := by
 unfold Ok
 refine Ac.partial_correctness s at1 n least _ ?_
 intro F ih v1 i
 show Ok _ _ _
 have ih : ∀ (v1 : Int) (i : Int), Ok (F v1 i) _ _ := ih
 rw [AZ]
 have k0 := @JY.eq_1; have k1 := @JZ.eq_1; have g0 := Js; have t0 := ih
 exact gs
theorem Nx : ∀ (s : ByteArray) (at1 : Int) (n : Int) (least : Int) (v : Int), Ok (C8 s at1 n least v) Fv (ev AF HM EQ [] (BZ (List.replicate 102 .dead) [(0, .t (.v (.string s))), (1, .t (.v (.int .i64 at1))), (8, .t (.v (.int .i64 n))), (9, .t (.v (.int .i64 least))), (10, .t (.v (.int .i64 v)))]) (Ba (List.replicate 102 []) [])) := by
 intro s at1 n least v
 have k0 := @EQ.eq_1; have f0 := @C8.eq_1; have t0 := UD
 exact gs
theorem UE : ∀ (s : ByteArray) (at1 : Int) (x : Int) (x2 : Bool), Ok (Ch s at1 x x2) Fv (ev AF HM JW [.lv 0, .hk [.clean []], .th EQ] (BZ (List.replicate 102 .dead) [(0, .t (.v (.string s))), (1, .t (.v (.int .i64 at1))), (7, .t (.v (.int .i64 (wr .i64 x)))), (39, .t (.v (.bool x2)))]) (Ba (List.replicate 102 []) [])) := by
 intro s at1 x x2
 have k0 := @JW.eq_1; have f0 := @Ch.eq_1; have t0 := Nx
 exact gs
theorem UF : ∀ (s : ByteArray) (at1 : Int) (x : Int) (x1 : Bool), Ok (Ci s at1 x x1) Fv (ev AF HM JX [.lv 0, .hk [.clean []], .th EQ] (BZ (List.replicate 102 .dead) [(0, .t (.v (.string s))), (1, .t (.v (.int .i64 at1))), (7, .t (.v (.int .i64 (wr .i64 x)))), (30, .t (.v (.bool x1)))]) (Ba (List.replicate 102 []) [])) := by
 intro s at1 x x1
 have k0 := @JX.eq_1; have f0 := @Ci.eq_1; have t0 := Nx; have t1 := UE
 exact gs
theorem Rj : ∀ (s : ByteArray) (at1 : Int), Ok (FZ s at1) Fv (dn AF Of [.t (.v (.string s)), .t (.v (.int .i64 at1))]) := by
 intro s at1
 rw [A9 AF (fn := LM) rfl (xN rfl rfl _) (lB rfl)]
 have k0 := @LM.eq_1; have f0 := @FZ.eq_1; have t0 := UF
 exact gs
theorem Sh (n : Int) (l : List Int) : ∀ (i : Int), Ok (BM n l i) MI (ev AF QT (.loop Ht) [.lv 0, .th Hu] (BZ (List.replicate 24 .dead) [(0, .t (.v (.int .i64 n))), (1, .t (.sl false (l.map rI))), (5, .t (.v (.int .i64 i)))]) (Ba (List.replicate 24 []) [])) := by
 unfold Ok
 refine BM.partial_correctness n l _ ?_
 intro F ih i
 show Ok _ _ _
 have ih : ∀ (i : Int), Ok (F i) _ _ := ih
 rw [AZ]
 have k0 := @Ht.eq_1; have k1 := @Hu.eq_1; have g0 := Js; have t0 := ih
 exact gs
theorem Pb : ∀ (n : Int) (l : List Int), Ok (Dd n l) MI (dn AF Lx [.t (.v (.int .i64 n)), .t (.sl false (l.map rI))]) := by
 intro n l
 rw [A9 AF (fn := Hj) rfl (xN rfl rfl _) (lB rfl)]
 have k0 := @Hj.eq_1; have f0 := @Dd.eq_1; have t0 := Sh
 exact gs
theorem QY : ∀ (n : Int), Ok (ER n) RL (dn AF Na [.t (.v (.int .i64 n))]) := by
 intro n
 rw [A9 AF (fn := Ja) rfl (xN rfl rfl _) (lB rfl)]
 have k0 := @Ja.eq_1; have f0 := @ER.eq_1; have g0 := Pb
 exact gs
theorem Zx : ∀ (n : Int), Ok (Fa n) TJ (dn AF T8 [.t (.v (.int .i64 n))]) := by
 intro n
 rw [A9 AF (fn := LN) rfl (xN rfl rfl _) (lB rfl)]
 have k0 := @LN.eq_1; have f0 := @Fa.eq_1; have g0 := QY; have g1 := Pb
 exact gs
theorem Si (s : ByteArray) : ∀ (at1 : Int), Ok (Aj s at1) Nl (ev AF RM (.loop Hq) [.lv 0, .th Hr] (BZ (List.replicate 39 .dead) [(0, .t (.v (.string s))), (3, .t (.v (.int .i64 at1)))]) (Ba (List.replicate 39 []) [])) := by
 unfold Ok
 refine Aj.partial_correctness s _ ?_
 intro F ih at1
 show Ok _ _ _
 have ih : ∀ (at1 : Int), Ok (F at1) _ _ := ih
 rw [AZ]
 have k0 := @Hq.eq_1; have k1 := @Hr.eq_1; have g0 := Rj; have g1 := QY; have g2 := Zx; have t0 := ih
 exact gs
theorem Ho : ∀ (s : ByteArray), Ok (Bo s) Nl (dn AF FI [.t (.v (.string s))]) := by
 intro s
 rw [A9 AF (fn := JN) rfl (xN rfl rfl _) (lB rfl)]
 have k0 := @JN.eq_1; have f0 := @Bo.eq_1; have g0 := Js; have t0 := Si
 exact gs
theorem Tl : ∀ (s : ByteArray), Ok (GR s) VJ (dn AF Q8 [.t (.v (.string s))]) := by
 intro s
 rw [A9 AF (fn := NA) rfl (xN rfl rfl _) (lB rfl)]
 have k0 := @NA.eq_1; have f0 := @GR.eq_1
 exact gs
theorem Tm : ∀ (s : ByteArray), Ok (Dz s) VK (dn AF QA [.t (.v (.string s))]) := by
 intro s
 rw [A9 AF (fn := N5) rfl (xN rfl rfl _) (lB rfl)]
 have k0 := @N5.eq_1; have f0 := @Dz.eq_1; have g0 := Ho; have g1 := Tl
 exact gs
theorem Zy : ∀ (n : Int), Ok (GS n) TK (dn AF T9 [.t (.v (.int .i64 n))]) := by
 intro n
 rw [A9 AF (fn := LQ) rfl (xN rfl rfl _) (lB rfl)]
 have k0 := @LQ.eq_1; have f0 := @GS.eq_1; have g0 := Js
 exact gs
theorem UG (s : ByteArray) : ∀ (at1 : Int), Ok (BG s at1) Nm (ev AF RN (.loop Jb) [.lv 0, .th Jc] (BZ (List.replicate 29 .dead) [(0, .t (.v (.string s))), (3, .t (.v (.int .i64 at1)))]) (Ba (List.replicate 29 []) [])) := by
 unfold Ok
 refine BG.partial_correctness s _ ?_
 intro F ih at1
 show Ok _ _ _
 have ih : ∀ (at1 : Int), Ok (F at1) _ _ := ih
 rw [AZ]
 have k0 := @Jb.eq_1; have k1 := @Jc.eq_1; have g0 := Rj; have g1 := Zy; have t0 := ih
 exact gs
theorem YH : ∀ (s : ByteArray), Ok (Gs s) Nm (dn AF RE [.t (.v (.string s))]) := by
 intro s
 rw [A9 AF (fn := Jd) rfl (xN rfl rfl _) (lB rfl)]
 have k0 := @Jd.eq_1; have f0 := @Gs.eq_1; have t0 := UG
 exact gs
theorem Ny : ∀ (s : ByteArray), Ok (BN s) TL (dn AF Db [.t (.v (.string s))]) := by
 intro s
 rw [A9 AF (fn := LK) rfl (xN rfl rfl _) (lB rfl)]
 have k0 := @LK.eq_1; have f0 := @BN.eq_1; have g0 := YH
 exact gs
theorem VZ : ∀ (d : A1), Ok (E0 d) Oo (ev AF TM KV [] (BZ (List.replicate 31 .dead) [(1, .ptr (1, 0) [] 0 0 1 0)]) (Ba (List.replicate 31 []) [(1, [.mem [[.v (.string d.Pre), .v (.string d.Uri)]] 0 false])])) := by
 intro d
 have k0 := @KV.eq_1; have f0 := @E0.eq_1; have g0 := Ny
 exact gs
theorem Zz : ∀ (d : A1), Ok (GT d) Oo (dn AF T7 [.agg ((A1.row d).map .t)]) := by
 intro d
 rw [A9 AF (fn := LO) rfl (xN rfl rfl _) (lB rfl)]
 have k0 := @LO.eq_1; have f0 := @GT.eq_1; have g0 := Ho; have g1 := Tl; have t0 := VZ
 exact gs
theorem UH (l : List A1) : ∀ (i : Int), Ok (BH l i) Nn (ev AF RO (.loop JO) [.lv 0, .th JP] (BZ (List.replicate 37 .dead) [(0, .t (.sl false (l.map A1.row))), (3, .t (.v (.int .i64 i)))]) (Ba (List.replicate 37 []) [])) := by
 unfold Ok
 refine BH.partial_correctness l _ ?_
 intro F ih i
 show Ok _ _ _
 have ih : ∀ (i : Int), Ok (F i) _ _ := ih
 rw [AZ]
 have k0 := @JO.eq_1; have k1 := @JP.eq_1; have g0 := Zz; have t0 := ih
 exact gs
theorem YI : ∀ (l : List A1), Ok (DW l) Nn (dn AF RA [.t (.sl false (l.map A1.row))]) := by
 intro l
 rw [A9 AF (fn := JQ) rfl (xN rfl rfl _) (lB rfl)]
 have k0 := @JQ.eq_1; have f0 := @DW.eq_1; have t0 := UH
 exact gs
theorem a7 : ∀ (n : A0), Ok (De n) TN (dn AF Kk [.agg (((A0.row false) n).map .t)]) := by
 intro n
 rw [A9 AF (fn := LL) rfl (xN rfl rfl _) (lB rfl)]
 have k0 := @LL.eq_1; have f0 := @De.eq_1
 exact gs
theorem Ws (s : ByteArray) (t : ByteArray) : ∀ (i : Int), Ok (Bj s t i) QE (ev AF VL (.loop MG) [.lv 0, .th MH] (BZ (List.replicate 24 .dead) [(0, .t (.v (.string s))), (1, .t (.v (.string t))), (5, .t (.v (.int .i64 i)))]) (Ba (List.replicate 24 []) [])) := by
 unfold Ok
 refine Bj.partial_correctness s t _ ?_
 intro F ih i
 show Ok _ _ _
 have ih : ∀ (i : Int), Ok (F i) _ _ := ih
 rw [AZ]
 have k0 := @MG.eq_1; have k1 := @MH.eq_1; have t0 := ih
 exact gs
theorem dA : ∀ (s : ByteArray) (t : ByteArray), Ok (D3 s t) QE (dn AF Ih [.t (.v (.string s)), .t (.v (.string t))]) := by
 intro s t
 rw [A9 AF (fn := N6) rfl (xN rfl rfl _) (lB rfl)]
 have k0 := @N6.eq_1; have f0 := @D3.eq_1; have t0 := Ws
 exact gs
end TT
