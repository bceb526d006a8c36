import Derived.Test.YtaeegkjcjlnanaaGreatDoorTLLa
set_option maxHeartbeats 2000000
set_option linter.unusedVariables false
set_option linter.unusedSimpArgs false
set_option linter.defProp false
set_option maxRecDepth 100000
namespace TT
open Go
open Nat (reduceAdd reduceSub reduceMul reduceLeDiff reduceLT reduceEqDiff)
theorem Jc : ∀ (a0 : Int) (least : Int) (most : Int), Ok (CW a0 least most) XE (dn AG FL [.t (.v (.int .i64 a0)), .t (.v (.int .i64 least)), .t (.v (.int .i64 most))]) := by
 intro a0 least most
 rw [A9 AG (fn := Nv) rfl (xN rfl rfl _) (lB rfl)]
 have k0 := @Nv.eq_1; have f0 := @CW.eq_1
 exact gs
theorem Tm (s : ByteArray) (at1 : Int) (n : Int) (least : Int) : ∀ (v1 : Int) (i : Int), Ok (Aa s at1 n least v1 i) Fl (ev AG HA (.loop JI) [.lv 1, .th JJ] (Ba (List.replicate 102 .dead) [(0, .t (.v (.string s))), (1, .t (.v (.int .i64 at1))), (8, .t (.v (.int .i64 n))), (9, .t (.v (.int .i64 least))), (10, .t (.v (.int .i64 v1))), (11, .t (.v (.int .i64 i)))]) (Bb (List.replicate 102 []) [])) := by
 unfold Ok
 refine Aa.partial_correctness s at1 n least _ ?_
 intro F ih v1 i
 show Ok _ _ _
 have ih : ∀ (v1 : Int) (i : Int), Ok (F v1 i) _ _ := ih
 rw [AX]
 have k0 := @JI.eq_1; have k1 := @JJ.eq_1; have g0 := Jc; have t0 := ih
 exact gs
theorem Ni : ∀ (s : ByteArray) (at1 : Int) (n : Int) (least : Int) (v : Int), Ok (C6 s at1 n least v) Fl (ev AG HA EC [] (Ba (List.replicate 102 .dead) [(0, .t (.v (.string s))), (1, .t (.v (.int .i64 at1))), (8, .t (.v (.int .i64 n))), (9, .t (.v (.int .i64 least))), (10, .t (.v (.int .i64 v)))]) (Bb (List.replicate 102 []) [])) := by
 intro s at1 n least v
 have k0 := @EC.eq_1; have f0 := @C6.eq_1; have t0 := Tm
 exact gs
theorem Tn : ∀ (s : ByteArray) (at1 : Int) (x : Int) (x2 : Bool), Ok (Cb s at1 x x2) Fl (ev AG HA JG [.lv 0, .hk [.clean []], .th EC] (Ba (List.replicate 102 .dead) [(0, .t (.v (.string s))), (1, .t (.v (.int .i64 at1))), (7, .t (.v (.int .i64 (wr .i64 x)))), (39, .t (.v (.bool x2)))]) (Bb (List.replicate 102 []) [])) := by
 intro s at1 x x2
 have k0 := @JG.eq_1; have f0 := @Cb.eq_1; have t0 := Ni
 exact gs
theorem To : ∀ (s : ByteArray) (at1 : Int) (x : Int) (x1 : Bool), Ok (Cc s at1 x x1) Fl (ev AG HA JH [.lv 0, .hk [.clean []], .th EC] (Ba (List.replicate 102 .dead) [(0, .t (.v (.string s))), (1, .t (.v (.int .i64 at1))), (7, .t (.v (.int .i64 (wr .i64 x)))), (30, .t (.v (.bool x1)))]) (Bb (List.replicate 102 []) [])) := by
 intro s at1 x x1
 have k0 := @JH.eq_1; have f0 := @Cc.eq_1; have t0 := Ni; have t1 := Tn
 exact gs
theorem R7 : ∀ (s : ByteArray) (at1 : Int), Ok (FO s at1) Fl (dn AG OK [.t (.v (.string s)), .t (.v (.int .i64 at1))]) := by
 intro s at1
 rw [A9 AG (fn := Ky) rfl (xN rfl rfl _) (lB rfl)]
 have k0 := @Ky.eq_1; have f0 := @FO.eq_1; have t0 := To
 exact gs
theorem S9 (n : Int) (l : List Int) : ∀ (i : Int), Ok (BL n l i) Lx (ev AG Q0 (.loop Hj) [.lv 0, .th Hk] (Ba (List.replicate 24 .dead) [(0, .t (.v (.int .i64 n))), (1, .t (.sl false (l.map rI))), (5, .t (.v (.int .i64 i)))]) (Bb (List.replicate 24 []) [])) := by
 unfold Ok
 refine BL.partial_correctness n l _ ?_
 intro F ih i
 show Ok _ _ _
 have ih : ∀ (i : Int), Ok (F i) _ _ := ih
 rw [AX]
 have k0 := @Hj.eq_1; have k1 := @Hk.eq_1; have g0 := Jc; have t0 := ih
 exact gs
theorem PE : ∀ (n : Int) (l : List Int), Ok (DU n l) Lx (dn AG La [.t (.v (.int .i64 n)), .t (.sl false (l.map rI))]) := by
 intro n l
 rw [A9 AG (fn := HW) rfl (xN rfl rfl _) (lB rfl)]
 have k0 := @HW.eq_1; have f0 := @DU.eq_1; have t0 := S9
 exact gs
theorem Q5 : ∀ (n : Int), Ok (ED n) Qo (dn AG NL [.t (.v (.int .i64 n))]) := by
 intro n
 rw [A9 AG (fn := JK) rfl (xN rfl rfl _) (lB rfl)]
 have k0 := @JK.eq_1; have f0 := @ED.eq_1; have g0 := PE
 exact gs
theorem ZJ : ∀ (n : Int), Ok (FP n) Sq (dn AG SZ [.t (.v (.int .i64 n))]) := by
 intro n
 rw [A9 AG (fn := Kz) rfl (xN rfl rfl _) (lB rfl)]
 have k0 := @Kz.eq_1; have f0 := @FP.eq_1; have g0 := Q5; have g1 := PE
 exact gs
theorem SA (s : ByteArray) : ∀ (at1 : Int), Ok (Ag s at1) NW (ev AG Qp (.loop Hg) [.lv 0, .th Hh] (Ba (List.replicate 39 .dead) [(0, .t (.v (.string s))), (3, .t (.v (.int .i64 at1)))]) (Bb (List.replicate 39 []) [])) := by
 unfold Ok
 refine Ag.partial_correctness s _ ?_
 intro F ih at1
 show Ok _ _ _
 have ih : ∀ (at1 : Int), Ok (F at1) _ _ := ih
 rw [AX]
 have k0 := @Hg.eq_1; have k1 := @Hh.eq_1; have g0 := R7; have g1 := Q5; have g2 := ZJ; have t0 := ih
 exact gs
theorem Hb : ∀ (s : ByteArray), Ok (Bj s) NW (dn AG FA [.t (.v (.string s))]) := by
 intro s
 rw [A9 AG (fn := J7) rfl (xN rfl rfl _) (lB rfl)]
 have k0 := @J7.eq_1; have f0 := @Bj.eq_1; have g0 := Jc; have t0 := SA
 exact gs
theorem TL : ∀ (s : ByteArray), Ok (GD s) Uv (dn AG Pb [.t (.v (.string s))]) := by
 intro s
 rw [A9 AG (fn := My) rfl (xN rfl rfl _) (lB rfl)]
 have k0 := @My.eq_1; have f0 := @GD.eq_1
 exact gs
theorem TM : ∀ (s : ByteArray), Ok (Dp s) Uw (dn AG Pe [.t (.v (.string s))]) := by
 intro s
 rw [A9 AG (fn := Mu) rfl (xN rfl rfl _) (lB rfl)]
 have k0 := @Mu.eq_1; have f0 := @Dp.eq_1; have g0 := Hb; have g1 := TL
 exact gs
theorem ZK : ∀ (n : Int), Ok (GE n) Ss (dn AG Sc [.t (.v (.int .i64 n))]) := by
 intro n
 rw [A9 AG (fn := L5) rfl (xN rfl rfl _) (lB rfl)]
 have k0 := @L5.eq_1; have f0 := @GE.eq_1; have g0 := Jc
 exact gs
theorem Tp (s : ByteArray) : ∀ (at1 : Int), Ok (BC s at1) NX (ev AG Qq (.loop JL) [.lv 0, .th JM] (Ba (List.replicate 29 .dead) [(0, .t (.v (.string s))), (3, .t (.v (.int .i64 at1)))]) (Bb (List.replicate 29 []) [])) := by
 unfold Ok
 refine BC.partial_correctness s _ ?_
 intro F ih at1
 show Ok _ _ _
 have ih : ∀ (at1 : Int), Ok (F at1) _ _ := ih
 rw [AX]
 have k0 := @JL.eq_1; have k1 := @JM.eq_1; have g0 := R7; have g1 := ZK; have t0 := ih
 exact gs
theorem Xl : ∀ (s : ByteArray), Ok (Ge s) NX (dn AG Qi [.t (.v (.string s))]) := by
 intro s
 rw [A9 AG (fn := JN) rfl (xN rfl rfl _) (lB rfl)]
 have k0 := @JN.eq_1; have f0 := @Ge.eq_1; have t0 := Tp
 exact gs
theorem Nj : ∀ (s : ByteArray), Ok (BN s) Su (dn AG DR [.t (.v (.string s))]) := by
 intro s
 rw [A9 AG (fn := Kw) rfl (xN rfl rfl _) (lB rfl)]
 have k0 := @Kw.eq_1; have f0 := @BN.eq_1; have g0 := Xl
 exact gs
theorem VE : ∀ (d : A1), Ok (Dq d) OR (ev AG Sv KE [] (Ba (List.replicate 31 .dead) [(1, .ptr (1, 0) [] 0 0 1 0)]) (Bb (List.replicate 31 []) [(1, [.mem [[.v (.string d.Pre), .v (.string d.Uri)]] 0 false])])) := by
 intro d
 have k0 := @KE.eq_1; have f0 := @Dq.eq_1; have g0 := Nj
 exact gs
theorem ZL : ∀ (d : A1), Ok (GF d) OR (dn AG SY [.agg ((A1.row d).map .t)]) := by
 intro d
 rw [A9 AG (fn := L3) rfl (xN rfl rfl _) (lB rfl)]
 have k0 := @L3.eq_1; have f0 := @GF.eq_1; have g0 := Hb; have g1 := TL; have t0 := VE
 exact gs
theorem Tq (l : List A1) : ∀ (i : Int), Ok (BD l i) NY (ev AG Qr (.loop J8) [.lv 0, .th J9] (Ba (List.replicate 37 .dead) [(0, .t (.sl false (l.map A1.row))), (3, .t (.v (.int .i64 i)))]) (Bb (List.replicate 37 []) [])) := by
 unfold Ok
 refine BD.partial_correctness l _ ?_
 intro F ih i
 show Ok _ _ _
 have ih : ∀ (i : Int), Ok (F i) _ _ := ih
 rw [AX]
 have k0 := @J8.eq_1; have k1 := @J9.eq_1; have g0 := ZL; have t0 := ih
 exact gs
theorem Xm : ∀ (l : List A1), Ok (DM l) NY (dn AG Qf [.t (.sl false (l.map A1.row))]) := by
 intro l
 rw [A9 AG (fn := JA) rfl (xN rfl rfl _) (lB rfl)]
 have k0 := @JA.eq_1; have f0 := @DM.eq_1; have t0 := Tq
 exact gs
theorem ZM : ∀ (n : A0), Ok (FQ n) Sw (dn AG KP [.agg (((A0.row false) n).map .t)]) := by
 intro n
 rw [A9 AG (fn := Kx) rfl (xN rfl rfl _) (lB rfl)]
 have k0 := @Kx.eq_1; have f0 := @FQ.eq_1
 exact gs
theorem WY (s : ByteArray) (t : ByteArray) : ∀ (i : Int), Ok (Bg s t i) Pj (ev AG Ux (.loop Lv) [.lv 0, .th Lw] (Ba (List.replicate 24 .dead) [(0, .t (.v (.string s))), (1, .t (.v (.string t))), (5, .t (.v (.int .i64 i)))]) (Bb (List.replicate 24 []) [])) := by
 unfold Ok
 refine Bg.partial_correctness s t _ ?_
 intro F ih i
 show Ok _ _ _
 have ih : ∀ (i : Int), Ok (F i) _ _ := ih
 rw [AX]
 have k0 := @Lv.eq_1; have k1 := @Lw.eq_1; have t0 := ih
 exact gs
theorem cH : ∀ (s : ByteArray) (t : ByteArray), Ok (Cw s t) Pj (dn AG IU [.t (.v (.string s)), .t (.v (.string t))]) := by
 intro s t
 rw [A9 AG (fn := Mv) rfl (xN rfl rfl _) (lB rfl)]
 have k0 := @Mv.eq_1; have f0 := @Cw.eq_1; have t0 := WY
 exact gs
end TT
