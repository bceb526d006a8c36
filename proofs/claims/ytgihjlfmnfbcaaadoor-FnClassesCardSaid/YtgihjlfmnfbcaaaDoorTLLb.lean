import Derived.Test.YtgihjlfmnfbcaaaDoorTLLa
set_option maxHeartbeats 2000000
set_option linter.unusedVariables false
set_option linter.unusedSimpArgs false
set_option linter.defProp false
set_option maxRecDepth 100000
namespace TT
open Go
open Nat (reduceAdd reduceSub reduceMul reduceLeDiff reduceLT reduceEqDiff)
theorem Kp : ∀ (n : Int), Ok (BA n) He (dn BV D9 [.t (.v (.int .i64 n))]) := by
 intro n
 rw [AU BV (fn := EK) rfl (xN rfl rfl _) (lB rfl)]
 have k0 := @EK.eq_1; have f0 := @BA.eq_1; have g0 := GX; have g1 := Fp
 exact gs
theorem GL : ∀ (a0 : Int) (least : Int) (most : Int), Ok (Cb a0 least most) Jc (dn BV DU [.t (.v (.int .i64 a0)), .t (.v (.int .i64 least)), .t (.v (.int .i64 most))]) := by
 intro a0 least most
 rw [AU BV (fn := Fd) rfl (xN rfl rfl _) (lB rfl)]
 have k0 := @Fd.eq_1; have f0 := @Cb.eq_1
 exact gs
theorem HP (n : Int) (l : List Int) : ∀ (i : Int), Ok (BN n l i) Eu (ev BV GU (.loop DK) [.lv 0, .th DL] (Gs (List.replicate 24 .dead) [(0, .t (.v (.int .i64 n))), (1, .t (.sl false (l.map rI))), (5, .t (.v (.int .i64 i)))]) (Gu (List.replicate 24 []) [])) := by
 unfold Ok
 refine BN.partial_correctness n l _ ?_
 intro F ih i
 show Ok _ _ _
 have ih : ∀ (i : Int), Ok (F i) _ _ := ih
 rw [EH]
 have k0 := @DK.eq_1; have k1 := @DL.eq_1; have g0 := GL; have t0 := ih
 exact gs
theorem G2 : ∀ (n : Int) (l : List Int), Ok (Cc n l) Eu (dn BV Er [.t (.v (.int .i64 n)), .t (.sl false (l.map rI))]) := by
 intro n l
 rw [AU BV (fn := DH) rfl (xN rfl rfl _) (lB rfl)]
 have k0 := @DH.eq_1; have f0 := @Cc.eq_1; have t0 := HP
 exact gs
theorem GY : ∀ (n : Int), Ok (D2 n) H0 (dn BV FQ [.t (.v (.int .i64 n))]) := by
 intro n
 rw [AU BV (fn := Di) rfl (xN rfl rfl _) (lB rfl)]
 have k0 := @Di.eq_1; have f0 := @D2.eq_1; have g0 := G2
 exact gs
theorem Kq : ∀ (n : Int), Ok (Ej n) Hf (dn BV HW [.t (.v (.int .i64 n))]) := by
 intro n
 rw [AU BV (fn := EL) rfl (xN rfl rfl _) (lB rfl)]
 have k0 := @EL.eq_1; have f0 := @Ej.eq_1; have g0 := GY; have g1 := G2
 exact gs
theorem H7 : ∀ (n : Int), Ok (CP n) Hg (dn BV EI [.t (.v (.int .i64 n))]) := by
 intro n
 rw [AU BV (fn := EM) rfl (xN rfl rfl _) (lB rfl)]
 have k0 := @EM.eq_1; have f0 := @CP.eq_1; have g0 := Fp
 exact gs
theorem H8 : ∀ (n : Int), Ok (DW n) Hh (dn BV Fk [.t (.v (.int .i64 n))]) := by
 intro n
 rw [AU BV (fn := EN) rfl (xN rfl rfl _) (lB rfl)]
 have k0 := @EN.eq_1; have f0 := @DW.eq_1; have g0 := GL
 exact gs
theorem GZ : ∀ (n : Int), Ok (AR n) H1 (dn BV Df [.t (.v (.int .i64 n))]) := by
 intro n
 rw [AU BV (fn := Dj) rfl (xN rfl rfl _) (lB rfl)]
 have k0 := @Dj.eq_1; have f0 := @AR.eq_1
 exact gs
theorem DO : ∀ (s : ByteArray), Ok (BH s) Ay (dn BV Ax [.t (.v (.string s))]) := by
 intro s r hr
 exact Vj BV.ft (Pd BV) (On s (e := Ay) (fun _ => rfl) hr)
theorem Kr : ∀ (s : ByteArray) (at1 : Int), Ok (Ek s at1) Hi (dn BV HU [.t (.v (.string s)), .t (.v (.int .i64 at1))]) := by
 intro s at1
 rw [AU BV (fn := EW) rfl (xN rfl rfl _) (lB rfl)]
 have k0 := @EW.eq_1; have f0 := @Ek.eq_1; have g0 := Ko; have g1 := DO
 exact gs
theorem I3 (s : ByteArray) : ∀ (at1 : Int), Ok (BB s at1) FS (ev BV H3 (.loop Dn) [.lv 0, .th Do] (Gs (List.replicate 26 .dead) [(0, .t (.v (.string s))), (3, .t (.v (.int .i64 at1)))]) (Gu (List.replicate 26 []) [])) := by
 unfold Ok
 refine BB.partial_correctness s _ ?_
 intro F ih at1
 show Ok _ _ _
 have ih : ∀ (at1 : Int), Ok (F at1) _ _ := ih
 rw [EH]
 have k0 := @Dn.eq_1; have k1 := @Do.eq_1; have g0 := Kr; have g1 := H7; have t0 := ih
 exact gs
theorem Jo : ∀ (s : ByteArray), Ok (E0 s) FS (dn BV Gv [.t (.v (.string s))]) := by
 intro s
 rw [AU BV (fn := Dp) rfl (xN rfl rfl _) (lB rfl)]
 have k0 := @Dp.eq_1; have f0 := @E0.eq_1; have t0 := I3
 exact gs
theorem Ks : ∀ (s : ByteArray), Ok (BC s) Hj (dn BV HV [.t (.v (.string s))]) := by
 intro s
 rw [AU BV (fn := EO) rfl (xN rfl rfl _) (lB rfl)]
 have k0 := @EO.eq_1; have f0 := @BC.eq_1; have g0 := Jo
 exact gs
theorem I4 (s : ByteArray) (at1 : Int) (n : Int) (least : Int) : ∀ (v1 : Int) (i : Int), Ok (Aa s at1 n least v1 i) Cd (ev BV DD (.loop Dx) [.lv 1, .th Dy] (Gs (List.replicate 102 .dead) [(0, .t (.v (.string s))), (1, .t (.v (.int .i64 at1))), (8, .t (.v (.int .i64 n))), (9, .t (.v (.int .i64 least))), (10, .t (.v (.int .i64 v1))), (11, .t (.v (.int .i64 i)))]) (Gu (List.replicate 102 []) [])) := by
 unfold Ok
 refine Aa.partial_correctness s at1 n least _ ?_
 intro F ih v1 i
 show Ok _ _ _
 have ih : ∀ (v1 : Int) (i : Int), Ok (F v1 i) _ _ := ih
 rw [EH]
 have k0 := @Dx.eq_1; have k1 := @Dy.eq_1; have g0 := GL; have t0 := ih
 exact gs
theorem FW : ∀ (s : ByteArray) (at1 : Int) (n : Int) (least : Int) (v : Int), Ok (Bb s at1 n least v) Cd (ev BV DD C4 [] (Gs (List.replicate 102 .dead) [(0, .t (.v (.string s))), (1, .t (.v (.int .i64 at1))), (8, .t (.v (.int .i64 n))), (9, .t (.v (.int .i64 least))), (10, .t (.v (.int .i64 v)))]) (Gu (List.replicate 102 []) [])) := by
 intro s at1 n least v
 have k0 := @C4.eq_1; have f0 := @Bb.eq_1; have t0 := I4
 exact gs
theorem I5 : ∀ (s : ByteArray) (at1 : Int) (x : Int) (x2 : Bool), Ok (C2 s at1 x x2) Cd (ev BV DD Dv [.lv 0, .hk [.clean []], .th C4] (Gs (List.replicate 102 .dead) [(0, .t (.v (.string s))), (1, .t (.v (.int .i64 at1))), (7, .t (.v (.int .i64 (wr .i64 x)))), (39, .t (.v (.bool x2)))]) (Gu (List.replicate 102 []) [])) := by
 intro s at1 x x2
 have k0 := @Dv.eq_1; have f0 := @C2.eq_1; have t0 := FW
 exact gs
theorem I6 : ∀ (s : ByteArray) (at1 : Int) (x : Int) (x1 : Bool), Ok (C3 s at1 x x1) Cd (ev BV DD Dw [.lv 0, .hk [.clean []], .th C4] (Gs (List.replicate 102 .dead) [(0, .t (.v (.string s))), (1, .t (.v (.int .i64 at1))), (7, .t (.v (.int .i64 (wr .i64 x)))), (30, .t (.v (.bool x1)))]) (Gu (List.replicate 102 []) [])) := by
 intro s at1 x x1
 have k0 := @Dw.eq_1; have f0 := @C3.eq_1; have t0 := FW; have t1 := I5
 exact gs
theorem Kt : ∀ (s : ByteArray) (at1 : Int), Ok (El s at1) Cd (dn BV HX [.t (.v (.string s)), .t (.v (.int .i64 at1))]) := by
 intro s at1
 rw [AU BV (fn := EX) rfl (xN rfl rfl _) (lB rfl)]
 have k0 := @EX.eq_1; have f0 := @El.eq_1; have t0 := I6
 exact gs
theorem I7 (s : ByteArray) : ∀ (at1 : Int), Ok (BD s at1) FU (ev BV H4 (.loop Dq) [.lv 0, .th Dr] (Gs (List.replicate 29 .dead) [(0, .t (.v (.string s))), (3, .t (.v (.int .i64 at1)))]) (Gu (List.replicate 29 []) [])) := by
 unfold Ok
 refine BD.partial_correctness s _ ?_
 intro F ih at1
 show Ok _ _ _
 have ih : ∀ (at1 : Int), Ok (F at1) _ _ := ih
 rw [EH]
 have k0 := @Dq.eq_1; have k1 := @Dr.eq_1; have g0 := Kt; have g1 := H8; have t0 := ih
 exact gs
theorem Jp : ∀ (s : ByteArray), Ok (E1 s) FU (dn BV Gw [.t (.v (.string s))]) := by
 intro s
 rw [AU BV (fn := Ds) rfl (xN rfl rfl _) (lB rfl)]
 have k0 := @Ds.eq_1; have f0 := @E1.eq_1; have t0 := I7
 exact gs
theorem Ku : ∀ (s : ByteArray), Ok (BE s) Hk (dn BV HY [.t (.v (.string s))]) := by
 intro s
 rw [AU BV (fn := EP) rfl (xN rfl rfl _) (lB rfl)]
 have k0 := @EP.eq_1; have f0 := @BE.eq_1; have g0 := Jp
 exact gs
theorem I8 (s : ByteArray) : ∀ (at2 : Int), Ok (BF s at2) Fm (ev BV Hl (.loop Dt) [.lv 0, .th Du] (Gs (List.replicate 22 .dead) [(0, .t (.v (.string s))), (1, .t (.v (.int .i64 at2)))]) (Gu (List.replicate 22 []) [])) := by
 unfold Ok
 refine BF.partial_correctness s _ ?_
 intro F ih at2
 show Ok _ _ _
 have ih : ∀ (at2 : Int), Ok (F at2) _ _ := ih
 rw [EH]
 have k0 := @Dt.eq_1; have k1 := @Du.eq_1; have g0 := GZ; have t0 := ih
 exact gs
theorem Kv : ∀ (s : ByteArray) (at1 : Int), Ok (Ff s at1) Fm (dn BV HT [.t (.v (.string s)), .t (.v (.int .i64 at1))]) := by
 intro s at1
 rw [AU BV (fn := EU) rfl (xN rfl rfl _) (lB rfl)]
 have k0 := @EU.eq_1; have f0 := @Ff.eq_1; have t0 := I8
 exact gs
theorem J7 : ∀ (s : ByteArray), Ok (Ag s) GV (dn BV GS [.t (.v (.string s))]) := by
 intro s
 rw [AU BV (fn := DF) rfl (xN rfl rfl _) (lB rfl)]
 have k0 := @DF.eq_1; have f0 := @Ag.eq_1; have g0 := Kv
 exact gs
end TT
