import Derived.Test.YtgihjlfmnfbcaaaDoorTLLb
set_option maxHeartbeats 2000000
set_option linter.unusedVariables false
set_option linter.unusedSimpArgs false
set_option linter.defProp false
set_option maxRecDepth 100000
namespace TT
open Go
open Nat (reduceAdd reduceSub reduceMul reduceLeDiff reduceLT reduceEqDiff)
theorem Ga : ∀ (n : Int), Ok (Ak n) H5 (dn BV FP [.t (.v (.int .i64 n))]) := by
 intro n
 rw [AU BV (fn := Dk) rfl (xN rfl rfl _) (lB rfl)]
 have k0 := @Dk.eq_1; have f0 := @Ak.eq_1
 exact gs
theorem HQ (s : ByteArray) : ∀ (i : Int), Ok (Av s i) Ev (ev BV GW (.loop DI) [.lv 0, .th DJ] (Gs (List.replicate 18 .dead) [(0, .t (.v (.string s))), (3, .t (.v (.int .i64 i)))]) (Gu (List.replicate 18 []) [])) := by
 unfold Ok
 refine Av.partial_correctness s _ ?_
 intro F ih i
 show Ok _ _ _
 have ih : ∀ (i : Int), Ok (F i) _ _ := ih
 rw [EH]
 have k0 := @DI.eq_1; have k1 := @DJ.eq_1; have g0 := Ga; have t0 := ih
 exact gs
theorem J8 : ∀ (s : ByteArray), Ok (Ah s) Ev (dn BV GT [.t (.v (.string s))]) := by
 intro s
 rw [AU BV (fn := DG) rfl (xN rfl rfl _) (lB rfl)]
 have k0 := @DG.eq_1; have f0 := @Ah.eq_1; have t0 := HQ
 exact gs
theorem Qd : ∀ (code : List Int) (i : Int), Ok (BY code i) MS (dn BV J4 [.t (.sl false (code.map (rK .u8))), .t (.v (.int .i64 i))]) := by
 intro code i
 rw [AU BV (fn := HK) rfl (xN rfl rfl _) (lB rfl)]
 have k0 := @HK.eq_1; have f0 := @BY.eq_1
 exact gs
theorem laws_FnClasses_ok : ∀ (code : List Int), Ok (E2 code) G1 (dn BV J3 [.t (.sl false (code.map (rK .u8)))]) := by
 intro code
 rw [AU BV (fn := D1) rfl (xN rfl rfl _) (lB rfl)]
 have k0 := @D1.eq_1; have f0 := @E2.eq_1; have g0 := Oq; have g1 := Hy; have g2 := HO; have g3 := Hz; have g4 := I2; have g5 := H6; have g6 := Kp; have g7 := Kq; have g8 := GX; have g9 := GY; have g10 := H7; have g11 := H8; have g12 := GZ; have g13 := Ks; have g14 := Ku; have g15 := J7; have g16 := J8; have g17 := Qd; have g18 := Ga
 exact gs
end TT
