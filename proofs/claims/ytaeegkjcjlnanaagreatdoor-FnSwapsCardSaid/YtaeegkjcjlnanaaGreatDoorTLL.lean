import Derived.Test.YtaeegkjcjlnanaaGreatDoorTLLg
set_option maxHeartbeats 2000000
set_option linter.unusedVariables false
set_option linter.unusedSimpArgs false
set_option linter.defProp false
set_option maxRecDepth 100000
namespace TT
open Go
open Nat (reduceAdd reduceSub reduceMul reduceLeDiff reduceLT reduceEqDiff)
theorem Qa : (∀ (a : A0) (b : A0), Ok (Dl a b) ML (dn AF DN [.agg (((A0.row false) a).map .t), .agg (((A0.row false) b).map .t)])) ∧
  (∀ (s1 : List A0) (s2 : List A0), Ok (B8 s1 s2) BU (dn AF FG [.t (.sl false (s1.map (A0.row false))), .t (.sl false (s2.map (A0.row false))), .fn DN []])) ∧
  (∀ (s2 : List A0) (s1 : List A0) (x2 : Int), Ok (AL s2 s1 x2) BU (ev AF Eh (.loop DS) [.lv 0, .th DT] (BZ (List.replicate 32 .dead) [(1, .t (.sl false (s2.map (A0.row false)))), (2, .fn DN []), (15, .t (.sl false (s1.map (A0.row false)))), (16, .t (.v (.int .i64 (A8 s1)))), (17, .t (.v (.int .i64 x2)))]) (Ba (List.replicate 32 []) []))) := by
 unfold Ok
 refine Dl.mutual_partial_correctness _ _ _ ?_ ?_ ?_
 ·intro F1 ih1 a b
  show Ok _ _ _
  have ih1 : ∀ (s1 : List A0) (s2 : List A0), Ok (F1 s1 s2) _ _ := ih1
  rw [A9 AF (fn := HW) rfl (xN rfl rfl _) (lB rfl)]
  have k0 := @HW.eq_1; have g0 := Vm; have g1 := ih1
  exact gs
 ·intro F2 ih2 s1 s2
  show Ok _ _ _
  have ih2 : ∀ (s2 : List A0) (s1 : List A0) (x2 : Int), Ok (F2 s2 s1 x2) _ _ := ih2
  rw [A9 AF (fn := DH) rfl (xN rfl rfl _) (lB rfl)]
  have k0 := @DH.eq_1; have t0 := ih2
  exact gs
 ·intro F0 F2 ih0 ih2 s2 s1 x2
  show Ok _ _ _
  have ih0 : ∀ (a : A0) (b : A0), Ok (F0 a b) _ _ := ih0
  have ih2 : ∀ (s2 : List A0) (s1 : List A0) (x2 : Int), Ok (F2 s2 s1 x2) _ _ := ih2
  rw [AZ]
  have k0 := @DS.eq_1; have k1 := @DT.eq_1; have g0 := ih0; have t0 := ih2
  exact gs
theorem Pe (a : A0) (b : A0) : Ok (Dl a b) ML (dn AF DN [.agg (((A0.row false) a).map .t), .agg (((A0.row false) b).map .t)]) := Qa.1 a b
theorem Ue (s1 : List A0) (s2 : List A0) : Ok (B8 s1 s2) BU (dn AF FG [.t (.sl false (s1.map (A0.row false))), .t (.sl false (s2.map (A0.row false))), .fn DN []]) := Qa.2.1 s1 s2
theorem S5 (a : List Int) (b : List Int) : ∀ (i : Int), Ok (CW a b i) MM (ev AF QW (.loop H1) [.lv 0, .th H3] (BZ (List.replicate 26 .dead) [(0, .t (.sl false (a.map rI))), (1, .t (.sl false (b.map rI))), (5, .t (.v (.int .i64 i)))]) (Ba (List.replicate 26 []) [])) := by
 unfold Ok
 refine CW.partial_correctness a b _ ?_
 intro F ih i
 show Ok _ _ _
 have ih : ∀ (i : Int), Ok (F i) _ _ := ih
 rw [AZ]
 have k0 := @H1.eq_1; have k1 := @H3.eq_1; have t0 := ih
 exact gs
theorem Wz : ∀ (a : List Int) (b : List Int), Ok (HL a b) MM (dn AF QP [.t (.sl false (a.map rI)), .t (.sl false (b.map rI))]) := by
 intro a b
 rw [A9 AF (fn := HX) rfl (xN rfl rfl _) (lB rfl)]
 have k0 := @HX.eq_1; have f0 := @HL.eq_1; have t0 := S5
 exact gs
theorem X0 : ∀ (a : AJ) (b : AJ), Ok (En a b) QX (dn AF HS [.agg (((AJ.row false) a).map .t), .agg (((AJ.row false) b).map .t)]) := by
 intro a b
 rw [A9 AF (fn := HV) rfl (xN rfl rfl _) (lB rfl)]
 have k0 := @HV.eq_1; have f0 := @En.eq_1; have g0 := Pe; have g1 := Wz
 exact gs
theorem laws_FnSwaps_ok : ∀ (code : List Int), Ok (NE code) Rf (dn AF Zi [.t (.sl false (code.map (rK .u8)))]) := by
 intro code
 rw [A9 AF (fn := Ii) rfl (xN rfl rfl _) (lB rfl)]
 have k0 := @Ii.eq_1; have f0 := @NE.eq_1; have g0 := jy; have g1 := Wx; have g2 := iC; have g3 := iE; have g4 := X0; have g5 := Vl; have g6 := O4; have g7 := Pe
 exact gs
end TT
