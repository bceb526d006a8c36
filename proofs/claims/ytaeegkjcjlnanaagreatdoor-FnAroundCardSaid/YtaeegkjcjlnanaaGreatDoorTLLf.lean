import Derived.Test.YtaeegkjcjlnanaaGreatDoorTLLe
set_option maxHeartbeats 2000000
set_option linter.unusedVariables false
set_option linter.unusedSimpArgs false
set_option linter.defProp false
set_option maxRecDepth 100000
namespace TT
open Go
open Nat (reduceAdd reduceSub reduceMul reduceLeDiff reduceLT reduceEqDiff)
theorem R7 : ∀ (n : A0), Ok (II n) T4 (dn AF O5 [.agg (((A0.row false) n).map .t)]) := by
 intro n
 rw [A9 AF (fn := KW) rfl (xN rfl rfl _) (lB rfl)]
 have k0 := @KW.eq_1; have f0 := @II.eq_1; have g0 := Z4; have g1 := Z5
 exact gs
theorem R8 : ∀ (s : List (A1)), Ok (ET s) MB (dn AF Eo [.t (.sl false (s.map A1.row))]) := by
 intro s
 cases s with
 | nil =>
  intro r hr
  unfold ET at hr
  obtain ⟨_, _, h⟩ := Option.bind_eq_some_iff.1 hr
  cases h
  exact MM AF.ft (SD AF) (de rfl)
 | cons x s =>
  simp only [List.map_cons]
  rw [A9 AF (fn := CY) rfl (YQ rfl _ _) (Nat.le_of_ble_eq_true rfl)]
  simp only [Oo, RS, MC, CY, ET, reduceAdd, reduceSub, reduceMul, reduceLeDiff, reduceLT, reduceEqDiff, Nat.reduceBEq, ↓reduceIte, reduceCtorEq]
  refine E5 fun a h => ?_
  simp only [Oo, RS, *, reduceAdd, reduceSub, reduceMul, reduceLeDiff, reduceLT, reduceEqDiff, Nat.reduceBEq, ↓reduceIte, reduceCtorEq]
  exact dg rfl
theorem R9 : ∀ (s : List (A3)), Ok (EU s) MD (dn AF En [.t (.sl false (s.map A3.row))]) := by
 intro s
 cases s with
 | nil =>
  intro r hr
  unfold EU at hr
  obtain ⟨_, _, h⟩ := Option.bind_eq_some_iff.1 hr
  cases h
  exact MM AF.ft (SD AF) (de rfl)
 | cons x s =>
  simp only [List.map_cons]
  rw [A9 AF (fn := CZ) rfl (YQ rfl _ _) (Nat.le_of_ble_eq_true rfl)]
  simp only [Oo, RS, ME, CZ, EU, reduceAdd, reduceSub, reduceMul, reduceLeDiff, reduceLT, reduceEqDiff, Nat.reduceBEq, ↓reduceIte, reduceCtorEq]
  refine E5 fun a h => ?_
  simp only [Oo, RS, *, reduceAdd, reduceSub, reduceMul, reduceLeDiff, reduceLT, reduceEqDiff, Nat.reduceBEq, ↓reduceIte, reduceCtorEq]
  exact dg rfl
theorem Oy : (∀ (n : A0), Ok (C2 n) KJ (dn AF Dj [.agg (((A0.row false) n).map .t)])) ∧
  (∀ (l : List A0), Ok (Hg l) Fx (dn AF If [.t (.sl false (l.map (A0.row false)))])) ∧
  (∀ (out : List (A0)) (l : List A0) (x1 : Int), Ok (Dy out l x1) Fx (ev AF Nr (.loop G8) [.lv 0, .th G9] (Bk (List.replicate 19 .dead) [(3, .ref (16, 0) out.length), (6, .t (.sl false (l.map (A0.row false)))), (7, .t (.v (.int .i64 (AC l)))), (8, .t (.v (.int .i64 x1)))]) (Bm (List.replicate 19 []) [(16, [.mem (out.map (A0.row true)) 0 false])]))) := by
 unfold Ok
 refine C2.mutual_partial_correctness _ _ _ ?_ ?_ ?_
 ·intro F1 ih1 n
  show Ok _ _ _
  have ih1 : ∀ (l : List A0), Ok (F1 l) _ _ := ih1
  rw [A9 AF (fn := GU) rfl (xN rfl rfl _) (lB rfl)]
  have k0 := @GU.eq_1; have g0 := R8; have g1 := R9; have g2 := ih1
  exact gs
 ·intro F2 ih2 l
  show Ok _ _ _
  have ih2 : ∀ (out : List (A0)) (l : List A0) (x1 : Int), Ok (F2 out l x1) _ _ := ih2
  rw [A9 AF (fn := Fq) rfl (xN rfl rfl _) (lB rfl)]
  have k0 := @Fq.eq_1; have t0 := ih2
  exact gs
 ·intro F0 F2 ih0 ih2 out l x1
  show Ok _ _ _
  have ih0 : ∀ (n : A0), Ok (F0 n) _ _ := ih0
  have ih2 : ∀ (out : List (A0)) (l : List A0) (x1 : Int), Ok (F2 out l x1) _ _ := ih2
  rw [Aa]
  have k0 := @G8.eq_1; have k1 := @G9.eq_1; have g0 := ih0; have t0 := ih2
  exact gs
theorem Jg (n : A0) : Ok (C2 n) KJ (dn AF Dj [.agg (((A0.row false) n).map .t)]) := Oy.1 n
theorem kx (l : List A0) : Ok (Hg l) Fx (dn AF If [.t (.sl false (l.map (A0.row false)))]) := Oy.2.1 l
theorem Uu : ∀ (t : A0), Ok (IJ t) Wo (dn AF QV [.agg (((A0.row false) t).map .t)]) := by
 intro t
 rw [A9 AF (fn := Nf) rfl (xN rfl rfl _) (lB rfl)]
 have k0 := @Nf.eq_1; have f0 := @IJ.eq_1; have g0 := R7; have g1 := Jg
 exact gs
theorem Uv (path : List Int) : ∀ (x2 : Int) (n1 : A0), Ok (Dz path x2 n1) ON (ev AF T5 (.loop Jq) [.lv 0, .th Jr] (Bk (List.replicate 30 .dead) [(2, .ptr (2, 0) [] 0 0 1 0), (4, .ptr (4, 0) [] 0 0 1 0), (8, .t (.sl false (path.map rI))), (9, .t (.v (.int .i64 (AC path)))), (10, .t (.v (.int .i64 x2)))]) (Bm (List.replicate 30 []) [(2, [.mem [[.v (.int .i64 n1.Kind), .v (.string n1.Pre), .v (.string n1.Local), .v (.string n1.Uri), .sl false (n1.Decls.map A1.row), .sl false (n1.Attrs.map A3.row), .sl false (n1.Kids.map (A0.row false)), .v (.string n1.Text)]] 0 false]), (4, [.mem [[.v (.int .i64 0), .v (.string (⟨#[]⟩)), .v (.string (⟨#[]⟩)), .v (.string (⟨#[]⟩)), .sl true [], .sl true [], .sl true [], .v (.string (⟨#[]⟩))]] 0 false])])) := by
 unfold Ok
 refine Dz.partial_correctness path _ ?_
 intro F ih x2 n1
 show Ok _ _ _
 have ih : ∀ (x2 : Int) (n1 : A0), Ok (F x2 n1) _ _ := ih
 rw [Aa]
 have k0 := @Jq.eq_1; have k1 := @Jr.eq_1; have g0 := NT; have g1 := Jg; have t0 := ih
 exact gs
theorem Jh : ∀ (n : A0) (path : List Int), Ok (De n path) ON (dn AF Gz [.agg (((A0.row false) n).map .t), .t (.sl false (path.map rI))]) := by
 intro n path
 rw [A9 AF (fn := KU) rfl (xN rfl rfl _) (lB rfl)]
 have k0 := @KU.eq_1; have f0 := @De.eq_1; have t0 := Uv
 exact gs
theorem RA (a : List Int) (b : List Int) : ∀ (i : Int), Ok (CV a b i) Lx (ev AF Pv (.loop Gn) [.lv 0, .th Gp] (Bk (List.replicate 26 .dead) [(0, .t (.sl false (a.map rI))), (1, .t (.sl false (b.map rI))), (5, .t (.v (.int .i64 i)))]) (Bm (List.replicate 26 []) [])) := by
 unfold Ok
 refine CV.partial_correctness a b _ ?_
 intro F ih i
 show Ok _ _ _
 have ih : ∀ (i : Int), Ok (F i) _ _ := ih
 rw [Aa]
 have k0 := @Gn.eq_1; have k1 := @Gp.eq_1; have t0 := ih
 exact gs
theorem Oz : ∀ (a : List Int) (b : List Int), Ok (D7 a b) Lx (dn AF HM [.t (.sl false (a.map rI)), .t (.sl false (b.map rI))]) := by
 intro a b
 rw [A9 AF (fn := HP) rfl (xN rfl rfl _) (lB rfl)]
 have k0 := @HP.eq_1; have f0 := @D7.eq_1; have t0 := RA
 exact gs
theorem NU : ∀ (w : AI), Ok (GM w) T6 (dn AF KM [.agg (((AI.row false) w).map .t)]) := by
 intro w
 rw [A9 AF (fn := KX) rfl (xN rfl rfl _) (lB rfl)]
 have k0 := @KX.eq_1; have f0 := @GM.eq_1; have g0 := Jh; have g1 := R7
 exact gs
theorem fT : ∀ (w : AI), Ok (Oq w) Wp (dn AF Wj [.agg (((AI.row false) w).map .t)]) := by
 intro w
 rw [A9 AF (fn := Ng) rfl (xN rfl rfl _) (lB rfl)]
 have k0 := @Ng.eq_1; have f0 := @Oq.eq_1; have g0 := NU; have g1 := Jh
 exact gs
theorem OT (s1 : List A1) (s2 : List A1) : ∀ (x2 : Int), Ok (Aq s1 s2 x2) Gr (ev AF MF (.loop FE) [.lv 0, .th FF] (Bk (List.replicate 26 .dead) [(0, .t (.sl false (s1.map A1.row))), (1, .t (.sl false (s2.map A1.row))), (12, .t (.v (.int .i64 (AC s1)))), (13, .t (.v (.int .i64 x2)))]) (Bm (List.replicate 26 []) [])) := by
 unfold Ok
 refine Aq.partial_correctness s1 s2 _ ?_
 intro F ih x2
 show Ok _ _ _
 have ih : ∀ (x2 : Int), Ok (F x2) _ _ := ih
 rw [Aa]
 have k0 := @FE.eq_1; have k1 := @FF.eq_1; have t0 := ih
 exact gs
theorem RB : ∀ (s1 : List A1) (s2 : List A1), Ok (EV s1 s2) Gr (dn AF M4 [.t (.sl false (s1.map A1.row)), .t (.sl false (s2.map A1.row))]) := by
 intro s1 s2
 rw [A9 AF (fn := Ep) rfl (xN rfl rfl _) (lB rfl)]
 have k0 := @Ep.eq_1; have f0 := @EV.eq_1; have t0 := OT
 exact gs
theorem OU (s1 : List A3) (s2 : List A3) : ∀ (x2 : Int), Ok (Ar s1 s2 x2) Gs (ev AF MG (.loop FG) [.lv 0, .th FH] (Bk (List.replicate 26 .dead) [(0, .t (.sl false (s1.map A3.row))), (1, .t (.sl false (s2.map A3.row))), (12, .t (.v (.int .i64 (AC s1)))), (13, .t (.v (.int .i64 x2)))]) (Bm (List.replicate 26 []) [])) := by
 unfold Ok
 refine Ar.partial_correctness s1 s2 _ ?_
 intro F ih x2
 show Ok _ _ _
 have ih : ∀ (x2 : Int), Ok (F x2) _ _ := ih
 rw [Aa]
 have k0 := @FG.eq_1; have k1 := @FH.eq_1; have t0 := ih
 exact gs
theorem RC : ∀ (s1 : List A3) (s2 : List A3), Ok (EW s1 s2) Gs (dn AF M3 [.t (.sl false (s1.map A3.row)), .t (.sl false (s2.map A3.row))]) := by
 intro s1 s2
 rw [A9 AF (fn := Er) rfl (xN rfl rfl _) (lB rfl)]
 have k0 := @Er.eq_1; have f0 := @EW.eq_1; have t0 := OU
 exact gs
theorem Uw : ∀ (a : A0) (b : A0), Ok (GN a b) Ov (dn AF Og [.agg (((A0.row false) a).map .t), .agg (((A0.row false) b).map .t)]) := by
 intro a b
 rw [A9 AF (fn := GV) rfl (xN rfl rfl _) (lB rfl)]
 have k0 := @GV.eq_1; have f0 := @GN.eq_1; have g0 := RB; have g1 := RC
 exact gs
theorem Q2 : (∀ (a : A0) (b : A0), Ok (Df a b) Ly (dn AF DK [.agg (((A0.row false) a).map .t), .agg (((A0.row false) b).map .t)])) ∧
  (∀ (s1 : List A0) (s2 : List A0), Ok (BC s1 s2) BX (dn AF FA [.t (.sl false (s1.map (A0.row false))), .t (.sl false (s2.map (A0.row false))), .fn DK []])) ∧
  (∀ (s2 : List A0) (s1 : List A0) (x2 : Int), Ok (AK s2 s1 x2) BX (ev AF Eb (.loop DQ) [.lv 0, .th DR] (Bk (List.replicate 32 .dead) [(1, .t (.sl false (s2.map (A0.row false)))), (2, .fn DK []), (15, .t (.sl false (s1.map (A0.row false)))), (16, .t (.v (.int .i64 (AC s1)))), (17, .t (.v (.int .i64 x2)))]) (Bm (List.replicate 32 []) []))) := by
 unfold Ok
 refine Df.mutual_partial_correctness _ _ _ ?_ ?_ ?_
 ·intro F1 ih1 a b
  show Ok _ _ _
  have ih1 : ∀ (s1 : List A0) (s2 : List A0), Ok (F1 s1 s2) _ _ := ih1
  rw [A9 AF (fn := HQ) rfl (xN rfl rfl _) (lB rfl)]
  have k0 := @HQ.eq_1; have g0 := Uw; have g1 := ih1
  exact gs
 ·intro F2 ih2 s1 s2
  show Ok _ _ _
  have ih2 : ∀ (s2 : List A0) (s1 : List A0) (x2 : Int), Ok (F2 s2 s1 x2) _ _ := ih2
  rw [A9 AF (fn := DE) rfl (xN rfl rfl _) (lB rfl)]
  have k0 := @DE.eq_1; have t0 := ih2
  exact gs
 ·intro F0 F2 ih0 ih2 s2 s1 x2
  show Ok _ _ _
  have ih0 : ∀ (a : A0) (b : A0), Ok (F0 a b) _ _ := ih0
  have ih2 : ∀ (s2 : List A0) (s1 : List A0) (x2 : Int), Ok (F2 s2 s1 x2) _ _ := ih2
  rw [Aa]
  have k0 := @DQ.eq_1; have k1 := @DR.eq_1; have g0 := ih0; have t0 := ih2
  exact gs
theorem P0 (a : A0) (b : A0) : Ok (Df a b) Ly (dn AF DK [.agg (((A0.row false) a).map .t), .agg (((A0.row false) b).map .t)]) := Q2.1 a b
theorem Tw (s1 : List A0) (s2 : List A0) : Ok (BC s1 s2) BX (dn AF FA [.t (.sl false (s1.map (A0.row false))), .t (.sl false (s2.map (A0.row false))), .fn DK []]) := Q2.2.1 s1 s2
theorem P2 (s1 : List Int) (s2 : List Int) : ∀ (x2 : Int), Ok (BH s1 s2 x2) I1 (ev AF NO (.loop FX) [.lv 0, .th FY] (Bk (List.replicate 26 .dead) [(0, .t (.sl false (s1.map rI))), (1, .t (.sl false (s2.map rI))), (12, .t (.v (.int .i64 (AC s1)))), (13, .t (.v (.int .i64 x2)))]) (Bm (List.replicate 26 []) [])) := by
 unfold Ok
 refine BH.partial_correctness s1 s2 _ ?_
 intro F ih x2
 show Ok _ _ _
 have ih : ∀ (x2 : Int), Ok (F x2) _ _ := ih
 rw [Aa]
 have k0 := @FX.eq_1; have k1 := @FY.eq_1; have t0 := ih
 exact gs
theorem S6 : ∀ (s1 : List Int) (s2 : List Int), Ok (FL s1 s2) I1 (dn AF N7 [.t (.sl false (s1.map rI)), .t (.sl false (s2.map rI))]) := by
 intro s1 s2
 rw [A9 AF (fn := FZ) rfl (xN rfl rfl _) (lB rfl)]
 have k0 := @FZ.eq_1; have f0 := @FL.eq_1; have t0 := P2
 exact gs
theorem W8 : ∀ (a : List Int) (b : List Int), Ok (Fj a b) Pw (dn AF Pm [.t (.sl false (a.map rI)), .t (.sl false (b.map rI))]) := by
 intro a b
 rw [A9 AF (fn := Hb) rfl (xN rfl rfl _) (lB rfl)]
 have k0 := @Hb.eq_1; have f0 := @Fj.eq_1; have g0 := S6
 exact gs
theorem XW : ∀ (p : List Int) (a1 : AI), Ok (JZ p a1) Qt (dn AF Ie [.t (.sl false (p.map rI)), .lp [.v (.int .i64 a1.Tre.Kind), .v (.string a1.Tre.Pre), .v (.string a1.Tre.Local), .v (.string a1.Tre.Uri), .sl false (a1.Tre.Decls.map A1.row), .sl false (a1.Tre.Attrs.map A3.row), .sl false (a1.Tre.Kids.map (A0.row false)), .v (.string a1.Tre.Text), .sl false (a1.Path.map rI)] 0]) := by
 intro p a1
 rw [A9 AF (fn := Iy) rfl (xN rfl rfl _) (lB rfl)]
 have k0 := @Iy.eq_1; have f0 := @JZ.eq_1; have g0 := W8
 exact gs
end TT
