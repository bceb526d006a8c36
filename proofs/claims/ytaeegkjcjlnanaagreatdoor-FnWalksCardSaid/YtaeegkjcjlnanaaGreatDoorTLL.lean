import Derived.Test.YtaeegkjcjlnanaaGreatDoorTLLg
set_option maxHeartbeats 2000000
set_option linter.unusedVariables false
set_option linter.unusedSimpArgs false
set_option linter.defProp false
set_option maxRecDepth 100000
namespace TT
open Go
open Nat (reduceAdd reduceSub reduceMul reduceLeDiff reduceLT reduceEqDiff)
theorem UC (s1 : List A0) (s2 : List A0) : Ok (Az s1 s2) BS (dn AG F8 [.t (.sl false (s1.map (A0.row false))), .t (.sl false (s2.map (A0.row false))), .fn E3 []]) := Q8.2.1 s1 s2
theorem RQ (a : List Int) (b : List Int) : ∀ (i : Int), Ok (CR a b i) M1 (ev AG Q3 (.loop Gp) [.lv 0, .th Gq] (Ba (List.replicate 26 .dead) [(0, .t (.sl false (a.map rI))), (1, .t (.sl false (b.map rI))), (5, .t (.v (.int .i64 i)))]) (Bb (List.replicate 26 []) [])) := by
 unfold Ok
 refine CR.partial_correctness a b _ ?_
 intro F ih i
 show Ok _ _ _
 have ih : ∀ (i : Int), Ok (F i) _ _ := ih
 rw [AX]
 have k0 := @Gp.eq_1; have k1 := @Gq.eq_1; have t0 := ih
 exact gs
theorem Wf : ∀ (a : List Int) (b : List Int), Ok (H9 a b) M1 (dn AG Pw [.t (.sl false (a.map rI)), .t (.sl false (b.map rI))]) := by
 intro a b
 rw [A9 AG (fn := HL) rfl (xN rfl rfl _) (lB rfl)]
 have k0 := @HL.eq_1; have f0 := @H9.eq_1; have t0 := RQ
 exact gs
theorem KH : ∀ (a : A8) (b : A8), Ok (AY a b) Q4 (dn AG C4 [.agg (((A8.row false) a).map .t), .agg (((A8.row false) b).map .t)]) := by
 intro a b
 rw [A9 AG (fn := HJ) rfl (xN rfl rfl _) (lB rfl)]
 have k0 := @HJ.eq_1; have f0 := @AY.eq_1; have g0 := We; have g1 := Wf
 exact gs
theorem Ol : ∀ (w : A8), Ok (Bu w) VA (dn AG GS [.agg (((A8.row false) w).map .t)]) := by
 intro w
 rw [A9 AG (fn := Mc) rfl (xN rfl rfl _) (lB rfl)]
 have k0 := @Mc.eq_1; have f0 := @Bu.eq_1; have g0 := Je
 exact gs
theorem VQ (w : A8) : ∀ (n : Int) (i : Int) (x4 : A0), Ok (BF n i w x4) Pm (ev AG VB (.loop Jn) [.lv 0, .th Lb] (Ba (List.replicate 34 .dead) [(1, .ptr (1, 0) [] 0 0 1 0), (3, .t (.v (.int .i64 n))), (4, .ptr (4, 0) [] 0 0 1 0), (5, .t (.v (.int .i64 i)))]) (Bb (List.replicate 34 []) [(1, [.mem [[.v (.int .i64 w.Tre.Kind), .v (.string w.Tre.Pre), .v (.string w.Tre.Local), .v (.string w.Tre.Uri), .sl false (w.Tre.Decls.map A1.row), .sl false (w.Tre.Attrs.map A3.row), .sl false (w.Tre.Kids.map (A0.row false)), .v (.string w.Tre.Text), .sl false (w.Path.map rI)]] 0 false]), (4, [.mem [[.v (.int .i64 x4.Kind), .v (.string x4.Pre), .v (.string x4.Local), .v (.string x4.Uri), .sl false (x4.Decls.map A1.row), .sl false (x4.Attrs.map A3.row), .sl false (x4.Kids.map (A0.row false)), .v (.string x4.Text)]] 0 false])])) := by
 unfold Ok
 refine BF.partial_correctness w _ ?_
 intro F ih n i x4
 show Ok _ _ _
 have ih : ∀ (n : Int) (i : Int) (x4 : A0), Ok (F n i x4) _ _ := ih
 rw [AX]
 have k0 := @Jn.eq_1; have k1 := @Lb.eq_1; have g0 := Jf; have t0 := ih
 exact gs
theorem cP : ∀ (w : A8), Ok (NU w) Pm (dn AG Ue [.agg (((A8.row false) w).map .t)]) := by
 intro w
 rw [A9 AG (fn := Me) rfl (xN rfl rfl _) (lB rfl)]
 have k0 := @Me.eq_1; have f0 := @NU.eq_1; have t0 := VQ
 exact gs
theorem gh : ∀ (w : A8), Ok (PB w) XH (dn AG XC [.agg (((A8.row false) w).map .t)]) := by
 intro w
 rw [A9 AG (fn := Nu) rfl (xN rfl rfl _) (lB rfl)]
 have k0 := @Nu.eq_1; have f0 := @PB.eq_1; have g0 := TP
 exact gs
theorem SG : ∀ (is : Bool) (r1 : A8 × Int) (r4 : A8 × Bool), Ok (De is r1 r4) Ja (ev AG Nh He [] (Ba (List.replicate 173 .dead) [(3, .ptr (3, 0) [] 0 0 1 0), (9, .ptr (9, 0) [] 0 0 1 0), (10, .t (.v (.bool is)))]) (Bb (List.replicate 173 []) [(3, [.mem [[.v (.int .i64 r1.1.Tre.Kind), .v (.string r1.1.Tre.Pre), .v (.string r1.1.Tre.Local), .v (.string r1.1.Tre.Uri), .sl false (r1.1.Tre.Decls.map A1.row), .sl false (r1.1.Tre.Attrs.map A3.row), .sl false (r1.1.Tre.Kids.map (A0.row false)), .v (.string r1.1.Tre.Text), .sl false (r1.1.Path.map rI)]] 0 false]), (9, [.mem [[.v (.int .i64 r4.1.Tre.Kind), .v (.string r4.1.Tre.Pre), .v (.string r4.1.Tre.Local), .v (.string r4.1.Tre.Uri), .sl false (r4.1.Tre.Decls.map A1.row), .sl false (r4.1.Tre.Attrs.map A3.row), .sl false (r4.1.Tre.Kids.map (A0.row false)), .v (.string r4.1.Tre.Text), .sl false (r4.1.Path.map rI)]] 0 false])])) := by
 intro is r1 r4
 have k0 := @He.eq_1; have f0 := @De.eq_1; have g0 := gh; have g1 := KH; have g2 := Ol
 exact gs
theorem SH : ∀ (ok : Bool) (is : Bool) (r1 : A8 × Int) (r2 : A8 × Bool) (r4 : A8 × Bool), Ok (Aq ok is r1 r2 r4) Ja (ev AG Nh Hf [] (Ba (List.replicate 173 .dead) [(3, .ptr (3, 0) [] 0 0 1 0), (5, .ptr (5, 0) [] 0 0 1 0), (6, .t (.v (.bool ok))), (9, .ptr (9, 0) [] 0 0 1 0), (10, .t (.v (.bool is)))]) (Bb (List.replicate 173 []) [(3, [.mem [[.v (.int .i64 r1.1.Tre.Kind), .v (.string r1.1.Tre.Pre), .v (.string r1.1.Tre.Local), .v (.string r1.1.Tre.Uri), .sl false (r1.1.Tre.Decls.map A1.row), .sl false (r1.1.Tre.Attrs.map A3.row), .sl false (r1.1.Tre.Kids.map (A0.row false)), .v (.string r1.1.Tre.Text), .sl false (r1.1.Path.map rI)]] 0 false]), (5, [.mem [[.v (.int .i64 r2.1.Tre.Kind), .v (.string r2.1.Tre.Pre), .v (.string r2.1.Tre.Local), .v (.string r2.1.Tre.Uri), .sl false (r2.1.Tre.Decls.map A1.row), .sl false (r2.1.Tre.Attrs.map A3.row), .sl false (r2.1.Tre.Kids.map (A0.row false)), .v (.string r2.1.Tre.Text), .sl false (r2.1.Path.map rI)]] 0 false]), (9, [.mem [[.v (.int .i64 r4.1.Tre.Kind), .v (.string r4.1.Tre.Pre), .v (.string r4.1.Tre.Local), .v (.string r4.1.Tre.Uri), .sl false (r4.1.Tre.Decls.map A1.row), .sl false (r4.1.Tre.Attrs.map A3.row), .sl false (r4.1.Tre.Kids.map (A0.row false)), .v (.string r4.1.Tre.Text), .sl false (r4.1.Path.map rI)]] 0 false])])) := by
 intro ok is r1 r2 r4
 have k0 := @Hf.eq_1; have f0 := @Aq.eq_1; have g0 := Zg; have g1 := KH; have g2 := Ol; have t0 := SG
 exact gs
theorem laws_FnWalks_ok : ∀ (code : List Int), Ok (N2 code) Ja (dn AG Z5 [.t (.sl false (code.map (rK .u8)))]) := by
 intro code
 rw [A9 AG (fn := IV) rfl (xN rfl rfl _) (lB rfl)]
 have k0 := @IV.eq_1; have f0 := @N2.eq_1; have g0 := jW; have g1 := Wd; have g2 := gb; have g3 := gc; have g4 := cN; have g5 := cO; have g6 := Zg; have g7 := mB; have g8 := KH; have g9 := Je; have g10 := Jf; have g11 := Ol; have g12 := cP; have t0 := SH
 exact gs
end TT
