import Derived.Test.YtaeegkjcjlnanaaGreatDoorTLLg
set_option maxHeartbeats 2000000
set_option linter.unusedVariables false
set_option linter.unusedSimpArgs false
set_option linter.defProp false
set_option maxRecDepth 100000
namespace TT
open Go
open Nat (reduceAdd reduceSub reduceMul reduceLeDiff reduceLT reduceEqDiff)
theorem WC : ∀ (a : AI) (b : AI), Ok (HA a b) Py (dn AF Pn [.agg (((AI.row false) a).map .t), .agg (((AI.row false) b).map .t)]) := by
 intro a b
 rw [A9 AF (fn := HS) rfl (xN rfl rfl _) (lB rfl)]
 have k0 := @HS.eq_1; have f0 := @HA.eq_1; have g0 := P0; have g1 := Oz
 exact gs
theorem RF (code : List Int) (r2 : List (List Int)) (r1 : A0) : ∀ (ok : Bool) (i : Int) (w : AI), Ok (An code r2 ok i r1 w) Lz (ev AF Pz (.loop Gl) [.lv 0, .th Gm] (Bk (List.replicate 119 .dead) [(0, .t (.sl false (code.map (rK .u8)))), (3, .ptr (3, 0) [] 0 0 1 0), (4, .t (.sl false (r2.map (rL false rI)))), (5, .ptr (5, 0) [] 0 0 1 0), (6, .t (.v (.bool ok))), (7, .t (.v (.int .i64 i)))]) (Bm (List.replicate 119 []) [(3, [.mem [[.v (.int .i64 r1.Kind), .v (.string r1.Pre), .v (.string r1.Local), .v (.string r1.Uri), .sl false (r1.Decls.map A1.row), .sl false (r1.Attrs.map A3.row), .sl false (r1.Kids.map (A0.row false)), .v (.string r1.Text)]] 0 false]), (5, [.mem [[.v (.int .i64 w.Tre.Kind), .v (.string w.Tre.Pre), .v (.string w.Tre.Local), .v (.string w.Tre.Uri), .sl false (w.Tre.Decls.map A1.row), .sl false (w.Tre.Attrs.map A3.row), .sl false (w.Tre.Kids.map (A0.row false)), .v (.string w.Tre.Text), .sl false (w.Path.map rI)]] 0 false])])) := by
 unfold Ok
 refine An.partial_correctness code r2 r1 _ ?_
 intro F ih ok i w
 show Ok _ _ _
 have ih : ∀ (ok : Bool) (i : Int) (w : AI), Ok (F ok i w) _ _ := ih
 rw [Aa]
 have k0 := @Gl.eq_1; have k1 := @Gm.eq_1; have g0 := Jh; have g1 := Oz; have g2 := fT; have g3 := P0; have g4 := fU; have g5 := fV; have g6 := WB; have g7 := Uu; have g8 := fW; have g9 := WC; have t0 := ih
 exact gs
theorem laws_FnAround_ok : ∀ (code : List Int), Ok (L7 code) Lz (dn AF XB [.t (.sl false (code.map (rK .u8)))]) := by
 intro code
 rw [A9 AF (fn := HN) rfl (xN rfl rfl _) (lB rfl)]
 have k0 := @HN.eq_1; have f0 := @L7.eq_1; have g0 := iZ; have g1 := W6; have g2 := R1; have g3 := Uu; have t0 := RF
 exact gs
end TT
