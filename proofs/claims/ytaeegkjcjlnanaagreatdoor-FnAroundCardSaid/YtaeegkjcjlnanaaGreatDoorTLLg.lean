import Derived.Test.YtaeegkjcjlnanaaGreatDoorTLLf
set_option maxHeartbeats 2000000
set_option linter.unusedVariables false
set_option linter.unusedSimpArgs false
set_option linter.defProp false
set_option maxRecDepth 100000
namespace TT
open Go
open Nat (reduceAdd reduceSub reduceMul reduceLeDiff reduceLT reduceEqDiff)
theorem HH (s : List (List Int)) : ∀ (x1 : Int) (f : AI), Ok (AV s x1 f) Cn (ev AF Ek (.loop Ds) [.lv 0, .th Dt] (Bk (List.replicate 19 .dead) [(0, .t (.sl false (s.map (rL false rI)))), (1, .fn Ie [.ptr (1, 0) [] 0 0 1 0]), (7, .t (.v (.int .i64 (AC s)))), (8, .t (.v (.int .i64 x1)))]) (Bm (List.replicate 19 []) [(1, [.mem [[.v (.int .i64 f.Tre.Kind), .v (.string f.Tre.Pre), .v (.string f.Tre.Local), .v (.string f.Tre.Uri), .sl false (f.Tre.Decls.map A1.row), .sl false (f.Tre.Attrs.map A3.row), .sl false (f.Tre.Kids.map (A0.row false)), .v (.string f.Tre.Text), .sl false (f.Path.map rI)]] 0 true])])) := by
 unfold Ok
 refine AV.partial_correctness s _ ?_
 intro F ih x1 f
 show Ok _ _ _
 have ih : ∀ (x1 : Int) (f : AI), Ok (F x1 f) _ _ := ih
 rw [Aa]
 have k0 := @Ds.eq_1; have k1 := @Dt.eq_1; have g0 := XW; have t0 := ih
 exact gs
theorem Ji : ∀ (s : List (List Int)) (fc0 : AI), Ok (Bx s fc0) Cn (dn AF IA [.t (.sl false (s.map (rL false rI))), .fn Ie [.lp [.v (.int .i64 fc0.Tre.Kind), .v (.string fc0.Tre.Pre), .v (.string fc0.Tre.Local), .v (.string fc0.Tre.Uri), .sl false (fc0.Tre.Decls.map A1.row), .sl false (fc0.Tre.Attrs.map A3.row), .sl false (fc0.Tre.Kids.map (A0.row false)), .v (.string fc0.Tre.Text), .sl false (fc0.Path.map rI)] 0]]) := by
 intro s fc0
 rw [A9 AF (fn := DF) rfl (xN rfl rfl _) (lB rfl)]
 have k0 := @DF.eq_1; have f0 := @Bx.eq_1; have t0 := HH
 exact gs
theorem Ns : ∀ (w : AI), Ok (E0 w) Ow (dn AF GT [.agg (((AI.row false) w).map .t)]) := by
 intro w
 rw [A9 AF (fn := GX) rfl (xN rfl rfl _) (lB rfl)]
 have k0 := @GX.eq_1; have f0 := @E0.eq_1; have g0 := Jg; have g1 := Gu
 exact gs
theorem ky : ∀ (w : AI) (path : List Int), Ok (UT w path) cj (dn AF cf [.agg (((AI.row false) w).map .t), .t (.sl false (path.map rI))]) := by
 intro w path
 rw [A9 AF (fn := Rl) rfl (xN rfl rfl _) (lB rfl)]
 have k0 := @Rl.eq_1; have f0 := @UT.eq_1; have g0 := Ns; have g1 := Jh; have g2 := NU; have g3 := Gu
 exact gs
theorem TC : ∀ (w : AI) (by1 : Int), Ok (KH w by1) Ui (dn AF PQ [.agg (((AI.row false) w).map .t), .t (.v (.int .i64 by1))]) := by
 intro w by1
 rw [A9 AF (fn := MU) rfl (xN rfl rfl _) (lB rfl)]
 have k0 := @MU.eq_1; have f0 := @KH.eq_1; have g0 := NU; have g1 := R1; have g2 := Ji; have g3 := NT; have g4 := ky; have g5 := Ns
 exact gs
theorem fU : ∀ (w : AI), Ok (Ot w) Wq (dn AF Wl [.agg (((AI.row false) w).map .t)]) := by
 intro w
 rw [A9 AF (fn := Nh) rfl (xN rfl rfl _) (lB rfl)]
 have k0 := @Nh.eq_1; have f0 := @Ot.eq_1; have g0 := TC
 exact gs
theorem fV : ∀ (w : AI), Ok (KI w) Wr (dn AF Wk [.agg (((AI.row false) w).map .t)]) := by
 intro w
 rw [A9 AF (fn := Ni) rfl (xN rfl rfl _) (lB rfl)]
 have k0 := @Ni.eq_1; have f0 := @KI.eq_1; have g0 := TC
 exact gs
theorem HJ : ∀ (c : A2) (list : List Int), Ok (Hy c list) Uj (dn AF MS [.lp [.sl false (c.xb.map (rK .u8)), .v (.int .i64 c.xi), .v (.int .i64 c.xh)] 0, .t (.sl false (list.map rI))]) := by
 intro c list
 rw [A9 AF (fn := MV) rfl (xN rfl rfl _) (lB rfl)]
 have k0 := @MV.eq_1; have f0 := @Hy.eq_1; have g0 := BA
 exact gs
theorem Z6 : ∀ (c : A2), Ok (Np c) T7 (dn AF SU [.lp [.sl false (c.xb.map (rK .u8)), .v (.int .i64 c.xi), .v (.int .i64 c.xh)] 0]) := by
 intro c
 rw [A9 AF (fn := Kl) rfl (xN rfl rfl _) (lB rfl)]
 have k0 := @Kl.eq_1; have f0 := @Np.eq_1; have g0 := BR
 exact gs
theorem TD : ∀ (c : A2), Ok (NC c) Uk (dn AF UN [.lp [.sl false (c.xb.map (rK .u8)), .v (.int .i64 c.xi), .v (.int .i64 c.xh)] 0]) := by
 intro c
 rw [A9 AF (fn := MX) rfl (xN rfl rfl _) (lB rfl)]
 have k0 := @MX.eq_1; have f0 := @NC.eq_1; have g0 := E2; have g1 := Z6; have g2 := BR
 exact gs
theorem TE : ∀ (c : A2), Ok (ND c) Ul (dn AF UO [.lp [.sl false (c.xb.map (rK .u8)), .v (.int .i64 c.xi), .v (.int .i64 c.xh)] 0]) := by
 intro c
 rw [A9 AF (fn := MZ) rfl (xN rfl rfl _) (lB rfl)]
 have k0 := @MZ.eq_1; have f0 := @ND.eq_1; have g0 := Qv; have g1 := BA; have g2 := BR; have g3 := Qu
 exact gs
theorem Tn : ∀ (s2 : ByteArray) (c3 : A2), Ok (DM s2 c3) LB (ev AF OO (.loop Il) [.lv 2, .th Fs] (Bk (List.replicate 27 .dead) [(0, .ptr (0, 0) [] 0 0 1 0), (3, .t (.v (.string s2)))]) (Bm (List.replicate 27 []) [(0, [.mem [[.sl false (c3.xb.map (rK .u8)), .v (.int .i64 c3.xi), .v (.int .i64 c3.xh)]] 0 true])])) := by
 unfold Ok
 refine DM.partial_correctness _ ?_
 intro F ih s2 c3
 show Ok _ _ _
 have ih : ∀ (s2 : ByteArray) (c3 : A2), Ok (F s2 c3) _ _ := ih
 rw [Aa]
 have k0 := @Il.eq_1; have k1 := @Fs.eq_1; have g0 := HJ; have t0 := ih
 exact gs
theorem Ux : ∀ (s1 : ByteArray) (i : Int) (c2 : A2), Ok (E1 s1 i c2) LB (ev AF OO (.loop K3) [.lv 0, .th K4] (Bk (List.replicate 27 .dead) [(0, .ptr (0, 0) [] 0 0 1 0), (3, .t (.v (.string s1))), (4, .t (.v (.int .i64 i)))]) (Bm (List.replicate 27 []) [(0, [.mem [[.sl false (c2.xb.map (rK .u8)), .v (.int .i64 c2.xi), .v (.int .i64 c2.xh)]] 0 true])])) := by
 unfold Ok
 refine E1.partial_correctness _ ?_
 intro F ih s1 i c2
 show Ok _ _ _
 have ih : ∀ (s1 : ByteArray) (i : Int) (c2 : A2), Ok (F s1 i c2) _ _ := ih
 rw [Aa]
 have k0 := @K3.eq_1; have k1 := @Fs.eq_1; have k2 := @K4.eq_1; have g0 := BR; have g1 := E2; have t0 := ih; have t1 := Tn
 exact gs
theorem RD : ∀ (c : A2), Ok (IK c) LB (dn AF KQ [.lp [.sl false (c.xb.map (rK .u8)), .v (.int .i64 c.xi), .v (.int .i64 c.xh)] 0]) := by
 intro c
 rw [A9 AF (fn := Kc) rfl (xN rfl rfl _) (lB rfl)]
 have k0 := @Kc.eq_1; have f0 := @IK.eq_1; have g0 := BA; have t0 := Ux
 exact gs
theorem To (k : Int) (r : A0 × A2) : ∀ (i : Int) (c1 : A2) (nKids : List (A0)), Ok (Ck k i c1 r nKids) CO (ev AF Eh (.loop EH) [.lv 3, .lv 2, .th BS] (Bk (List.replicate 260 .dead) [(0, .ptr (0, 0) [] 0 0 1 0), (2, .ptr (2, 0) [] 0 0 1 0), (3, .ptr (3, 0) [] 0 0 1 0), (4, .t (.v (.int .i64 k))), (5, .t (.v (.int .i64 i)))]) (Bm (List.replicate 260 []) [(0, [.mem [[.sl false (c1.xb.map (rK .u8)), .v (.int .i64 c1.xi), .v (.int .i64 c1.xh)]] 0 true]), (2, [.mem [[.v (.int .i64 0), .v (.string (⟨#[]⟩)), .v (.string (⟨#[]⟩)), .v (.string (⟨#[]⟩)), .sl true [], .sl true [], .sl true [], .v (.string (⟨#[]⟩))]] 0 false]), (3, [.mem [[.v (.int .i64 r.1.Kind), .v (.string r.1.Pre), .v (.string r.1.Local), .v (.string r.1.Uri), .sl true (r.1.Decls.map A1.row), .sl true (r.1.Attrs.map A3.row), .sl true (nKids.map (A0.row false)), .v (.string r.1.Text)]] 0 false])])) := by
 unfold Ok
 refine Ck.partial_correctness k r _ ?_
 intro F ih i c1 nKids
 show Ok _ _ _
 have ih : ∀ (i : Int) (c1 : A2) (nKids : List (A0)), Ok (F i c1 nKids) _ _ := ih
 rw [Aa]
 have k0 := @EH.eq_1; have k1 := @BS.eq_1; have g0 := HJ; have t0 := ih
 exact gs
theorem Uy : ∀ (k : Int) (r : A0 × A2), Ok (DB k r) CO (ev AF Eh GW [] (Bk (List.replicate 260 .dead) [(0, .ptr (0, 0) [] 0 0 1 0), (2, .ptr (2, 0) [] 0 0 1 0), (3, .ptr (3, 0) [] 0 0 1 0), (4, .t (.v (.int .i64 k)))]) (Bm (List.replicate 260 []) [(0, [.mem [[.sl false (r.2.xb.map (rK .u8)), .v (.int .i64 r.2.xi), .v (.int .i64 r.2.xh)]] 0 true]), (2, [.mem [[.v (.int .i64 0), .v (.string (⟨#[]⟩)), .v (.string (⟨#[]⟩)), .v (.string (⟨#[]⟩)), .sl true [], .sl true [], .sl true [], .v (.string (⟨#[]⟩))]] 0 false]), (3, [.mem [[.v (.int .i64 r.1.Kind), .v (.string r.1.Pre), .v (.string r.1.Local), .v (.string r.1.Uri), .sl true (r.1.Decls.map A1.row), .sl true (r.1.Attrs.map A3.row), .sl true (r.1.Kids.map (A0.row true)), .v (.string r.1.Text)]] 0 false])])) := by
 intro k r
 have k0 := @GW.eq_1; have k1 := @BS.eq_1; have f0 := @DB.eq_1; have g0 := BA; have g1 := HJ; have g2 := BR; have g3 := TD; have g4 := OP; have g5 := TE; have g6 := RD; have t0 := To
 exact gs
theorem Uz (r : A0 × A2) : ∀ (k : Int), Ok (CW k r) CO (ev AF Eh (.loop Cy) [.lv 0, .hk [.kill [22], .clean []], .th GW] (Bk (List.replicate 260 .dead) [(0, .ptr (0, 0) [] 0 0 1 0), (2, .ptr (2, 0) [] 0 0 1 0), (3, .ptr (3, 0) [] 0 0 1 0), (4, .t (.v (.int .i64 k)))]) (Bm (List.replicate 260 []) [(0, [.mem [[.sl false (r.2.xb.map (rK .u8)), .v (.int .i64 r.2.xi), .v (.int .i64 r.2.xh)]] 0 true]), (2, [.mem [[.v (.int .i64 0), .v (.string (⟨#[]⟩)), .v (.string (⟨#[]⟩)), .v (.string (⟨#[]⟩)), .sl true [], .sl true [], .sl true [], .v (.string (⟨#[]⟩))]] 0 false]), (3, [.mem [[.v (.int .i64 r.1.Kind), .v (.string r.1.Pre), .v (.string r.1.Local), .v (.string r.1.Uri), .sl true (r.1.Decls.map A1.row), .sl true (r.1.Attrs.map A3.row), .sl true (r.1.Kids.map (A0.row true)), .v (.string r.1.Text)]] 0 false])])) := by
 unfold Ok
 refine CW.partial_correctness r _ ?_
 intro F ih k
 show Ok _ _ _
 have ih : ∀ (k : Int), Ok (F k) _ _ := ih
 rw [Aa]
 have k0 := @Cy.eq_1; have t0 := ih; have t1 := Uy
 exact gs
theorem W9 : ∀ (c : A2), Ok (FP c) CO (ev AF ⟨([.lp [.sl false (c.xb.map (rK .u8)), .v (.int .i64 c.xi), .v (.int .i64 c.xh)] 0] : List Fy).length, M1 (enter BB.nt ([.lp [.sl false (c.xb.map (rK .u8)), .v (.int .i64 c.xi), .v (.int .i64 c.xh)] 0] : List Fy)).r ([.lp [.sl false (c.xb.map (rK .u8)), .v (.int .i64 c.xi), .v (.int .i64 c.xh)] 0] : List Fy).length, BB.res⟩ SW [] (enter BB.nt ([.lp [.sl false (c.xb.map (rK .u8)), .v (.int .i64 c.xi), .v (.int .i64 c.xh)] 0] : List Fy)).s (enter BB.nt ([.lp [.sl false (c.xb.map (rK .u8)), .v (.int .i64 c.xi), .v (.int .i64 c.xh)] 0] : List Fy)).r) := by
 intro c
 have k0 := @BB.eq_1; have k1 := @SW.eq_1; have f0 := @FP.eq_1; have g0 := NS; have t0 := Uz
 exact gs
theorem RE (k : Int) (r : A0 × A2) : ∀ (i : Int) (c1 : A2) (nKids : List (A0)), Ok (Ck k i c1 r nKids) CO (ev AF Eh (.loop EH) [.lv 3, .lv 2, .th BS] (Bk (List.replicate 260 .dead) [(0, .ptr (0, 0) [] 0 0 1 0), (2, .ptr (2, 0) [] 0 0 1 0), (3, .ptr (3, 0) [] 0 0 1 0), (4, .t (.v (.int .i64 k))), (5, .t (.v (.int .i64 i)))]) (Bm (List.replicate 260 []) [(0, [.mem [[.sl false (c1.xb.map (rK .u8)), .v (.int .i64 c1.xi), .v (.int .i64 c1.xh)]] 0 true]), (2, [.mem [[.v (.int .i64 0), .v (.string (⟨#[]⟩)), .v (.string (⟨#[]⟩)), .v (.string (⟨#[]⟩)), .sl true [], .sl true [], .sl true [], .v (.string (⟨#[]⟩))]] 0 false]), (3, [.mem [[.v (.int .i64 r.1.Kind), .v (.string r.1.Pre), .v (.string r.1.Local), .v (.string r.1.Uri), .sl true (r.1.Decls.map A1.row), .sl true (r.1.Attrs.map A3.row), .sl true (nKids.map (A0.row false)), .v (.string r.1.Text)]] 0 false])])) := by
 unfold Ok
 refine Ck.partial_correctness k r _ ?_
 intro F ih i c1 nKids
 show Ok _ _ _
 have ih : ∀ (i : Int) (c1 : A2) (nKids : List (A0)), Ok (F i c1 nKids) _ _ := ih
 rw [Aa]
 have k0 := @EH.eq_1; have k1 := @BS.eq_1; have g0 := HJ; have t0 := ih
 exact gs
theorem S7 : ∀ (k : Int) (r : A0 × A2), Ok (DB k r) CO (ev AF Eh FW [] (Bk (List.replicate 260 .dead) [(0, .ptr (0, 0) [] 0 0 1 0), (2, .ptr (2, 0) [] 0 0 1 0), (3, .ptr (3, 0) [] 0 0 1 0), (4, .t (.v (.int .i64 k)))]) (Bm (List.replicate 260 []) [(0, [.mem [[.sl false (r.2.xb.map (rK .u8)), .v (.int .i64 r.2.xi), .v (.int .i64 r.2.xh)]] 0 true]), (2, [.mem [[.v (.int .i64 0), .v (.string (⟨#[]⟩)), .v (.string (⟨#[]⟩)), .v (.string (⟨#[]⟩)), .sl true [], .sl true [], .sl true [], .v (.string (⟨#[]⟩))]] 0 false]), (3, [.mem [[.v (.int .i64 r.1.Kind), .v (.string r.1.Pre), .v (.string r.1.Local), .v (.string r.1.Uri), .sl true (r.1.Decls.map A1.row), .sl true (r.1.Attrs.map A3.row), .sl true (r.1.Kids.map (A0.row true)), .v (.string r.1.Text)]] 0 false])])) := by
 intro k r
 have k0 := @FW.eq_1; have k1 := @BS.eq_1; have f0 := @DB.eq_1; have g0 := BA; have g1 := HJ; have g2 := BR; have g3 := TD; have g4 := OP; have g5 := TE; have g6 := RD; have t0 := RE
 exact gs
theorem S8 (r : A0 × A2) : ∀ (k : Int), Ok (CW k r) CO (ev AF Eh (.loop Cy) [.lv 0, .hk [.kill [22], .clean []], .th FW] (Bk (List.replicate 260 .dead) [(0, .ptr (0, 0) [] 0 0 1 0), (2, .ptr (2, 0) [] 0 0 1 0), (3, .ptr (3, 0) [] 0 0 1 0), (4, .t (.v (.int .i64 k)))]) (Bm (List.replicate 260 []) [(0, [.mem [[.sl false (r.2.xb.map (rK .u8)), .v (.int .i64 r.2.xi), .v (.int .i64 r.2.xh)]] 0 true]), (2, [.mem [[.v (.int .i64 0), .v (.string (⟨#[]⟩)), .v (.string (⟨#[]⟩)), .v (.string (⟨#[]⟩)), .sl true [], .sl true [], .sl true [], .v (.string (⟨#[]⟩))]] 0 false]), (3, [.mem [[.v (.int .i64 r.1.Kind), .v (.string r.1.Pre), .v (.string r.1.Local), .v (.string r.1.Uri), .sl true (r.1.Decls.map A1.row), .sl true (r.1.Attrs.map A3.row), .sl true (r.1.Kids.map (A0.row true)), .v (.string r.1.Text)]] 0 false])])) := by
 unfold Ok
 refine CW.partial_correctness r _ ?_
 intro F ih k
 show Ok _ _ _
 have ih : ∀ (k : Int), Ok (F k) _ _ := ih
 rw [Aa]
 have k0 := @Cy.eq_1; have t0 := ih; have t1 := S7
 exact gs
theorem WA : ∀ (c : A2), Ok (FP c) CO (ev AF ⟨([.lp [.sl false (c.xb.map (rK .u8)), .v (.int .i64 c.xi), .v (.int .i64 c.xh)] 0] : List Fy).length, M1 (enter BB.nt ([.lp [.sl false (c.xb.map (rK .u8)), .v (.int .i64 c.xi), .v (.int .i64 c.xh)] 0] : List Fy)).r ([.lp [.sl false (c.xb.map (rK .u8)), .v (.int .i64 c.xi), .v (.int .i64 c.xh)] 0] : List Fy).length, BB.res⟩ Pq [] (enter BB.nt ([.lp [.sl false (c.xb.map (rK .u8)), .v (.int .i64 c.xi), .v (.int .i64 c.xh)] 0] : List Fy)).s (enter BB.nt ([.lp [.sl false (c.xb.map (rK .u8)), .v (.int .i64 c.xi), .v (.int .i64 c.xh)] 0] : List Fy)).r) := by
 intro c
 have k0 := @BB.eq_1; have k1 := @Pq.eq_1; have f0 := @FP.eq_1; have g0 := NS; have t0 := S8
 exact gs
theorem Z7 : ∀ (c : A2), Ok (FP c) CO (dn AF SV [.lp [.sl false (c.xb.map (rK .u8)), .v (.int .i64 c.xi), .v (.int .i64 c.xh)] 0]) := by
 intro c r hr
 exact tH AF (fn := BB) (k := Qc) rfl (xN rfl rfl _) (lB rfl) rfl (W9 c r hr) (WA c r hr)
theorem WB : ∀ (code : List Int), Ok (Fk code) Px (dn AF LX [.t (.sl false (code.map (rK .u8)))]) := by
 intro code
 rw [A9 AF (fn := HR) rfl (xN rfl rfl _) (lB rfl)]
 have k0 := @HR.eq_1; have f0 := @Fk.eq_1; have g0 := T8; have g1 := Z7
 exact gs
theorem fW : ∀ (t : A0), Ok (Ou t) Ws (dn AF Wm [.agg (((A0.row false) t).map .t)]) := by
 intro t
 rw [A9 AF (fn := Nj) rfl (xN rfl rfl _) (lB rfl)]
 have k0 := @Nj.eq_1; have f0 := @Ou.eq_1; have g0 := Qz; have g1 := NP
 exact gs
end TT
