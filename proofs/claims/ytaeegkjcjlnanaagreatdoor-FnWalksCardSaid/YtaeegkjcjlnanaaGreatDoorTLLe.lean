import Derived.Test.YtaeegkjcjlnanaaGreatDoorTLLd
set_option maxHeartbeats 2000000
set_option linter.unusedVariables false
set_option linter.unusedSimpArgs false
set_option linter.defProp false
set_option maxRecDepth 100000
namespace TT
open Go
open Nat (reduceAdd reduceSub reduceMul reduceLeDiff reduceLT reduceEqDiff)
theorem ZS : (∀ (n : A0), Ok (EH n) JV (dn AG IQ [.agg (((A0.row false) n).map .t)])) ∧
  (∀ (out : Int) (n : A0) (x1 : Int), Ok (E7 out n x1) JV (ev AG Qt (.loop Im) [.lv 0, .th In] (Ba (List.replicate 23 .dead) [(3, .t (.v (.int .i64 out))), (11, .t (.sl false (n.Kids.map (A0.row false)))), (12, .t (.v (.int .i64 (AC n.Kids)))), (13, .t (.v (.int .i64 x1)))]) (Bb (List.replicate 23 []) []))) := by
 unfold Ok
 refine EH.mutual_partial_correctness _ _ ?_ ?_
 ·intro F1 ih1 n
  show Ok _ _ _
  have ih1 : ∀ (out : Int) (n : A0) (x1 : Int), Ok (F1 out n x1) _ _ := ih1
  rw [A9 AG (fn := Io) rfl (xN rfl rfl _) (lB rfl)]
  have k0 := @Io.eq_1; have t0 := ih1
  exact gs
 ·intro F0 F1 ih0 ih1 out n x1
  show Ok _ _ _
  have ih0 : ∀ (n : A0), Ok (F0 n) _ _ := ih0
  have ih1 : ∀ (out : Int) (n : A0) (x1 : Int), Ok (F1 out n x1) _ _ := ih1
  rw [AX]
  have k0 := @Im.eq_1; have k1 := @In.eq_1; have g0 := ih0; have t0 := ih1
  exact gs
theorem Xp (n : A0) : Ok (EH n) JV (dn AG IQ [.agg (((A0.row false) n).map .t)]) := ZS.1 n
theorem Hr : ∀ (s : ByteArray), Ok (Cm s) CF (dn AG CE [.t (.v (.string s))]) := by
 intro s r hr
 exact MT AG.ft (SL AG) (jM s (e := CF) (fun _ => rfl) hr)
theorem RH : ∀ (s : ByteArray) (at1 : Int), Ok (I4 s at1) T4 (dn AG OG [.t (.v (.string s)), .t (.v (.int .i64 at1))]) := by
 intro s at1
 rw [A9 AG (fn := Ks) rfl (xN rfl rfl _) (lB rfl)]
 have k0 := @Ks.eq_1; have f0 := @I4.eq_1; have g0 := Pn; have g1 := Hr
 exact gs
theorem Xq : ∀ (r : A7) (a1 : Int), Ok (Mz r a1) Qu (dn AG G6 [.agg ((A7.row r).map .t), .lp [.v (.int .i64 a1)] 0]) := by
 intro r a1
 rw [A9 AG (fn := JO) rfl (xN rfl rfl _) (lB rfl)]
 have k0 := @JO.eq_1; have f0 := @Mz.eq_1; have g0 := Pn
 exact gs
theorem Gv (s : List A7) : ∀ (x1 : Int) (f : Int), Ok (AM s x1 f) CS (ev AG EP (.loop DK) [.lv 0, .th DL] (Ba (List.replicate 19 .dead) [(0, .t (.sl false (s.map A7.row))), (1, .fn G6 [.ptr (1, 0) [] 0 0 1 0]), (7, .t (.v (.int .i64 (AC s)))), (8, .t (.v (.int .i64 x1)))]) (Bb (List.replicate 19 []) [(1, [.mem [[.v (.int .i64 f)]] 0 true])])) := by
 unfold Ok
 refine AM.partial_correctness s _ ?_
 intro F ih x1 f
 show Ok _ _ _
 have ih : ∀ (x1 : Int) (f : Int), Ok (F x1 f) _ _ := ih
 rw [AX]
 have k0 := @DK.eq_1; have k1 := @DL.eq_1; have g0 := Xq; have t0 := ih
 exact gs
theorem IA : ∀ (s : List A7) (fc0 : Int), Ok (Bm s fc0) CS (dn AG Gz [.t (.sl false (s.map A7.row)), .fn G6 [.lp [.v (.int .i64 fc0)] 0]]) := by
 intro s fc0
 rw [A9 AG (fn := D3) rfl (xN rfl rfl _) (lB rfl)]
 have k0 := @D3.eq_1; have f0 := @Bm.eq_1; have t0 := Gv
 exact gs
theorem Gw : ∀ (s : List A7) (fc0 : Int), Ok (BI s fc0) Dc (dn AG Fo [.t (.sl false (s.map A7.row)), .fn G6 [.lp [.v (.int .i64 fc0)] 0]]) := by
 intro s fc0
 rw [A9 AG (fn := CB) rfl (xN rfl rfl _) (lB rfl)]
 have k0 := @CB.eq_1; have f0 := @BI.eq_1; have g0 := IA
 exact gs
theorem Oe : ∀ (n : Int) (ranges : List A7), Ok (Hn n ranges) V2 (dn AG MW [.t (.v (.int .i64 n)), .t (.sl false (ranges.map A7.row))]) := by
 intro n ranges
 rw [A9 AG (fn := Mx) rfl (xN rfl rfl _) (lB rfl)]
 have k0 := @Mx.eq_1; have f0 := @Hn.eq_1; have g0 := Gw
 exact gs
theorem ZT : ∀ (n : Int), Ok (LP n) T5 (dn AG SQ [.t (.v (.int .i64 n))]) := by
 intro n
 rw [A9 AG (fn := L4) rfl (xN rfl rfl _) (lB rfl)]
 have k0 := @L4.eq_1; have f0 := @LP.eq_1; have g0 := Oe
 exact gs
theorem Tw (s : ByteArray) : ∀ (at1 : Int), Ok (Ch s at1) Nc (ev AG Qv (.loop JC) [.lv 0, .th JD] (Ba (List.replicate 26 .dead) [(0, .t (.v (.string s))), (3, .t (.v (.int .i64 at1)))]) (Bb (List.replicate 26 []) [])) := by
 unfold Ok
 refine Ch.partial_correctness s _ ?_
 intro F ih at1
 show Ok _ _ _
 have ih : ∀ (at1 : Int), Ok (F at1) _ _ := ih
 rw [AX]
 have k0 := @JC.eq_1; have k1 := @JD.eq_1; have g0 := RH; have g1 := ZT; have t0 := ih
 exact gs
theorem Xr : ∀ (s : ByteArray), Ok (JQ s) Nc (dn AG Qe [.t (.v (.string s))]) := by
 intro s
 rw [A9 AG (fn := JE) rfl (xN rfl rfl _) (lB rfl)]
 have k0 := @JE.eq_1; have f0 := @JQ.eq_1; have t0 := Tw
 exact gs
theorem GN : ∀ (s : ByteArray), Ok (DY s) T6 (dn AG Fi [.t (.v (.string s))]) := by
 intro s
 rw [A9 AG (fn := Kp) rfl (xN rfl rfl _) (lB rfl)]
 have k0 := @Kp.eq_1; have f0 := @DY.eq_1; have g0 := Xr
 exact gs
theorem MN : ∀ (s : ByteArray) (t : ByteArray), Ok (strings_Contains s t) Hq (dn AG Cs [.t (.v (.string s)), .t (.v (.string t))]) := by
 intro s t r hr
 exact MT AG.ft (SL AG) (bW s t (e := Hq) (fun _ => rfl) hr)
theorem IB : ∀ (s : ByteArray) (suffix : ByteArray), Ok (Bn s suffix) EQ (dn AG EA [.t (.v (.string s)), .t (.v (.string suffix))]) := by
 intro s suffix
 rw [A9 AG (fn := BQ) rfl (xN rfl rfl _) (lB rfl)]
 have k0 := @BQ.eq_1; have f0 := @Bn.eq_1
 exact gs
theorem RI : ∀ (s : ByteArray) (suffix : ByteArray), Ok (EI s suffix) MH (dn AG MA [.t (.v (.string s)), .t (.v (.string suffix))]) := by
 intro s suffix
 rw [A9 AG (fn := Ep) rfl (xN rfl rfl _) (lB rfl)]
 have k0 := @Ep.eq_1; have f0 := @EI.eq_1; have g0 := IB
 exact gs
theorem ZU : ∀ (s : ByteArray), Ok (Ny s) T7 (dn AG SW [.t (.v (.string s))]) := by
 intro s
 rw [A9 AG (fn := Kq) rfl (xN rfl rfl _) (lB rfl)]
 have k0 := @Kq.eq_1; have f0 := @Ny.eq_1; have g0 := GN; have g1 := MN; have g2 := RI
 exact gs
theorem Q6 : ∀ (n : Int), Ok (Gg n) Qw (dn AG NK [.t (.v (.int .i64 n))]) := by
 intro n
 rw [A9 AG (fn := J6) rfl (xN rfl rfl _) (lB rfl)]
 have k0 := @J6.eq_1; have f0 := @Gg.eq_1; have g0 := Oe
 exact gs
theorem ZV : ∀ (n : Int), Ok (I5 n) T8 (dn AG SP [.t (.v (.int .i64 n))]) := by
 intro n
 rw [A9 AG (fn := Kt) rfl (xN rfl rfl _) (lB rfl)]
 have k0 := @Kt.eq_1; have f0 := @I5.eq_1; have g0 := Q6; have g1 := Oe
 exact gs
theorem Tx (s : ByteArray) : ∀ (at1 : Int), Ok (C7 s at1) Nd (ev AG Qx (.loop Ix) [.lv 0, .th Iy] (Ba (List.replicate 38 .dead) [(0, .t (.v (.string s))), (3, .t (.v (.int .i64 at1)))]) (Bb (List.replicate 38 []) [])) := by
 unfold Ok
 refine C7.partial_correctness s _ ?_
 intro F ih at1
 show Ok _ _ _
 have ih : ∀ (at1 : Int), Ok (F at1) _ _ := ih
 rw [AX]
 have k0 := @Ix.eq_1; have k1 := @Iy.eq_1; have g0 := RH; have g1 := Q6; have g2 := ZV; have g3 := Pn; have t0 := ih
 exact gs
theorem Hc : ∀ (s : ByteArray), Ok (EJ s) Nd (dn AG G5 [.t (.v (.string s))]) := by
 intro s
 rw [A9 AG (fn := Iz) rfl (xN rfl rfl _) (lB rfl)]
 have k0 := @Iz.eq_1; have f0 := @EJ.eq_1; have t0 := Tx
 exact gs
theorem RJ : ∀ (s : ByteArray) (t : ByteArray), Ok (strings_EqualFold s t) Gr (dn AG Gn [.t (.v (.string s)), .t (.v (.string t))]) := by
 intro s t r hr
 exact MT AG.ft (SL AG) (oS s t (e := Gr) (fun _ => rfl) hr)
theorem Xs : ∀ (n : Int), Ok (Gh n) Qy (dn AG Qc [.t (.v (.int .i64 n))]) := by
 intro n
 rw [A9 AG (fn := JF) rfl (xN rfl rfl _) (lB rfl)]
 have k0 := @JF.eq_1; have f0 := @Gh.eq_1
 exact gs
theorem ZW : ∀ (local1 : ByteArray) (s : ByteArray), Ok (Nz local1 s) T9 (dn AG SX [.t (.v (.string local1)), .t (.v (.string s))]) := by
 intro local1 s
 rw [A9 AG (fn := Kr) rfl (xN rfl rfl _) (lB rfl)]
 have k0 := @Kr.eq_1; have f0 := @Nz.eq_1; have g0 := Hc; have g1 := RJ; have g2 := GN; have g3 := MN; have g4 := Xs
 exact gs
theorem VM : ∀ (n : A0), Ok (GI n) OX (ev AG TA KB [] (Ba (List.replicate 63 .dead) [(1, .ptr (1, 0) [] 0 0 1 0)]) (Bb (List.replicate 63 []) [(1, [.mem [[.v (.int .i64 n.Kind), .v (.string n.Pre), .v (.string n.Local), .v (.string n.Uri), .sl false (n.Decls.map A1.row), .sl false (n.Attrs.map A3.row), .sl false (n.Kids.map (A0.row false)), .v (.string n.Text)]] 0 false])])) := by
 intro n
 have k0 := @KB.eq_1; have f0 := @GI.eq_1; have g0 := GN; have g1 := ZU; have g2 := ZW
 exact gs
end TT
