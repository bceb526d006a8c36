import Derived.Test.YtaeegkjcjlnanaaGreatDoorTLLc
set_option maxHeartbeats 2000000
set_option linter.unusedVariables false
set_option linter.unusedSimpArgs false
set_option linter.defProp false
set_option maxRecDepth 100000
namespace TT
open Go
open Nat (reduceAdd reduceSub reduceMul reduceLeDiff reduceLT reduceEqDiff)
theorem NT : ∀ (n : Int) (lo : Int) (hi : Int), Ok (Fw n lo hi) cg (dn AF My [.t (.v (.int .i64 n)), .t (.v (.int .i64 lo)), .t (.v (.int .i64 hi))]) := by
 intro n lo hi
 rw [A9 AF (fn := Rk) rfl (xN rfl rfl _) (lB rfl)]
 have k0 := @Rk.eq_1; have f0 := @Fw.eq_1
 exact gs
theorem I2 : ∀ (s : ByteArray), Ok (Cm s) CI (dn AF CH [.t (.v (.string s))]) := by
 intro s r hr
 exact MM AF.ft (SD AF) (iM s (e := CI) (fun _ => rfl) hr)
theorem R2 : ∀ (s : ByteArray) (at1 : Int), Ok (IF s at1) Sm (dn AF O4 [.t (.v (.string s)), .t (.v (.int .i64 at1))]) := by
 intro s at1
 rw [A9 AF (fn := Ks) rfl (xN rfl rfl _) (lB rfl)]
 have k0 := @Ks.eq_1; have f0 := @IF.eq_1; have g0 := NT; have g1 := I2
 exact gs
theorem XR : ∀ (r : A7) (a1 : Int), Ok (Mn r a1) Qm (dn AF G6 [.agg ((A7.row r).map .t), .lp [.v (.int .i64 a1)] 0]) := by
 intro r a1
 rw [A9 AF (fn := JV) rfl (xN rfl rfl _) (lB rfl)]
 have k0 := @JV.eq_1; have f0 := @Mn.eq_1; have g0 := NT
 exact gs
theorem Gv (s : List A7) : ∀ (x1 : Int) (f : Int), Ok (AM s x1 f) CX (ev AF EX (.loop DS) [.lv 0, .th DT] (Bk (List.replicate 19 .dead) [(0, .t (.sl false (s.map A7.row))), (1, .fn G6 [.ptr (1, 0) [] 0 0 1 0]), (7, .t (.v (.int .i64 (AC s)))), (8, .t (.v (.int .i64 x1)))]) (Bm (List.replicate 19 []) [(1, [.mem [[.v (.int .i64 f)]] 0 true])])) := by
 unfold Ok
 refine AM.partial_correctness s _ ?_
 intro F ih x1 f
 show Ok _ _ _
 have ih : ∀ (x1 : Int) (f : Int), Ok (F x1 f) _ _ := ih
 rw [Aa]
 have k0 := @DS.eq_1; have k1 := @DT.eq_1; have g0 := XR; have t0 := ih
 exact gs
theorem IM : ∀ (s : List A7) (fc0 : Int), Ok (Bo s fc0) CX (dn AF H0 [.t (.sl false (s.map A7.row)), .fn G6 [.lp [.v (.int .i64 fc0)] 0]]) := by
 intro s fc0
 rw [A9 AF (fn := D5) rfl (xN rfl rfl _) (lB rfl)]
 have k0 := @D5.eq_1; have f0 := @Bo.eq_1; have t0 := Gv
 exact gs
theorem Gw : ∀ (s : List A7) (fc0 : Int), Ok (BO s fc0) Dh (dn AF Fo [.t (.sl false (s.map A7.row)), .fn G6 [.lp [.v (.int .i64 fc0)] 0]]) := by
 intro s fc0
 rw [A9 AF (fn := CE) rfl (xN rfl rfl _) (lB rfl)]
 have k0 := @CE.eq_1; have f0 := @BO.eq_1; have g0 := IM
 exact gs
theorem OQ : ∀ (n : Int) (ranges : List A7), Ok (Hv n ranges) Ue (dn AF MP [.t (.v (.int .i64 n)), .t (.sl false (ranges.map A7.row))]) := by
 intro n ranges
 rw [A9 AF (fn := Ml) rfl (xN rfl rfl _) (lB rfl)]
 have k0 := @Ml.eq_1; have f0 := @Hv.eq_1; have g0 := Gw
 exact gs
theorem Yu : ∀ (n : Int), Ok (LP n) Sp (dn AF SI [.t (.v (.int .i64 n))]) := by
 intro n
 rw [A9 AF (fn := L4) rfl (xN rfl rfl _) (lB rfl)]
 have k0 := @L4.eq_1; have f0 := @LP.eq_1; have g0 := OQ
 exact gs
theorem Tg (s : ByteArray) : ∀ (at1 : Int), Ok (Ch s at1) NK (ev AF Qn (.loop JJ) [.lv 0, .th JK] (Bk (List.replicate 26 .dead) [(0, .t (.v (.string s))), (3, .t (.v (.int .i64 at1)))]) (Bm (List.replicate 26 []) [])) := by
 unfold Ok
 refine Ch.partial_correctness s _ ?_
 intro F ih at1
 show Ok _ _ _
 have ih : ∀ (at1 : Int), Ok (F at1) _ _ := ih
 rw [Aa]
 have k0 := @JJ.eq_1; have k1 := @JK.eq_1; have g0 := R2; have g1 := Yu; have t0 := ih
 exact gs
theorem XS : ∀ (s : ByteArray), Ok (JX s) NK (dn AF QY [.t (.v (.string s))]) := by
 intro s
 rw [A9 AF (fn := JL) rfl (xN rfl rfl _) (lB rfl)]
 have k0 := @JL.eq_1; have f0 := @JX.eq_1; have t0 := Tg
 exact gs
theorem GO : ∀ (s : ByteArray), Ok (Dc s) Sq (dn AF Fh [.t (.v (.string s))]) := by
 intro s
 rw [A9 AF (fn := Kp) rfl (xN rfl rfl _) (lB rfl)]
 have k0 := @Kp.eq_1; have f0 := @Dc.eq_1; have g0 := XS
 exact gs
theorem MH : ∀ (s : ByteArray) (t : ByteArray), Ok (strings_Contains s t) Hz (dn AF Cw [.t (.v (.string s)), .t (.v (.string t))]) := by
 intro s t r hr
 exact MM AF.ft (SD AF) (ah s t (e := Hz) (fun _ => rfl) hr)
theorem IN : ∀ (s : ByteArray) (suffix : ByteArray), Ok (Bq s suffix) EY (dn AF EG [.t (.v (.string s)), .t (.v (.string suffix))]) := by
 intro s suffix
 rw [A9 AF (fn := BU) rfl (xN rfl rfl _) (lB rfl)]
 have k0 := @BU.eq_1; have f0 := @Bq.eq_1
 exact gs
theorem R3 : ∀ (s : ByteArray) (suffix : ByteArray), Ok (EO s suffix) M8 (dn AF M6 [.t (.v (.string s)), .t (.v (.string suffix))]) := by
 intro s suffix
 rw [A9 AF (fn := Eu) rfl (xN rfl rfl _) (lB rfl)]
 have k0 := @Eu.eq_1; have f0 := @EO.eq_1; have g0 := IN
 exact gs
theorem Yv : ∀ (s : ByteArray), Ok (Nm s) Ss (dn AF SM [.t (.v (.string s))]) := by
 intro s
 rw [A9 AF (fn := Kq) rfl (xN rfl rfl _) (lB rfl)]
 have k0 := @Kq.eq_1; have f0 := @Nm.eq_1; have g0 := GO; have g1 := MH; have g2 := R3
 exact gs
theorem Q1 : ∀ (n : Int), Ok (Gd n) Qo (dn AF N6 [.t (.v (.int .i64 n))]) := by
 intro n
 rw [A9 AF (fn := JD) rfl (xN rfl rfl _) (lB rfl)]
 have k0 := @JD.eq_1; have f0 := @Gd.eq_1; have g0 := OQ
 exact gs
theorem Yw : ∀ (n : Int), Ok (IG n) Su (dn AF SH [.t (.v (.int .i64 n))]) := by
 intro n
 rw [A9 AF (fn := Kt) rfl (xN rfl rfl _) (lB rfl)]
 have k0 := @Kt.eq_1; have f0 := @IG.eq_1; have g0 := Q1; have g1 := OQ
 exact gs
theorem Th (s : ByteArray) : ∀ (at1 : Int), Ok (C7 s at1) NL (ev AF Qp (.loop J4) [.lv 0, .th J5] (Bk (List.replicate 38 .dead) [(0, .t (.v (.string s))), (3, .t (.v (.int .i64 at1)))]) (Bm (List.replicate 38 []) [])) := by
 unfold Ok
 refine C7.partial_correctness s _ ?_
 intro F ih at1
 show Ok _ _ _
 have ih : ∀ (at1 : Int), Ok (F at1) _ _ := ih
 rw [Aa]
 have k0 := @J4.eq_1; have k1 := @J5.eq_1; have g0 := R2; have g1 := Q1; have g2 := Yw; have g3 := NT; have t0 := ih
 exact gs
theorem Hk : ∀ (s : ByteArray), Ok (EP s) NL (dn AF G5 [.t (.v (.string s))]) := by
 intro s
 rw [A9 AF (fn := J6) rfl (xN rfl rfl _) (lB rfl)]
 have k0 := @J6.eq_1; have f0 := @EP.eq_1; have t0 := Th
 exact gs
theorem R4 : ∀ (s : ByteArray) (t : ByteArray), Ok (strings_EqualFold s t) Gq (dn AF Gk [.t (.v (.string s)), .t (.v (.string t))]) := by
 intro s t r hr
 exact MM AF.ft (SD AF) (nS s t (e := Gq) (fun _ => rfl) hr)
theorem XT : ∀ (n : Int), Ok (Ge n) Qq (dn AF QW [.t (.v (.int .i64 n))]) := by
 intro n
 rw [A9 AF (fn := JM) rfl (xN rfl rfl _) (lB rfl)]
 have k0 := @JM.eq_1; have f0 := @Ge.eq_1
 exact gs
theorem Yx : ∀ (local1 : ByteArray) (s : ByteArray), Ok (Nn local1 s) Sv (dn AF SN [.t (.v (.string local1)), .t (.v (.string s))]) := by
 intro local1 s
 rw [A9 AF (fn := Kr) rfl (xN rfl rfl _) (lB rfl)]
 have k0 := @Kr.eq_1; have f0 := @Nn.eq_1; have g0 := Hk; have g1 := R4; have g2 := GO; have g3 := MH; have g4 := XT
 exact gs
theorem Us : ∀ (n : A0), Ok (GH n) OI (ev AF Sw KB [] (Bk (List.replicate 63 .dead) [(1, .ptr (1, 0) [] 0 0 1 0)]) (Bm (List.replicate 63 []) [(1, [.mem [[.v (.int .i64 n.Kind), .v (.string n.Pre), .v (.string n.Local), .v (.string n.Uri), .sl false (n.Decls.map A1.row), .sl false (n.Attrs.map A3.row), .sl false (n.Kids.map (A0.row false)), .v (.string n.Text)]] 0 false])])) := by
 intro n
 have k0 := @KB.eq_1; have f0 := @GH.eq_1; have g0 := GO; have g1 := Yv; have g2 := Yx
 exact gs
theorem Yy : ∀ (n : A0), Ok (GI n) OI (dn AF SL [.agg (((A0.row false) n).map .t)]) := by
 intro n
 rw [A9 AF (fn := Ko) rfl (xN rfl rfl _) (lB rfl)]
 have k0 := @Ko.eq_1; have f0 := @GI.eq_1; have t0 := Us
 exact gs
end TT
