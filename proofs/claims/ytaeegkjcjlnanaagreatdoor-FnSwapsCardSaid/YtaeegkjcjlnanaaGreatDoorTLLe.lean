import Derived.Test.YtaeegkjcjlnanaaGreatDoorTLLd
set_option maxHeartbeats 2000000
set_option linter.unusedVariables false
set_option linter.unusedSimpArgs false
set_option linter.defProp false
set_option maxRecDepth 100000
namespace TT
open Go
open Nat (reduceAdd reduceSub reduceMul reduceLeDiff reduceLT reduceEqDiff)
theorem Vi (path : List Int) : ∀ (x2 : Int) (n1 : A0), Ok (E6 path x2 n1) Ox (ev AF TS (.loop K7) [.lv 0, .th K8] (BZ (List.replicate 30 .dead) [(2, .ptr (2, 0) [] 0 0 1 0), (4, .ptr (4, 0) [] 0 0 1 0), (8, .t (.sl false (path.map rI))), (9, .t (.v (.int .i64 (A8 path)))), (10, .t (.v (.int .i64 x2)))]) (Ba (List.replicate 30 []) [(2, [.mem [[.v (.int .i64 n1.Kind), .v (.string n1.Pre), .v (.string n1.Local), .v (.string n1.Uri), .sl false (n1.Decls.map A1.row), .sl false (n1.Attrs.map A4.row), .sl false (n1.Kids.map (A0.row false)), .v (.string n1.Text)]] 0 false]), (4, [.mem [[.v (.int .i64 0), .v (.string (⟨#[]⟩)), .v (.string (⟨#[]⟩)), .v (.string (⟨#[]⟩)), .sl true [], .sl true [], .sl true [], .v (.string (⟨#[]⟩))]] 0 false])])) := by
 unfold Ok
 refine E6.partial_correctness path _ ?_
 intro F ih x2 n1
 show Ok _ _ _
 have ih : ∀ (x2 : Int) (n1 : A0), Ok (F x2 n1) _ _ := ih
 rw [AZ]
 have k0 := @K7.eq_1; have k1 := @K8.eq_1; have g0 := QG; have g1 := Ei; have t0 := ih
 exact gs
theorem O3 : ∀ (n : A0) (path : List Int), Ok (GW n path) Ox (dn AF Kc [.agg (((A0.row false) n).map .t), .t (.sl false (path.map rI))]) := by
 intro n path
 rw [A9 AF (fn := Kt) rfl (xN rfl rfl _) (lB rfl)]
 have k0 := @Kt.eq_1; have f0 := @GW.eq_1; have t0 := Vi
 exact gs
theorem aD : (∀ (n : A0), Ok (DB n) Jm (dn AF Ic [.agg (((A0.row false) n).map .t)])) ∧
  (∀ (out : Int) (n : A0) (x1 : Int), Ok (C9 out n x1) Jm (ev AF RR (.loop Iu) [.lv 0, .th Iv] (BZ (List.replicate 23 .dead) [(3, .t (.v (.int .i64 out))), (11, .t (.sl false (n.Kids.map (A0.row false)))), (12, .t (.v (.int .i64 (A8 n.Kids)))), (13, .t (.v (.int .i64 x1)))]) (Ba (List.replicate 23 []) []))) := by
 unfold Ok
 refine DB.mutual_partial_correctness _ _ ?_ ?_
 ·intro F1 ih1 n
  show Ok _ _ _
  have ih1 : ∀ (out : Int) (n : A0) (x1 : Int), Ok (F1 out n x1) _ _ := ih1
  rw [A9 AF (fn := Iw) rfl (xN rfl rfl _) (lB rfl)]
  have k0 := @Iw.eq_1; have t0 := ih1
  exact gs
 ·intro F0 F1 ih0 ih1 out n x1
  show Ok _ _ _
  have ih0 : ∀ (n : A0), Ok (F0 n) _ _ := ih0
  have ih1 : ∀ (out : Int) (n : A0) (x1 : Int), Ok (F1 out n x1) _ _ := ih1
  rw [AZ]
  have k0 := @Iu.eq_1; have k1 := @Iv.eq_1; have g0 := ih0; have t0 := ih1
  exact gs
theorem YM (n : A0) : Ok (DB n) Jm (dn AF Ic [.agg (((A0.row false) n).map .t)]) := aD.1 n
theorem I3 : ∀ (s : ByteArray), Ok (Cr s) CM (dn AF CL [.t (.v (.string s))]) := by
 intro s r hr
 exact Mk AF.ft (Sw AF) (jo s (e := CM) (fun _ => rfl) hr)
theorem Rq : ∀ (s : ByteArray) (at1 : Int), Ok (IE s at1) TU (dn AF Ob [.t (.v (.string s)), .t (.v (.int .i64 at1))]) := by
 intro s at1
 rw [A9 AF (fn := LG) rfl (xN rfl rfl _) (lB rfl)]
 have k0 := @LG.eq_1; have f0 := @IE.eq_1; have g0 := QG; have g1 := I3
 exact gs
theorem YN : ∀ (r : A7) (a1 : Int), Ok (NB r a1) RT (dn AF GJ [.agg ((A7.row r).map .t), .lp [.v (.int .i64 a1)] 0]) := by
 intro r a1
 rw [A9 AF (fn := Je) rfl (xN rfl rfl _) (lB rfl)]
 have k0 := @Je.eq_1; have f0 := @NB.eq_1; have g0 := QG
 exact gs
theorem H7 (s : List A7) : ∀ (x1 : Int) (f : Int), Ok (AM s x1 f) CX (ev AF Ed (.loop DU) [.lv 0, .th DV] (BZ (List.replicate 19 .dead) [(0, .t (.sl false (s.map A7.row))), (1, .fn GJ [.ptr (1, 0) [] 0 0 1 0]), (7, .t (.v (.int .i64 (A8 s)))), (8, .t (.v (.int .i64 x1)))]) (Ba (List.replicate 19 []) [(1, [.mem [[.v (.int .i64 f)]] 0 true])])) := by
 unfold Ok
 refine AM.partial_correctness s _ ?_
 intro F ih x1 f
 show Ok _ _ _
 have ih : ∀ (x1 : Int) (f : Int), Ok (F x1 f) _ _ := ih
 rw [AZ]
 have k0 := @DU.eq_1; have k1 := @DV.eq_1; have g0 := YN; have t0 := ih
 exact gs
theorem IN : ∀ (s : List A7) (fc0 : Int), Ok (Bq s fc0) CX (dn AF HA [.t (.sl false (s.map A7.row)), .fn GJ [.lp [.v (.int .i64 fc0)] 0]]) := by
 intro s fc0
 rw [A9 AF (fn := DA) rfl (xN rfl rfl _) (lB rfl)]
 have k0 := @DA.eq_1; have f0 := @Bq.eq_1; have t0 := H7
 exact gs
theorem H8 : ∀ (s : List A7) (fc0 : Int), Ok (BJ s fc0) Dn (dn AF G0 [.t (.sl false (s.map A7.row)), .fn GJ [.lp [.v (.int .i64 fc0)] 0]]) := by
 intro s fc0
 rw [A9 AF (fn := CI) rfl (xN rfl rfl _) (lB rfl)]
 have k0 := @CI.eq_1; have f0 := @BJ.eq_1; have g0 := IN
 exact gs
theorem P6 : ∀ (n : Int) (ranges : List A7), Ok (Hw n ranges) VQ (dn AF Mn [.t (.v (.int .i64 n)), .t (.sl false (ranges.map A7.row))]) := by
 intro n ranges
 rw [A9 AF (fn := N8) rfl (xN rfl rfl _) (lB rfl)]
 have k0 := @N8.eq_1; have f0 := @Hw.eq_1; have g0 := H8
 exact gs
theorem aE : ∀ (n : Int), Ok (Lm n) TV (dn AF T0 [.t (.v (.int .i64 n))]) := by
 intro n
 rw [A9 AF (fn := LP) rfl (xN rfl rfl _) (lB rfl)]
 have k0 := @LP.eq_1; have f0 := @Lm.eq_1; have g0 := P6
 exact gs
theorem UO (s : ByteArray) : ∀ (at1 : Int), Ok (Cm s at1) Ns (ev AF RU (.loop JS) [.lv 0, .th JT] (BZ (List.replicate 26 .dead) [(0, .t (.v (.string s))), (3, .t (.v (.int .i64 at1)))]) (Ba (List.replicate 26 []) [])) := by
 unfold Ok
 refine Cm.partial_correctness s _ ?_
 intro F ih at1
 show Ok _ _ _
 have ih : ∀ (at1 : Int), Ok (F at1) _ _ := ih
 rw [AZ]
 have k0 := @JS.eq_1; have k1 := @JT.eq_1; have g0 := Rq; have g1 := aE; have t0 := ih
 exact gs
theorem YO : ∀ (s : ByteArray), Ok (Jh s) Ns (dn AF R8 [.t (.v (.string s))]) := by
 intro s
 rw [A9 AF (fn := JU) rfl (xN rfl rfl _) (lB rfl)]
 have k0 := @JU.eq_1; have f0 := @Jh.eq_1; have t0 := UO
 exact gs
theorem Gb : ∀ (s : ByteArray), Ok (Dh s) TW (dn AF Ft [.t (.v (.string s))]) := by
 intro s
 rw [A9 AF (fn := LC) rfl (xN rfl rfl _) (lB rfl)]
 have k0 := @LC.eq_1; have f0 := @Dh.eq_1; have g0 := YO
 exact gs
theorem Mf : ∀ (s : ByteArray) (t : ByteArray), Ok (strings_Contains s t) I2 (dn AF D0 [.t (.v (.string s)), .t (.v (.string t))]) := by
 intro s t r hr
 exact Mk AF.ft (Sw AF) (cK s t (e := I2) (fun _ => rfl) hr)
theorem IP : ∀ (s : ByteArray) (suffix : ByteArray), Ok (Bt s suffix) Ee (dn AF EO [.t (.v (.string s)), .t (.v (.string suffix))]) := by
 intro s suffix
 rw [A9 AF (fn := BS) rfl (xN rfl rfl _) (lB rfl)]
 have k0 := @BS.eq_1; have f0 := @Bt.eq_1
 exact gs
theorem Rr : ∀ (s : ByteArray) (suffix : ByteArray), Ok (EX s suffix) MZ (dn AF MU [.t (.v (.string s)), .t (.v (.string suffix))]) := by
 intro s suffix
 rw [A9 AF (fn := F9) rfl (xN rfl rfl _) (lB rfl)]
 have k0 := @F9.eq_1; have f0 := @EX.eq_1; have g0 := IP
 exact gs
theorem aF : ∀ (s : ByteArray), Ok (OL s) TX (dn AF T5 [.t (.v (.string s))]) := by
 intro s
 rw [A9 AF (fn := LD) rfl (xN rfl rfl _) (lB rfl)]
 have k0 := @LD.eq_1; have f0 := @OL.eq_1; have g0 := Gb; have g1 := Mf; have g2 := Rr
 exact gs
theorem QZ : ∀ (n : Int), Ok (Gv n) RW (dn AF NY [.t (.v (.int .i64 n))]) := by
 intro n
 rw [A9 AF (fn := JL) rfl (xN rfl rfl _) (lB rfl)]
 have k0 := @JL.eq_1; have f0 := @Gv.eq_1; have g0 := P6
 exact gs
theorem aG : ∀ (n : Int), Ok (IF n) TY (dn AF Sz [.t (.v (.int .i64 n))]) := by
 intro n
 rw [A9 AF (fn := LH) rfl (xN rfl rfl _) (lB rfl)]
 have k0 := @LH.eq_1; have f0 := @IF.eq_1; have g0 := QZ; have g1 := P6
 exact gs
theorem UP (s : ByteArray) : ∀ (at1 : Int), Ok (CA s at1) Nt (ev AF RX (.loop JB) [.lv 0, .th JC] (BZ (List.replicate 38 .dead) [(0, .t (.v (.string s))), (3, .t (.v (.int .i64 at1)))]) (Ba (List.replicate 38 []) [])) := by
 unfold Ok
 refine CA.partial_correctness s _ ?_
 intro F ih at1
 show Ok _ _ _
 have ih : ∀ (at1 : Int), Ok (F at1) _ _ := ih
 rw [AZ]
 have k0 := @JB.eq_1; have k1 := @JC.eq_1; have g0 := Rq; have g1 := QZ; have g2 := aG; have g3 := QG; have t0 := ih
 exact gs
theorem Hp : ∀ (s : ByteArray), Ok (EY s) Nt (dn AF GI [.t (.v (.string s))]) := by
 intro s
 rw [A9 AF (fn := JD) rfl (xN rfl rfl _) (lB rfl)]
 have k0 := @JD.eq_1; have f0 := @EY.eq_1; have t0 := UP
 exact gs
theorem Rs : ∀ (s : ByteArray) (t : ByteArray), Ok (strings_EqualFold s t) H4 (dn AF H0 [.t (.v (.string s)), .t (.v (.string t))]) := by
 intro s t r hr
 exact Mk AF.ft (Sw AF) (p9 s t (e := H4) (fun _ => rfl) hr)
theorem YP : ∀ (n : Int), Ok (Gw n) RY (dn AF R5 [.t (.v (.int .i64 n))]) := by
 intro n
 rw [A9 AF (fn := JV) rfl (xN rfl rfl _) (lB rfl)]
 have k0 := @JV.eq_1; have f0 := @Gw.eq_1
 exact gs
end TT
