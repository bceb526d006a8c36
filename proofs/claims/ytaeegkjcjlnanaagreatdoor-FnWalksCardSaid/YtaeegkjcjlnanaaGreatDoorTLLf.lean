import Derived.Test.YtaeegkjcjlnanaaGreatDoorTLLe
set_option maxHeartbeats 2000000
set_option linter.unusedVariables false
set_option linter.unusedSimpArgs false
set_option linter.defProp false
set_option maxRecDepth 100000
namespace TT
open Go
open Nat (reduceAdd reduceSub reduceMul reduceLeDiff reduceLT reduceEqDiff)
theorem ZX : ∀ (n : A0), Ok (FU n) OX (dn AG SV [.agg (((A0.row false) n).map .t)]) := by
 intro n
 rw [A9 AG (fn := Ko) rfl (xN rfl rfl _) (lB rfl)]
 have k0 := @Ko.eq_1; have f0 := @FU.eq_1; have t0 := VM
 exact gs
theorem ID : ∀ (s : ByteArray) (prefix1 : ByteArray), Ok (Bo s prefix1) ER (dn AG E9 [.t (.v (.string s)), .t (.v (.string prefix1))]) := by
 intro s prefix1
 rw [A9 AG (fn := BP) rfl (xN rfl rfl _) (lB rfl)]
 have k0 := @BP.eq_1; have f0 := @Bo.eq_1
 exact gs
theorem RL : ∀ (s : ByteArray) (prefix1 : ByteArray), Ok (EK s prefix1) MI (dn AG M9 [.t (.v (.string s)), .t (.v (.string prefix1))]) := by
 intro s prefix1
 rw [A9 AG (fn := En) rfl (xN rfl rfl _) (lB rfl)]
 have k0 := @En.eq_1; have f0 := @EK.eq_1; have g0 := ID
 exact gs
theorem Of : ∀ (s : ByteArray), Ok (GJ s) V3 (dn AG MX [.t (.v (.string s))]) := by
 intro s
 rw [A9 AG (fn := Mr) rfl (xN rfl rfl _) (lB rfl)]
 have k0 := @Mr.eq_1; have f0 := @GJ.eq_1; have g0 := Hc; have g1 := RL
 exact gs
theorem Og : ∀ (uri : ByteArray) (pre : ByteArray), Ok (Ho uri pre) V4 (dn AG MY [.t (.v (.string uri)), .t (.v (.string pre))]) := by
 intro uri pre
 rw [A9 AG (fn := Ms) rfl (xN rfl rfl _) (lB rfl)]
 have k0 := @Ms.eq_1; have f0 := @Ho.eq_1; have g0 := GN
 exact gs
theorem ZY : ∀ (d : A1), Ok (LQ d) TB (dn AG SN [.agg ((A1.row d).map .t)]) := by
 intro d
 rw [A9 AG (fn := Ku) rfl (xN rfl rfl _) (lB rfl)]
 have k0 := @Ku.eq_1; have f0 := @LQ.eq_1; have g0 := Of; have g1 := Og
 exact gs
theorem Ty (l : List A1) : ∀ (x2 : Int), Ok (Ci l x2) Nf (ev AG Qz (.loop J0) [.lv 0, .th J1] (Ba (List.replicate 34 .dead) [(0, .t (.sl false (l.map A1.row))), (5, .t (.sl false (l.map A1.row))), (6, .t (.v (.int .i64 (AC l)))), (7, .t (.v (.int .i64 x2)))]) (Bb (List.replicate 34 []) [])) := by
 unfold Ok
 refine Ci.partial_correctness l _ ?_
 intro F ih x2
 show Ok _ _ _
 have ih : ∀ (x2 : Int), Ok (F x2) _ _ := ih
 rw [AX]
 have k0 := @J0.eq_1; have k1 := @J1.eq_1; have g0 := ZY; have t0 := ih
 exact gs
theorem Xt : ∀ (l : List A1), Ok (N0 l) Nf (dn AG Qb [.t (.sl false (l.map A1.row))]) := by
 intro l
 rw [A9 AG (fn := J2) rfl (xN rfl rfl _) (lB rfl)]
 have k0 := @J2.eq_1; have f0 := @N0.eq_1; have t0 := Ty
 exact gs
theorem ZZ : ∀ (a : A3), Ok (GK a) TC (dn AG SU [.agg ((A3.row a).map .t)]) := by
 intro a
 rw [A9 AG (fn := Kv) rfl (xN rfl rfl _) (lB rfl)]
 have k0 := @Kv.eq_1; have f0 := @GK.eq_1; have g0 := Of; have g1 := Og; have g2 := Hc; have g3 := GN
 exact gs
theorem Tz : ∀ (s : ByteArray) (t : ByteArray), Ok (strings_Compare s t) JY (dn AG Fp [.t (.v (.string s)), .t (.v (.string t))]) := by
 intro s t r hr
 exact MT AG.ft (SL AG) (fL s t (e := JY) (fun _ => rfl) hr)
theorem RM : ∀ (a : A3) (b : A3), Ok (EL a b) MJ (dn AG M6 [.agg ((A3.row a).map .t), .agg ((A3.row b).map .t)]) := by
 intro a b
 rw [A9 AG (fn := Eo) rfl (xN rfl rfl _) (lB rfl)]
 have k0 := @Eo.eq_1; have f0 := @EL.eq_1; have g0 := Tz
 exact gs
theorem U0 (l : List A3) : ∀ (x2 : Int), Ok (Cj l x2) Ng (ev AG R0 (.loop J3) [.lv 0, .th J4] (Ba (List.replicate 33 .dead) [(0, .t (.sl false (l.map A3.row))), (5, .t (.sl false (l.map A3.row))), (6, .t (.v (.int .i64 (AC l)))), (7, .t (.v (.int .i64 x2)))]) (Bb (List.replicate 33 []) [])) := by
 unfold Ok
 refine Cj.partial_correctness l _ ?_
 intro F ih x2
 show Ok _ _ _
 have ih : ∀ (x2 : Int), Ok (F x2) _ _ := ih
 rw [AX]
 have k0 := @J3.eq_1; have k1 := @J4.eq_1; have g0 := ZZ; have g1 := RM; have t0 := ih
 exact gs
theorem Xu : ∀ (l : List A3), Ok (JR l) Ng (dn AG Qd [.t (.sl false (l.map A3.row))]) := by
 intro l
 rw [A9 AG (fn := J5) rfl (xN rfl rfl _) (lB rfl)]
 have k0 := @J5.eq_1; have f0 := @JR.eq_1; have t0 := U0
 exact gs
theorem QF (l : List A0) : ∀ (x2 : Int), Ok (B8 l x2) JZ (ev AG O4 (.loop G9) [.lv 0, .th GA] (Ba (List.replicate 29 .dead) [(0, .t (.sl false (l.map (A0.row false)))), (5, .t (.sl false (l.map (A0.row false)))), (6, .t (.v (.int .i64 (AC l)))), (7, .t (.v (.int .i64 x2)))]) (Bb (List.replicate 29 []) [])) := by
 unfold Ok
 refine B8.partial_correctness l _ ?_
 intro F ih x2
 show Ok _ _ _
 have ih : ∀ (x2 : Int), Ok (F x2) _ _ := ih
 rw [AX]
 have k0 := @G9.eq_1; have k1 := @GA.eq_1; have t0 := ih
 exact gs
theorem U1 : ∀ (l : List A0), Ok (Fh l) JZ (dn AG Nq [.t (.sl false (l.map (A0.row false)))]) := by
 intro l
 rw [A9 AG (fn := Fw) rfl (xN rfl rfl _) (lB rfl)]
 have k0 := @Fw.eq_1; have f0 := @Fh.eq_1; have t0 := QF
 exact gs
theorem HF : (∀ (n : A0) (deep : Int), Ok (DZ n deep) OY (dn AG KK [.agg (((A0.row false) n).map .t), .t (.v (.int .i64 deep))])) ∧
  (∀ (s : List A0) (fc0 : Int), Ok (BJ s fc0) C1 (dn AG Dl [.t (.sl false (s.map (A0.row false))), .fn Ca [.lp [.v (.int .i64 fc0)] 0]])) ∧
  (∀ (s : List A0) (fc0 : Int), Ok (Bq s fc0) BR (dn AG F9 [.t (.sl false (s.map (A0.row false))), .fn Ca [.lp [.v (.int .i64 fc0)] 0]])) ∧
  (∀ (s : List A0) (x1 : Int) (f : Int), Ok (AR s x1 f) BR (ev AG ET (.loop Dm) [.lv 0, .th Dn] (Ba (List.replicate 19 .dead) [(0, .t (.sl false (s.map (A0.row false)))), (1, .fn Ca [.ptr (1, 0) [] 0 0 1 0]), (7, .t (.v (.int .i64 (AC s)))), (8, .t (.v (.int .i64 x1)))]) (Bb (List.replicate 19 []) [(1, [.mem [[.v (.int .i64 f)]] 0 true])]))) ∧
  (∀ (k : A0) (a1 : Int), Ok (L6 k a1) Lz (dn AG Ca [.agg (((A0.row false) k).map .t), .lp [.v (.int .i64 a1)] 0])) ∧
  (∀ (n : A0) (deep : Int), Ok (B7 n deep) OZ (dn AG KL [.agg (((A0.row false) n).map .t), .t (.v (.int .i64 deep))])) := by
 unfold Ok
 refine DZ.mutual_partial_correctness _ _ _ _ _ _ ?_ ?_ ?_ ?_ ?_ ?_
 ·intro F1 ih1 n deep
  show Ok _ _ _
  have ih1 : ∀ (s : List A0) (fc0 : Int), Ok (F1 s fc0) _ _ := ih1
  rw [A9 AG (fn := Ki) rfl (xN rfl rfl _) (lB rfl)]
  have k0 := @Ki.eq_1; have g0 := U1; have g1 := ih1
  exact gs
 ·intro F2 ih2 s fc0
  show Ok _ _ _
  have ih2 : ∀ (s : List A0) (fc0 : Int), Ok (F2 s fc0) _ _ := ih2
  rw [A9 AG (fn := CN) rfl (xN rfl rfl _) (lB rfl)]
  have k0 := @CN.eq_1; have g0 := ih2
  exact gs
 ·intro F3 ih3 s fc0
  show Ok _ _ _
  have ih3 : ∀ (s : List A0) (x1 : Int) (f : Int), Ok (F3 s x1 f) _ _ := ih3
  rw [A9 AG (fn := DA) rfl (xN rfl rfl _) (lB rfl)]
  have k0 := @DA.eq_1; have t0 := ih3
  exact gs
 ·intro F3 F4 ih3 ih4 s x1 f
  show Ok _ _ _
  have ih4 : ∀ (k : A0) (a1 : Int), Ok (F4 k a1) _ _ := ih4
  have ih3 : ∀ (s : List A0) (x1 : Int) (f : Int), Ok (F3 s x1 f) _ _ := ih3
  rw [AX]
  have k0 := @Dm.eq_1; have k1 := @Dn.eq_1; have g0 := ih4; have t0 := ih3
  exact gs
 ·intro F5 ih5 k a1
  show Ok _ _ _
  have ih5 : ∀ (n : A0) (deep : Int), Ok (F5 n deep) _ _ := ih5
  rw [A9 AG (fn := HV) rfl (xN rfl rfl _) (lB rfl)]
  have k0 := @HV.eq_1; have g0 := ih5
  exact gs
 ·intro F0 ih0 n deep
  show Ok _ _ _
  have ih0 : ∀ (n : A0) (deep : Int), Ok (F0 n deep) _ _ := ih0
  rw [A9 AG (fn := Kg) rfl (xN rfl rfl _) (lB rfl)]
  have k0 := @Kg.eq_1; have g0 := ZX; have g1 := Of; have g2 := Og; have g3 := Hc; have g4 := Xt; have g5 := Xu; have g6 := ih0
  exact gs
theorem Za (n : A0) (deep : Int) : Ok (DZ n deep) OY (dn AG KK [.agg (((A0.row false) n).map .t), .t (.v (.int .i64 deep))]) := HF.1 n deep
theorem SE (s : List A0) (fc0 : Int) : Ok (BJ s fc0) C1 (dn AG Dl [.t (.sl false (s.map (A0.row false))), .fn Ca [.lp [.v (.int .i64 fc0)] 0]]) := HF.2.1 s fc0
theorem UB (s : List A0) (fc0 : Int) : Ok (Bq s fc0) BR (dn AG F9 [.t (.sl false (s.map (A0.row false))), .fn Ca [.lp [.v (.int .i64 fc0)] 0]]) := HF.2.2.1 s fc0
theorem p5 (k : A0) (a1 : Int) : Ok (L6 k a1) Lz (dn AG Ca [.agg (((A0.row false) k).map .t), .lp [.v (.int .i64 a1)] 0]) := HF.2.2.2.2.1 k a1
theorem Zb (n : A0) (deep : Int) : Ok (B7 n deep) OZ (dn AG KL [.agg (((A0.row false) n).map .t), .t (.v (.int .i64 deep))]) := HF.2.2.2.2.2 n deep
theorem VN (kind : Int) (l : List A0) : ∀ (n : Int) (x1 : Int), Ok (D6 kind n l x1) Oa (ev AG TD (.loop K6) [.lv 0, .th K7] (Ba (List.replicate 22 .dead) [(1, .t (.v (.int .i64 kind))), (5, .t (.v (.int .i64 n))), (8, .t (.sl false (l.map (A0.row false)))), (9, .t (.v (.int .i64 (AC l)))), (10, .t (.v (.int .i64 x1)))]) (Bb (List.replicate 22 []) [])) := by
 unfold Ok
 refine D6.partial_correctness kind l _ ?_
 intro F ih n x1
 show Ok _ _ _
 have ih : ∀ (n : Int) (x1 : Int), Ok (F n x1) _ _ := ih
 rw [AX]
 have k0 := @K6.eq_1; have k1 := @K7.eq_1; have t0 := ih
 exact gs
theorem Zc : ∀ (l : List A0) (kind : Int), Ok (I6 l kind) Oa (dn AG OI [.t (.sl false (l.map (A0.row false))), .t (.v (.int .i64 kind))]) := by
 intro l kind
 rw [A9 AG (fn := Kh) rfl (xN rfl rfl _) (lB rfl)]
 have k0 := @Kh.eq_1; have f0 := @I6.eq_1; have t0 := VN
 exact gs
theorem U2 : ∀ (bare : Bool) (n : A0), Ok (Bh bare n) Ob (ev AG TE Ie [] (Ba (List.replicate 59 .dead) [(1, .ptr (1, 0) [] 0 0 1 0), (3, .t (.v (.bool bare)))]) (Bb (List.replicate 59 []) [(1, [.mem [[.v (.int .i64 n.Kind), .v (.string n.Pre), .v (.string n.Local), .v (.string n.Uri), .sl false (n.Decls.map A1.row), .sl false (n.Attrs.map A3.row), .sl false (n.Kids.map (A0.row false)), .v (.string n.Text)]] 0 false])])) := by
 intro bare n
 have k0 := @Ie.eq_1; have f0 := @Bh.eq_1; have g0 := Zc; have g1 := Za
 exact gs
theorem Zd : ∀ (n : A0), Ok (GL n) Ob (dn AG SR [.agg (((A0.row false) n).map .t)]) := by
 intro n
 rw [A9 AG (fn := Kb) rfl (xN rfl rfl _) (lB rfl)]
 have k0 := @Kb.eq_1; have f0 := @GL.eq_1; have g0 := Xp; have g1 := Zb; have t0 := U2
 exact gs
end TT
