import Derived.Test.YtaeegkjcjlnanaaGreatDoorTLLe
set_option maxHeartbeats 2000000
set_option linter.unusedVariables false
set_option linter.unusedSimpArgs false
set_option linter.defProp false
set_option maxRecDepth 100000
namespace TT
open Go
open Nat (reduceAdd reduceSub reduceMul reduceLeDiff reduceLT reduceEqDiff)
theorem aH : ∀ (local1 : ByteArray) (s : ByteArray), Ok (OM local1 s) TZ (dn AF T6 [.t (.v (.string local1)), .t (.v (.string s))]) := by
 intro local1 s
 rw [A9 AF (fn := LF) rfl (xN rfl rfl _) (lB rfl)]
 have k0 := @LF.eq_1; have f0 := @OM.eq_1; have g0 := Hp; have g1 := Rs; have g2 := Gb; have g3 := Mf; have g4 := YP
 exact gs
theorem Vj : ∀ (n : A0), Ok (E7 n) Oy (ev AF Ta KQ [] (BZ (List.replicate 63 .dead) [(1, .ptr (1, 0) [] 0 0 1 0)]) (Ba (List.replicate 63 []) [(1, [.mem [[.v (.int .i64 n.Kind), .v (.string n.Pre), .v (.string n.Local), .v (.string n.Uri), .sl false (n.Decls.map A1.row), .sl false (n.Attrs.map A4.row), .sl false (n.Kids.map (A0.row false)), .v (.string n.Text)]] 0 false])])) := by
 intro n
 have k0 := @KQ.eq_1; have f0 := @E7.eq_1; have g0 := Gb; have g1 := aF; have g2 := aH
 exact gs
theorem aI : ∀ (n : A0), Ok (Di n) Oy (dn AF T4 [.agg (((A0.row false) n).map .t)]) := by
 intro n
 rw [A9 AF (fn := L9) rfl (xN rfl rfl _) (lB rfl)]
 have k0 := @L9.eq_1; have f0 := @Di.eq_1; have t0 := Vj
 exact gs
theorem IQ : ∀ (s : ByteArray) (prefix1 : ByteArray), Ok (Bu s prefix1) Ef (dn AF EN [.t (.v (.string s)), .t (.v (.string prefix1))]) := by
 intro s prefix1
 rw [A9 AF (fn := BR) rfl (xN rfl rfl _) (lB rfl)]
 have k0 := @BR.eq_1; have f0 := @Bu.eq_1
 exact gs
theorem Rt : ∀ (s : ByteArray) (prefix1 : ByteArray), Ok (EZ s prefix1) Ma (dn AF MT [.t (.v (.string s)), .t (.v (.string prefix1))]) := by
 intro s prefix1
 rw [A9 AF (fn := Ez) rfl (xN rfl rfl _) (lB rfl)]
 have k0 := @Ez.eq_1; have f0 := @EZ.eq_1; have g0 := IQ
 exact gs
theorem P7 : ∀ (s : ByteArray), Ok (GX s) VR (dn AF Mo [.t (.v (.string s))]) := by
 intro s
 rw [A9 AF (fn := N2) rfl (xN rfl rfl _) (lB rfl)]
 have k0 := @N2.eq_1; have f0 := @GX.eq_1; have g0 := Hp; have g1 := Rt
 exact gs
theorem P8 : ∀ (uri : ByteArray) (pre : ByteArray), Ok (Hy uri pre) VS (dn AF Mp [.t (.v (.string uri)), .t (.v (.string pre))]) := by
 intro uri pre
 rw [A9 AF (fn := N3) rfl (xN rfl rfl _) (lB rfl)]
 have k0 := @N3.eq_1; have f0 := @Hy.eq_1; have g0 := Gb
 exact gs
theorem aJ : ∀ (d : A1), Ok (Ln d) Tb (dn AF Sy [.agg ((A1.row d).map .t)]) := by
 intro d
 rw [A9 AF (fn := LI) rfl (xN rfl rfl _) (lB rfl)]
 have k0 := @LI.eq_1; have f0 := @Ln.eq_1; have g0 := P7; have g1 := P8
 exact gs
theorem UQ (l : List A1) : ∀ (x2 : Int), Ok (Cn l x2) Nu (ev AF RZ (.loop JE) [.lv 0, .th JF] (BZ (List.replicate 34 .dead) [(0, .t (.sl false (l.map A1.row))), (5, .t (.sl false (l.map A1.row))), (6, .t (.v (.int .i64 (A8 l)))), (7, .t (.v (.int .i64 x2)))]) (Ba (List.replicate 34 []) [])) := by
 unfold Ok
 refine Cn.partial_correctness l _ ?_
 intro F ih x2
 show Ok _ _ _
 have ih : ∀ (x2 : Int), Ok (F x2) _ _ := ih
 rw [AZ]
 have k0 := @JE.eq_1; have k1 := @JF.eq_1; have g0 := aJ; have t0 := ih
 exact gs
theorem YQ : ∀ (l : List A1), Ok (NC l) Nu (dn AF R4 [.t (.sl false (l.map A1.row))]) := by
 intro l
 rw [A9 AF (fn := JG) rfl (xN rfl rfl _) (lB rfl)]
 have k0 := @JG.eq_1; have f0 := @NC.eq_1; have t0 := UQ
 exact gs
theorem aK : ∀ (a : A4), Ok (GY a) Tc (dn AF T3 [.agg ((A4.row a).map .t)]) := by
 intro a
 rw [A9 AF (fn := LJ) rfl (xN rfl rfl _) (lB rfl)]
 have k0 := @LJ.eq_1; have f0 := @GY.eq_1; have g0 := P7; have g1 := P8; have g2 := Hp; have g3 := Gb
 exact gs
theorem UR : ∀ (s : ByteArray) (t : ByteArray), Ok (strings_Compare s t) Jp (dn AF G1 [.t (.v (.string s)), .t (.v (.string t))]) := by
 intro s t r hr
 exact Mk AF.ft (Sw AF) (fo s t (e := Jp) (fun _ => rfl) hr)
theorem Ru : ∀ (a : A4) (b : A4), Ok (Ea a b) Mb (dn AF MQ [.agg ((A4.row a).map .t), .agg ((A4.row b).map .t)]) := by
 intro a b
 rw [A9 AF (fn := F8) rfl (xN rfl rfl _) (lB rfl)]
 have k0 := @F8.eq_1; have f0 := @Ea.eq_1; have g0 := UR
 exact gs
theorem US (l : List A4) : ∀ (x2 : Int), Ok (Co l x2) Nv (ev AF Ra (.loop JH) [.lv 0, .th JI] (BZ (List.replicate 33 .dead) [(0, .t (.sl false (l.map A4.row))), (5, .t (.sl false (l.map A4.row))), (6, .t (.v (.int .i64 (A8 l)))), (7, .t (.v (.int .i64 x2)))]) (Ba (List.replicate 33 []) [])) := by
 unfold Ok
 refine Co.partial_correctness l _ ?_
 intro F ih x2
 show Ok _ _ _
 have ih : ∀ (x2 : Int), Ok (F x2) _ _ := ih
 rw [AZ]
 have k0 := @JH.eq_1; have k1 := @JI.eq_1; have g0 := aK; have g1 := Ru; have t0 := ih
 exact gs
theorem YR : ∀ (l : List A4), Ok (Ji l) Nv (dn AF R7 [.t (.sl false (l.map A4.row))]) := by
 intro l
 rw [A9 AF (fn := JJ) rfl (xN rfl rfl _) (lB rfl)]
 have k0 := @JJ.eq_1; have f0 := @Ji.eq_1; have t0 := US
 exact gs
theorem Qh (l : List A0) : ∀ (x2 : Int), Ok (BC l x2) Jq (ev AF OP (.loop GN) [.lv 0, .th GO] (BZ (List.replicate 29 .dead) [(0, .t (.sl false (l.map (A0.row false)))), (5, .t (.sl false (l.map (A0.row false)))), (6, .t (.v (.int .i64 (A8 l)))), (7, .t (.v (.int .i64 x2)))]) (Ba (List.replicate 29 []) [])) := by
 unfold Ok
 refine BC.partial_correctness l _ ?_
 intro F ih x2
 show Ok _ _ _
 have ih : ∀ (x2 : Int), Ok (F x2) _ _ := ih
 rw [AZ]
 have k0 := @GN.eq_1; have k1 := @GO.eq_1; have t0 := ih
 exact gs
theorem UT : ∀ (l : List A0), Ok (Fs l) Jq (dn AF OD [.t (.sl false (l.map (A0.row false)))]) := by
 intro l
 rw [A9 AF (fn := G7) rfl (xN rfl rfl _) (lB rfl)]
 have k0 := @G7.eq_1; have f0 := @Fs.eq_1; have t0 := Qh
 exact gs
theorem HQ : (∀ (n : A0) (deep : Int), Ok (Dj n deep) Oz (dn AF Ke [.agg (((A0.row false) n).map .t), .t (.v (.int .i64 deep))])) ∧
  (∀ (s : List A0) (fc0 : Int), Ok (BK s fc0) C5 (dn AF Dv [.t (.sl false (s.map (A0.row false))), .fn Cg [.lp [.v (.int .i64 fc0)] 0]])) ∧
  (∀ (s : List A0) (fc0 : Int), Ok (Bv s fc0) BT (dn AF FH [.t (.sl false (s.map (A0.row false))), .fn Cg [.lp [.v (.int .i64 fc0)] 0]])) ∧
  (∀ (s : List A0) (x1 : Int) (f : Int), Ok (AT s x1 f) BT (ev AF Eg (.loop Dw) [.lv 0, .th Dx] (BZ (List.replicate 19 .dead) [(0, .t (.sl false (s.map (A0.row false)))), (1, .fn Cg [.ptr (1, 0) [] 0 0 1 0]), (7, .t (.v (.int .i64 (A8 s)))), (8, .t (.v (.int .i64 x1)))]) (Ba (List.replicate 19 []) [(1, [.mem [[.v (.int .i64 f)]] 0 true])]))) ∧
  (∀ (k : A0) (a1 : Int), Ok (LR k a1) MK (dn AF Cg [.agg (((A0.row false) k).map .t), .lp [.v (.int .i64 a1)] 0])) ∧
  (∀ (n : A0) (deep : Int), Ok (AW n deep) P0 (dn AF Kf [.agg (((A0.row false) n).map .t), .t (.v (.int .i64 deep))])) := by
 unfold Ok
 refine Dj.mutual_partial_correctness _ _ _ _ _ _ ?_ ?_ ?_ ?_ ?_ ?_
 ·intro F1 ih1 n deep
  show Ok _ _ _
  have ih1 : ∀ (s : List A0) (fc0 : Int), Ok (F1 s fc0) _ _ := ih1
  rw [A9 AF (fn := L3) rfl (xN rfl rfl _) (lB rfl)]
  have k0 := @L3.eq_1; have g0 := UT; have g1 := ih1
  exact gs
 ·intro F2 ih2 s fc0
  show Ok _ _ _
  have ih2 : ∀ (s : List A0) (fc0 : Int), Ok (F2 s fc0) _ _ := ih2
  rw [A9 AF (fn := CU) rfl (xN rfl rfl _) (lB rfl)]
  have k0 := @CU.eq_1; have g0 := ih2
  exact gs
 ·intro F3 ih3 s fc0
  show Ok _ _ _
  have ih3 : ∀ (s : List A0) (x1 : Int) (f : Int), Ok (F3 s x1 f) _ _ := ih3
  rw [A9 AF (fn := DI) rfl (xN rfl rfl _) (lB rfl)]
  have k0 := @DI.eq_1; have t0 := ih3
  exact gs
 ·intro F3 F4 ih3 ih4 s x1 f
  show Ok _ _ _
  have ih4 : ∀ (k : A0) (a1 : Int), Ok (F4 k a1) _ _ := ih4
  have ih3 : ∀ (s : List A0) (x1 : Int) (f : Int), Ok (F3 s x1 f) _ _ := ih3
  rw [AZ]
  have k0 := @Dw.eq_1; have k1 := @Dx.eq_1; have g0 := ih4; have t0 := ih3
  exact gs
 ·intro F5 ih5 k a1
  show Ok _ _ _
  have ih5 : ∀ (n : A0) (deep : Int), Ok (F5 n deep) _ _ := ih5
  rw [A9 AF (fn := Hi) rfl (xN rfl rfl _) (lB rfl)]
  have k0 := @Hi.eq_1; have g0 := ih5
  exact gs
 ·intro F0 ih0 n deep
  show Ok _ _ _
  have ih0 : ∀ (n : A0) (deep : Int), Ok (F0 n deep) _ _ := ih0
  rw [A9 AF (fn := Ky) rfl (xN rfl rfl _) (lB rfl)]
  have k0 := @Ky.eq_1; have g0 := aI; have g1 := P7; have g2 := P8; have g3 := Hp; have g4 := YQ; have g5 := YR; have g6 := ih0
  exact gs
theorem aL (n : A0) (deep : Int) : Ok (Dj n deep) Oz (dn AF Ke [.agg (((A0.row false) n).map .t), .t (.v (.int .i64 deep))]) := HQ.1 n deep
theorem Sp (s : List A0) (fc0 : Int) : Ok (BK s fc0) C5 (dn AF Dv [.t (.sl false (s.map (A0.row false))), .fn Cg [.lp [.v (.int .i64 fc0)] 0]]) := HQ.2.1 s fc0
theorem Ud (s : List A0) (fc0 : Int) : Ok (Bv s fc0) BT (dn AF FH [.t (.sl false (s.map (A0.row false))), .fn Cg [.lp [.v (.int .i64 fc0)] 0]]) := HQ.2.2.1 s fc0
theorem pS (k : A0) (a1 : Int) : Ok (LR k a1) MK (dn AF Cg [.agg (((A0.row false) k).map .t), .lp [.v (.int .i64 a1)] 0]) := HQ.2.2.2.2.1 k a1
theorem aM (n : A0) (deep : Int) : Ok (AW n deep) P0 (dn AF Kf [.agg (((A0.row false) n).map .t), .t (.v (.int .i64 deep))]) := HQ.2.2.2.2.2 n deep
theorem Vk (kind : Int) (l : List A0) : ∀ (n : Int) (x1 : Int), Ok (DD kind n l x1) P2 (ev AF Td (.loop KI) [.lv 0, .th KJ] (BZ (List.replicate 22 .dead) [(1, .t (.v (.int .i64 kind))), (5, .t (.v (.int .i64 n))), (8, .t (.sl false (l.map (A0.row false)))), (9, .t (.v (.int .i64 (A8 l)))), (10, .t (.v (.int .i64 x1)))]) (Ba (List.replicate 22 []) [])) := by
 unfold Ok
 refine DD.partial_correctness kind l _ ?_
 intro F ih n x1
 show Ok _ _ _
 have ih : ∀ (n : Int) (x1 : Int), Ok (F n x1) _ _ := ih
 rw [AZ]
 have k0 := @KI.eq_1; have k1 := @KJ.eq_1; have t0 := ih
 exact gs
theorem aN : ∀ (l : List A0) (kind : Int), Ok (IG l kind) P2 (dn AF Od [.t (.sl false (l.map (A0.row false))), .t (.v (.int .i64 kind))]) := by
 intro l kind
 rw [A9 AF (fn := Kz) rfl (xN rfl rfl _) (lB rfl)]
 have k0 := @Kz.eq_1; have f0 := @IG.eq_1; have t0 := Vk
 exact gs
end TT
