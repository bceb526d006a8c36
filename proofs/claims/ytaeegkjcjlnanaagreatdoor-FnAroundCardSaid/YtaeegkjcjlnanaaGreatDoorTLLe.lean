import Derived.Test.YtaeegkjcjlnanaaGreatDoorTLLd
set_option maxHeartbeats 2000000
set_option linter.unusedVariables false
set_option linter.unusedSimpArgs false
set_option linter.defProp false
set_option maxRecDepth 100000
namespace TT
open Go
open Nat (reduceAdd reduceSub reduceMul reduceLeDiff reduceLT reduceEqDiff)
theorem IP : ∀ (s : ByteArray) (prefix1 : ByteArray), Ok (Bt s prefix1) EZ (dn AF EF [.t (.v (.string s)), .t (.v (.string prefix1))]) := by
 intro s prefix1
 rw [A9 AF (fn := BT) rfl (xN rfl rfl _) (lB rfl)]
 have k0 := @BT.eq_1; have f0 := @Bt.eq_1
 exact gs
theorem R5 : ∀ (s : ByteArray) (prefix1 : ByteArray), Ok (EQ s prefix1) M9 (dn AF M5 [.t (.v (.string s)), .t (.v (.string prefix1))]) := by
 intro s prefix1
 rw [A9 AF (fn := Es) rfl (xN rfl rfl _) (lB rfl)]
 have k0 := @Es.eq_1; have f0 := @EQ.eq_1; have g0 := IP
 exact gs
theorem OR : ∀ (s : ByteArray), Ok (GJ s) Uf (dn AF MQ [.t (.v (.string s))]) := by
 intro s
 rw [A9 AF (fn := Mf) rfl (xN rfl rfl _) (lB rfl)]
 have k0 := @Mf.eq_1; have f0 := @GJ.eq_1; have g0 := Hk; have g1 := R5
 exact gs
theorem OS : ∀ (uri : ByteArray) (pre : ByteArray), Ok (Hw uri pre) Ug (dn AF MR [.t (.v (.string uri)), .t (.v (.string pre))]) := by
 intro uri pre
 rw [A9 AF (fn := Mg) rfl (xN rfl rfl _) (lB rfl)]
 have k0 := @Mg.eq_1; have f0 := @Hw.eq_1; have g0 := GO
 exact gs
theorem Yz : ∀ (d : A1), Ok (LQ d) Sx (dn AF SG [.agg ((A1.row d).map .t)]) := by
 intro d
 rw [A9 AF (fn := Ku) rfl (xN rfl rfl _) (lB rfl)]
 have k0 := @Ku.eq_1; have f0 := @LQ.eq_1; have g0 := OR; have g1 := OS
 exact gs
theorem Ti (l : List A1) : ∀ (x2 : Int), Ok (Ci l x2) NM (ev AF Qr (.loop J7) [.lv 0, .th J8] (Bk (List.replicate 34 .dead) [(0, .t (.sl false (l.map A1.row))), (5, .t (.sl false (l.map A1.row))), (6, .t (.v (.int .i64 (AC l)))), (7, .t (.v (.int .i64 x2)))]) (Bm (List.replicate 34 []) [])) := by
 unfold Ok
 refine Ci.partial_correctness l _ ?_
 intro F ih x2
 show Ok _ _ _
 have ih : ∀ (x2 : Int), Ok (F x2) _ _ := ih
 rw [Aa]
 have k0 := @J7.eq_1; have k1 := @J8.eq_1; have g0 := Yz; have t0 := ih
 exact gs
theorem XU : ∀ (l : List A1), Ok (Mo l) NM (dn AF QU [.t (.sl false (l.map A1.row))]) := by
 intro l
 rw [A9 AF (fn := J9) rfl (xN rfl rfl _) (lB rfl)]
 have k0 := @J9.eq_1; have f0 := @Mo.eq_1; have t0 := Ti
 exact gs
theorem Z0 : ∀ (a : A3), Ok (GK a) Sy (dn AF SK [.agg ((A3.row a).map .t)]) := by
 intro a
 rw [A9 AF (fn := Kv) rfl (xN rfl rfl _) (lB rfl)]
 have k0 := @Kv.eq_1; have f0 := @GK.eq_1; have g0 := OR; have g1 := OS; have g2 := Hk; have g3 := GO
 exact gs
theorem Tj : ∀ (s : ByteArray) (t : ByteArray), Ok (strings_Compare s t) Je (dn AF Fp [.t (.v (.string s)), .t (.v (.string t))]) := by
 intro s t r hr
 exact MM AF.ft (SD AF) (eC s t (e := Je) (fun _ => rfl) hr)
theorem R6 : ∀ (a : A3) (b : A3), Ok (ER a b) MA (dn AF M2 [.agg ((A3.row a).map .t), .agg ((A3.row b).map .t)]) := by
 intro a b
 rw [A9 AF (fn := Et) rfl (xN rfl rfl _) (lB rfl)]
 have k0 := @Et.eq_1; have f0 := @ER.eq_1; have g0 := Tj
 exact gs
theorem Tk (l : List A3) : ∀ (x2 : Int), Ok (Cj l x2) NN (ev AF Qs (.loop JA) [.lv 0, .th JB] (Bk (List.replicate 33 .dead) [(0, .t (.sl false (l.map A3.row))), (5, .t (.sl false (l.map A3.row))), (6, .t (.v (.int .i64 (AC l)))), (7, .t (.v (.int .i64 x2)))]) (Bm (List.replicate 33 []) [])) := by
 unfold Ok
 refine Cj.partial_correctness l _ ?_
 intro F ih x2
 show Ok _ _ _
 have ih : ∀ (x2 : Int), Ok (F x2) _ _ := ih
 rw [Aa]
 have k0 := @JA.eq_1; have k1 := @JB.eq_1; have g0 := Z0; have g1 := R6; have t0 := ih
 exact gs
theorem XV : ∀ (l : List A3), Ok (JY l) NN (dn AF QX [.t (.sl false (l.map A3.row))]) := by
 intro l
 rw [A9 AF (fn := JC) rfl (xN rfl rfl _) (lB rfl)]
 have k0 := @JC.eq_1; have f0 := @JY.eq_1; have t0 := Tk
 exact gs
theorem Q9 (l : List A0) : ∀ (x2 : Int), Ok (BJ l x2) Jf (ev AF Nq (.loop GA) [.lv 0, .th GB] (Bk (List.replicate 29 .dead) [(0, .t (.sl false (l.map (A0.row false)))), (5, .t (.sl false (l.map (A0.row false)))), (6, .t (.v (.int .i64 (AC l)))), (7, .t (.v (.int .i64 x2)))]) (Bm (List.replicate 29 []) [])) := by
 unfold Ok
 refine BJ.partial_correctness l _ ?_
 intro F ih x2
 show Ok _ _ _
 have ih : ∀ (x2 : Int), Ok (F x2) _ _ := ih
 rw [Aa]
 have k0 := @GA.eq_1; have k1 := @GB.eq_1; have t0 := ih
 exact gs
theorem Tl : ∀ (l : List A0), Ok (Ff l) Jf (dn AF Nc [.t (.sl false (l.map (A0.row false)))]) := by
 intro l
 rw [A9 AF (fn := Fv) rfl (xN rfl rfl _) (lB rfl)]
 have k0 := @Fv.eq_1; have f0 := @Ff.eq_1; have t0 := Q9
 exact gs
theorem HG : (∀ (n : A0) (deep : Int), Ok (Dd n deep) OJ (dn AF KN [.agg (((A0.row false) n).map .t), .t (.v (.int .i64 deep))])) ∧
  (∀ (s : List A0) (fc0 : Int), Ok (BP s fc0) C3 (dn AF Dr [.t (.sl false (s.map (A0.row false))), .fn Cd [.lp [.v (.int .i64 fc0)] 0]])) ∧
  (∀ (s : List A0) (fc0 : Int), Ok (Bu s fc0) BV (dn AF FB [.t (.sl false (s.map (A0.row false))), .fn Cd [.lp [.v (.int .i64 fc0)] 0]])) ∧
  (∀ (s : List A0) (x1 : Int) (f : Int), Ok (AS s x1 f) BV (ev AF Ea (.loop Du) [.lv 0, .th Dv] (Bk (List.replicate 19 .dead) [(0, .t (.sl false (s.map (A0.row false)))), (1, .fn Cd [.ptr (1, 0) [] 0 0 1 0]), (7, .t (.v (.int .i64 (AC s)))), (8, .t (.v (.int .i64 x1)))]) (Bm (List.replicate 19 []) [(1, [.mem [[.v (.int .i64 f)]] 0 true])]))) ∧
  (∀ (k : A0) (a1 : Int), Ok (L6 k a1) Lw (dn AF Cd [.agg (((A0.row false) k).map .t), .lp [.v (.int .i64 a1)] 0])) ∧
  (∀ (n : A0) (deep : Int), Ok (Be n deep) OK (dn AF KO [.agg (((A0.row false) n).map .t), .t (.v (.int .i64 deep))])) := by
 unfold Ok
 refine Dd.mutual_partial_correctness _ _ _ _ _ _ ?_ ?_ ?_ ?_ ?_ ?_
 ·intro F1 ih1 n deep
  show Ok _ _ _
  have ih1 : ∀ (s : List A0) (fc0 : Int), Ok (F1 s fc0) _ _ := ih1
  rw [A9 AF (fn := Kk) rfl (xN rfl rfl _) (lB rfl)]
  have k0 := @Kk.eq_1; have g0 := Tl; have g1 := ih1
  exact gs
 ·intro F2 ih2 s fc0
  show Ok _ _ _
  have ih2 : ∀ (s : List A0) (fc0 : Int), Ok (F2 s fc0) _ _ := ih2
  rw [A9 AF (fn := CS) rfl (xN rfl rfl _) (lB rfl)]
  have k0 := @CS.eq_1; have g0 := ih2
  exact gs
 ·intro F3 ih3 s fc0
  show Ok _ _ _
  have ih3 : ∀ (s : List A0) (x1 : Int) (f : Int), Ok (F3 s x1 f) _ _ := ih3
  rw [A9 AF (fn := DG) rfl (xN rfl rfl _) (lB rfl)]
  have k0 := @DG.eq_1; have t0 := ih3
  exact gs
 ·intro F3 F4 ih3 ih4 s x1 f
  show Ok _ _ _
  have ih4 : ∀ (k : A0) (a1 : Int), Ok (F4 k a1) _ _ := ih4
  have ih3 : ∀ (s : List A0) (x1 : Int) (f : Int), Ok (F3 s x1 f) _ _ := ih3
  rw [Aa]
  have k0 := @Du.eq_1; have k1 := @Dv.eq_1; have g0 := ih4; have t0 := ih3
  exact gs
 ·intro F5 ih5 k a1
  show Ok _ _ _
  have ih5 : ∀ (n : A0) (deep : Int), Ok (F5 n deep) _ _ := ih5
  rw [A9 AF (fn := He) rfl (xN rfl rfl _) (lB rfl)]
  have k0 := @He.eq_1; have g0 := ih5
  exact gs
 ·intro F0 ih0 n deep
  show Ok _ _ _
  have ih0 : ∀ (n : A0) (deep : Int), Ok (F0 n deep) _ _ := ih0
  rw [A9 AF (fn := Ki) rfl (xN rfl rfl _) (lB rfl)]
  have k0 := @Ki.eq_1; have g0 := Yy; have g1 := OR; have g2 := OS; have g3 := Hk; have g4 := XU; have g5 := XV; have g6 := ih0
  exact gs
theorem Z1 (n : A0) (deep : Int) : Ok (Dd n deep) OJ (dn AF KN [.agg (((A0.row false) n).map .t), .t (.v (.int .i64 deep))]) := HG.1 n deep
theorem S5 (s : List A0) (fc0 : Int) : Ok (BP s fc0) C3 (dn AF Dr [.t (.sl false (s.map (A0.row false))), .fn Cd [.lp [.v (.int .i64 fc0)] 0]]) := HG.2.1 s fc0
theorem Tv (s : List A0) (fc0 : Int) : Ok (Bu s fc0) BV (dn AF FB [.t (.sl false (s.map (A0.row false))), .fn Cd [.lp [.v (.int .i64 fc0)] 0]]) := HG.2.2.1 s fc0
theorem nq (k : A0) (a1 : Int) : Ok (L6 k a1) Lw (dn AF Cd [.agg (((A0.row false) k).map .t), .lp [.v (.int .i64 a1)] 0]) := HG.2.2.2.2.1 k a1
theorem Z2 (n : A0) (deep : Int) : Ok (Be n deep) OK (dn AF KO [.agg (((A0.row false) n).map .t), .t (.v (.int .i64 deep))]) := HG.2.2.2.2.2 n deep
theorem Ut (kind : Int) (l : List A0) : ∀ (n : Int) (x1 : Int), Ok (DA kind n l x1) OL (ev AF Sz (.loop K9) [.lv 0, .th KA] (Bk (List.replicate 22 .dead) [(1, .t (.v (.int .i64 kind))), (5, .t (.v (.int .i64 n))), (8, .t (.sl false (l.map (A0.row false)))), (9, .t (.v (.int .i64 (AC l)))), (10, .t (.v (.int .i64 x1)))]) (Bm (List.replicate 22 []) [])) := by
 unfold Ok
 refine DA.partial_correctness kind l _ ?_
 intro F ih n x1
 show Ok _ _ _
 have ih : ∀ (n : Int) (x1 : Int), Ok (F n x1) _ _ := ih
 rw [Aa]
 have k0 := @K9.eq_1; have k1 := @KA.eq_1; have t0 := ih
 exact gs
theorem Z3 : ∀ (l : List A0) (kind : Int), Ok (IH l kind) OL (dn AF O6 [.t (.sl false (l.map (A0.row false))), .t (.v (.int .i64 kind))]) := by
 intro l kind
 rw [A9 AF (fn := Kj) rfl (xN rfl rfl _) (lB rfl)]
 have k0 := @Kj.eq_1; have f0 := @IH.eq_1; have t0 := Ut
 exact gs
theorem Tm : ∀ (bare : Bool) (n : A0), Ok (Bj bare n) OM (ev AF T0 Ik [] (Bk (List.replicate 59 .dead) [(1, .ptr (1, 0) [] 0 0 1 0), (3, .t (.v (.bool bare)))]) (Bm (List.replicate 59 []) [(1, [.mem [[.v (.int .i64 n.Kind), .v (.string n.Pre), .v (.string n.Local), .v (.string n.Uri), .sl false (n.Decls.map A1.row), .sl false (n.Attrs.map A3.row), .sl false (n.Kids.map (A0.row false)), .v (.string n.Text)]] 0 false])])) := by
 intro bare n
 have k0 := @Ik.eq_1; have f0 := @Bj.eq_1; have g0 := Z3; have g1 := Z1
 exact gs
theorem Z4 : ∀ (n : A0), Ok (GL n) OM (dn AF SJ [.agg (((A0.row false) n).map .t)]) := by
 intro n
 rw [A9 AF (fn := Kb) rfl (xN rfl rfl _) (lB rfl)]
 have k0 := @Kb.eq_1; have f0 := @GL.eq_1; have g0 := XQ; have g1 := Z2; have t0 := Tm
 exact gs
theorem Z5 : ∀ (n : A0) (l : List (A1)), Ok (No n l) T3 (dn AF O0 [.agg (((A0.row false) n).map .t), .t (.sl false (l.map A1.row))]) := by
 intro n l r hr
 refine MM AF.ft (SD AF) ?_
 have hp : ∀ k : List (A1), HK (k.map A1.row) = some (k.map fun x => (x.Pre, x.Uri)) := fun k => by
  induction k with
  | nil => rfl
  | cons x k ih => show (HK (k.map A1.row)).map _ = _; rw [ih]; rfl
 show YX [.agg (((A0.row false) n).map .t), .t (.sl false (l.map A1.row))] = some ⟨[.t (.v (.bool r))], []⟩
 have hr' : LO ((A0.row false) n) (l.map fun x => (x.Pre, x.Uri)) = some r := hr
 rw [YX, nU, hp]
 simp only [hr', Option.map_some]
end TT
