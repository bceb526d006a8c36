import Derived.Test.YtaeegkjcjlnanaaGreatDoorTLLf
set_option maxHeartbeats 2000000
set_option linter.unusedVariables false
set_option linter.unusedSimpArgs false
set_option linter.defProp false
set_option maxRecDepth 100000
namespace TT
open Go
open Nat (reduceAdd reduceSub reduceMul reduceLeDiff reduceLT reduceEqDiff)
theorem UU : ∀ (bare : Bool) (n : A0), Ok (Bm bare n) P4 (ev AF Te In [] (BZ (List.replicate 59 .dead) [(1, .ptr (1, 0) [] 0 0 1 0), (3, .t (.v (.bool bare)))]) (Ba (List.replicate 59 []) [(1, [.mem [[.v (.int .i64 n.Kind), .v (.string n.Pre), .v (.string n.Local), .v (.string n.Uri), .sl false (n.Decls.map A1.row), .sl false (n.Attrs.map A4.row), .sl false (n.Kids.map (A0.row false)), .v (.string n.Text)]] 0 false])])) := by
 intro bare n
 have k0 := @In.eq_1; have f0 := @Bm.eq_1; have g0 := aN; have g1 := aL
 exact gs
theorem Rv : ∀ (n : A0), Ok (Dk n) P4 (dn AF Oa [.agg (((A0.row false) n).map .t)]) := by
 intro n
 rw [A9 AF (fn := Ko) rfl (xN rfl rfl _) (lB rfl)]
 have k0 := @Ko.eq_1; have f0 := @Dk.eq_1; have g0 := YM; have g1 := aM; have t0 := UU
 exact gs
theorem aO : ∀ (n : A0) (l : List (A1)), Ok (ON n l) Tf (dn AF OZ [.agg (((A0.row false) n).map .t), .t (.sl false (l.map A1.row))]) := by
 intro n l r hr
 refine Mk AF.ft (Sw AF) ?_
 have hp : ∀ k : List (A1), HR (k.map A1.row) = some (k.map fun x => (x.Pre, x.Uri)) := fun k => by
  induction k with
  | nil => rfl
  | cons x k ih => show (HR (k.map A1.row)).map _ = _; rw [ih]; rfl
 show Zd [.agg (((A0.row false) n).map .t), .t (.sl false (l.map A1.row))] = some ⟨[.t (.v (.bool r))], []⟩
 have hr' : Lj ((A0.row false) n) (l.map fun x => (x.Pre, x.Uri)) = some r := hr
 rw [Zd, pC, hp]
 simp only [hr', Option.map_some]
theorem Rw : ∀ (n : A0), Ok (IH n) Tg (dn AF Oc [.agg (((A0.row false) n).map .t)]) := by
 intro n
 rw [A9 AF (fn := Kp) rfl (xN rfl rfl _) (lB rfl)]
 have k0 := @Kp.eq_1; have f0 := @IH.eq_1; have g0 := Rv; have g1 := aO
 exact gs
theorem O4 : ∀ (w : AJ), Ok (Cp w) Th (dn AF Kd [.agg (((AJ.row false) w).map .t)]) := by
 intro w
 rw [A9 AF (fn := Kl) rfl (xN rfl rfl _) (lB rfl)]
 have k0 := @Kl.eq_1; have f0 := @Cp.eq_1; have g0 := O3; have g1 := Rw
 exact gs
theorem Vl : ∀ (w : AJ), Ok (D5 w) Xg (dn AF OC [.agg (((AJ.row false) w).map .t)]) := by
 intro w
 rw [A9 AF (fn := OG) rfl (xN rfl rfl _) (lB rfl)]
 have k0 := @OG.eq_1; have f0 := @D5.eq_1; have g0 := O4; have g1 := O3
 exact gs
theorem Qi : ∀ (s : List (List (A0))), Ok (Fk s) Lo (dn AF GK [.t (.sl false (s.map (rL false (A0.row false))))]) := by
 intro s r hr
 unfold Fk at hr
 split at hr
 ·rename_i l m q
  split at hr
  ·rename_i h
   cases hr
   refine Mk AF.ft (Sw AF) ?_
   have hl : ∀ k : List (A0), ∀ row ∈ k.map (A0.row false), row.length = 8 := fun k row hrow => by obtain ⟨x, _, rfl⟩ := List.mem_map.1 hrow; first | rfl | (cases x <;> rfl)
   show PM 8 144 [.t (.sl false [[.sl false (l.map (A0.row false))], [.sl false (m.map (A0.row false))], [.sl false (q.map (A0.row false))]])] = some ⟨[.t (.sl true ((l ++ m ++ q).map (A0.row false)))], []⟩
   rw [PM, if_pos ⟨⟨hl l, hl m, hl q⟩, by simpa using h⟩, List.map_append, List.map_append]
  ·cases hr
 ·cases hr
theorem Wy (l : List A0) : (∀ (out : List (A0)) (x7 : Int) (x9 : Bool) (x8 : A0), Ok (FR out l x7 x9 x8) Jr (ev AF NI KU [.lv 2, .lv 1, .th FP, .hk [.clean [5, 17, 18]], .th (.loop Fp), .lv 0, .th Fq] (BZ (List.replicate 59 .dead) [(3, .ref (19, 0) out.length), (5, .ptr (5, 0) [] 0 0 1 0), (6, .t (.v (.int .i64 (A8 out)))), (7, .t (.sl false (l.map (A0.row false)))), (8, .t (.v (.int .i64 (A8 l)))), (9, .t (.v (.int .i64 x7))), (20, .t (.v (.bool x9)))]) (Ba (List.replicate 59 []) [(5, [.mem [[.v (.int .i64 x8.Kind), .v (.string x8.Pre), .v (.string x8.Local), .v (.string x8.Uri), .sl false (x8.Decls.map A1.row), .sl false (x8.Attrs.map A4.row), .sl false (x8.Kids.map (A0.row false)), .v (.string x8.Text)]] 0 false]), (19, [.mem (out.map (A0.row true)) 0 false])]))) ∧
  (∀ (out : List (A0)) (x7 : Int) (x11 : Bool) (x8 : A0), Ok (E8 out l x7 x11 x8) Jr (ev AF NI KT [.lv 2, .lv 1, .th FP, .hk [.clean [5, 17, 18]], .th (.loop Fp), .lv 0, .th Fq] (BZ (List.replicate 59 .dead) [(3, .ref (19, 0) out.length), (5, .ptr (5, 0) [] 0 0 1 0), (6, .t (.v (.int .i64 (A8 out)))), (7, .t (.sl false (l.map (A0.row false)))), (8, .t (.v (.int .i64 (A8 l)))), (9, .t (.v (.int .i64 x7))), (29, .t (.v (.bool x11)))]) (Ba (List.replicate 59 []) [(5, [.mem [[.v (.int .i64 x8.Kind), .v (.string x8.Pre), .v (.string x8.Local), .v (.string x8.Uri), .sl false (x8.Decls.map A1.row), .sl false (x8.Attrs.map A4.row), .sl false (x8.Kids.map (A0.row false)), .v (.string x8.Text)]] 0 false]), (19, [.mem (out.map (A0.row true)) 0 false])]))) ∧
  (∀ (out : List (A0)) (x7 : Int), Ok (C4 out l x7) Jr (ev AF NI (.loop Fp) [.lv 0, .th Fq] (BZ (List.replicate 59 .dead) [(3, .ref (19, 0) out.length), (7, .t (.sl false (l.map (A0.row false)))), (8, .t (.v (.int .i64 (A8 l)))), (9, .t (.v (.int .i64 x7)))]) (Ba (List.replicate 59 []) [(19, [.mem (out.map (A0.row true)) 0 false])]))) := by
 unfold Ok
 refine FR.mutual_partial_correctness l _ _ _ ?_ ?_ ?_
 ·intro F1 F2 ih1 ih2 out x7 x9 x8
  show Ok _ _ _
  have ih2 : ∀ (out : List (A0)) (x7 : Int), Ok (F2 out x7) _ _ := ih2
  have ih1 : ∀ (out : List (A0)) (x7 : Int) (x11 : Bool) (x8 : A0), Ok (F1 out x7 x11 x8) _ _ := ih1
  have k0 := @KU.eq_1; have k1 := @FP.eq_1; have t0 := ih2; have t1 := ih1
  exact gs
 ·intro F2 ih2 out x7 x11 x8
  show Ok _ _ _
  have ih2 : ∀ (out : List (A0)) (x7 : Int), Ok (F2 out x7) _ _ := ih2
  have k0 := @KT.eq_1; have k1 := @FP.eq_1; have g0 := Ei; have t0 := ih2
  exact gs
 ·intro F0 ih0 out x7
  show Ok _ _ _
  have ih0 : ∀ (out : List (A0)) (x7 : Int) (x9 : Bool) (x8 : A0), Ok (F0 out x7 x9 x8) _ _ := ih0
  rw [AZ]
  have k0 := @Fp.eq_1; have k1 := @Fq.eq_1; have t0 := ih0
  exact gs
theorem dF : ∀ (l : List A0), Ok (Nj l) Jr (dn AF V3 [.t (.sl false (l.map (A0.row false)))]) := by
 intro l
 rw [A9 AF (fn := N9) rfl (xN rfl rfl _) (lB rfl)]
 have k0 := @N9.eq_1; have f0 := @Nj.eq_1; have t0 := fun a0 => (Wy a0).2.2
 exact gs
theorem YS : ∀ (l : List A0) (from1 : Int) (to1 : Int) (more : List A0), Ok (ND l from1 to1 more) Rc (dn AF R9 [.t (.sl false (l.map (A0.row false))), .t (.v (.int .i64 from1)), .t (.v (.int .i64 to1)), .t (.sl false (more.map (A0.row false)))]) := by
 intro l from1 to1 more
 rw [A9 AF (fn := JM) rfl (xN rfl rfl _) (lB rfl)]
 have k0 := @JM.eq_1; have f0 := @ND.eq_1; have g0 := Qi; have g1 := dF
 exact gs
theorem Sq : ∀ (a0 : A0) (a1 : Int) (a2 : List A0), Ok (Gx a0 a1 a2) Nw (dn AF NZ [.agg [.t (.v (.int .i64 a0.Kind)), .t (.v (.string a0.Pre)), .t (.v (.string a0.Local)), .t (.v (.string a0.Uri)), .ln (a0.Decls.map A1.row), .ln (a0.Attrs.map A4.row), .ln (a0.Kids.map (A0.row true)), .t (.v (.string a0.Text))], .pp [.v (.int .i64 a1)], .pp [.sl false (a2.map (A0.row false))]]) := by
 intro a0 a1 a2
 rw [A9 AF (fn := JK) rfl (xN rfl rfl _) (lB rfl)]
 have k0 := @JK.eq_1; have f0 := @Gx.eq_1; have g0 := YS
 exact gs
theorem P9 (turnc0 : Int) (turnc1 : List A0) : ∀ (n : A0) (path : List Int), Ok (BO n path turnc0 turnc1) IJ (dn AF Lw [.agg (((A0.row false) n).map .t), .t (.sl false (path.map rI)), .fn NZ [.pp [.v (.int .i64 turnc0)], .pp [.sl false (turnc1.map (A0.row false))]]]) := by
 unfold Ok
 refine BO.partial_correctness turnc0 turnc1 _ ?_
 intro F ih n path
 show Ok _ _ _
 have ih : ∀ (n : A0) (path : List Int), Ok (F n path) _ _ := ih
 rw [A9 AF (fn := Hd) rfl (xN rfl rfl _) (lB rfl)]
 have k0 := @Hd.eq_1; have g0 := Ei; have g1 := Sq; have g2 := ih
 exact gs
theorem dG : ∀ (n : A0) (path : List Int) (l : List A0), Ok (Hz n path l) VU (dn AF V4 [.agg (((A0.row false) n).map .t), .t (.sl false (path.map rI)), .t (.sl false (l.map (A0.row false)))]) := by
 intro n path l
 rw [A9 AF (fn := Ms) rfl (xN rfl rfl _) (lB rfl)]
 have k0 := @Ms.eq_1; have f0 := @Hz.eq_1; have g0 := O3; have g1 := Ei; have g2 := P9
 exact gs
theorem iC : ∀ (w : AJ) (n : A0), Ok (FS w n) Xh (dn AF R6 [.agg (((AJ.row false) w).map .t), .agg (((A0.row false) n).map .t)]) := by
 intro w n
 rw [A9 AF (fn := OE) rfl (xN rfl rfl _) (lB rfl)]
 have k0 := @OE.eq_1; have f0 := @FS.eq_1; have g0 := Vh; have g1 := O4; have g2 := Vl; have g3 := Rv; have g4 := dG; have g5 := Rw
 exact gs
theorem YT : ∀ (w : AJ), Ok (Jj w) Rd (dn AF RF [.agg (((AJ.row false) w).map .t)]) := by
 intro w
 rw [A9 AF (fn := Io) rfl (xN rfl rfl _) (lB rfl)]
 have k0 := @Io.eq_1; have f0 := @Jj.eq_1; have g0 := Ga
 exact gs
theorem Rx : ∀ (w : AJ), Ok (II w) Ti (dn AF Og [.agg (((AJ.row false) w).map .t)]) := by
 intro w
 rw [A9 AF (fn := Kq) rfl (xN rfl rfl _) (lB rfl)]
 have k0 := @Kq.eq_1; have f0 := @II.eq_1; have g0 := Jt; have g1 := Nz
 exact gs
theorem iD : ∀ (w : AJ), Ok (PW w) Xi (dn AF Xd [.agg (((AJ.row false) w).map .t)]) := by
 intro w
 rw [A9 AF (fn := OH) rfl (xN rfl rfl _) (lB rfl)]
 have k0 := @OH.eq_1; have f0 := @PW.eq_1; have g0 := Jt; have g1 := Rx
 exact gs
theorem YU (from1 : Int) (to1 : Int) (l : List A0) : ∀ (n : A0) (path : List Int), Ok (Fl n path from1 to1 l) Re (dn AF Nb [.agg (((A0.row false) n).map .t), .t (.sl false (path.map rI)), .t (.v (.int .i64 from1)), .t (.v (.int .i64 to1)), .t (.sl false (l.map (A0.row false)))]) := by
 unfold Ok
 refine Fl.partial_correctness from1 to1 l _ ?_
 intro F ih n path
 show Ok _ _ _
 have ih : ∀ (n : A0) (path : List Int), Ok (F n path) _ _ := ih
 rw [A9 AF (fn := J2) rfl (xN rfl rfl _) (lB rfl)]
 have k0 := @J2.eq_1; have g0 := Tk; have g1 := ih
 exact gs
theorem dH : ∀ (n : A0) (path : List Int) (l : List A0), Ok (I1 n path l) VV (dn AF V5 [.agg (((A0.row false) n).map .t), .t (.sl false (path.map rI)), .t (.sl false (l.map (A0.row false)))]) := by
 intro n path l
 rw [A9 AF (fn := Mt) rfl (xN rfl rfl _) (lB rfl)]
 have k0 := @Mt.eq_1; have f0 := @I1.eq_1; have g0 := Ga; have g1 := Jt; have g2 := YU
 exact gs
theorem iE : ∀ (w : AJ) (n : A0), Ok (PX w n) Xj (dn AF Xe [.agg (((AJ.row false) w).map .t), .agg (((A0.row false) n).map .t)]) := by
 intro w n
 rw [A9 AF (fn := OF) rfl (xN rfl rfl _) (lB rfl)]
 have k0 := @OF.eq_1; have f0 := @PX.eq_1; have g0 := YT; have g1 := Rx; have g2 := iD; have g3 := Rl; have g4 := dH; have g5 := Nz
 exact gs
theorem PB (s1 : List A1) (s2 : List A1) : ∀ (x2 : Int), Ok (Aq s1 s2 x2) H5 (ev AF Mc (.loop FL) [.lv 0, .th FM] (BZ (List.replicate 26 .dead) [(0, .t (.sl false (s1.map A1.row))), (1, .t (.sl false (s2.map A1.row))), (12, .t (.v (.int .i64 (A8 s1)))), (13, .t (.v (.int .i64 x2)))]) (Ba (List.replicate 26 []) [])) := by
 unfold Ok
 refine Aq.partial_correctness s1 s2 _ ?_
 intro F ih x2
 show Ok _ _ _
 have ih : ∀ (x2 : Int), Ok (F x2) _ _ := ih
 rw [AZ]
 have k0 := @FL.eq_1; have k1 := @FM.eq_1; have t0 := ih
 exact gs
theorem Ry : ∀ (s1 : List A1) (s2 : List A1), Ok (Eb s1 s2) H5 (dn AF MS [.t (.sl false (s1.map A1.row)), .t (.sl false (s2.map A1.row))]) := by
 intro s1 s2
 rw [A9 AF (fn := Ew) rfl (xN rfl rfl _) (lB rfl)]
 have k0 := @Ew.eq_1; have f0 := @Eb.eq_1; have t0 := PB
 exact gs
theorem PC (s1 : List A4) (s2 : List A4) : ∀ (x2 : Int), Ok (Ar s1 s2 x2) H6 (ev AF Me (.loop FN) [.lv 0, .th FO] (BZ (List.replicate 26 .dead) [(0, .t (.sl false (s1.map A4.row))), (1, .t (.sl false (s2.map A4.row))), (12, .t (.v (.int .i64 (A8 s1)))), (13, .t (.v (.int .i64 x2)))]) (Ba (List.replicate 26 []) [])) := by
 unfold Ok
 refine Ar.partial_correctness s1 s2 _ ?_
 intro F ih x2
 show Ok _ _ _
 have ih : ∀ (x2 : Int), Ok (F x2) _ _ := ih
 rw [AZ]
 have k0 := @FN.eq_1; have k1 := @FO.eq_1; have t0 := ih
 exact gs
theorem Rz : ∀ (s1 : List A4) (s2 : List A4), Ok (Ec s1 s2) H6 (dn AF MR [.t (.sl false (s1.map A4.row)), .t (.sl false (s2.map A4.row))]) := by
 intro s1 s2
 rw [A9 AF (fn := Ey) rfl (xN rfl rfl _) (lB rfl)]
 have k0 := @Ey.eq_1; have f0 := @Ec.eq_1; have t0 := PC
 exact gs
theorem Vm : ∀ (a : A0) (b : A0), Ok (GZ a b) Pa (dn AF PP [.agg (((A0.row false) a).map .t), .agg (((A0.row false) b).map .t)]) := by
 intro a b
 rw [A9 AF (fn := Gk) rfl (xN rfl rfl _) (lB rfl)]
 have k0 := @Gk.eq_1; have f0 := @GZ.eq_1; have g0 := Ry; have g1 := Rz
 exact gs
end TT
