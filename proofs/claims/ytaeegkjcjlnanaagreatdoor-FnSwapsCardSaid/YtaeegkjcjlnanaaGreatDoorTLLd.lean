import Derived.Test.YtaeegkjcjlnanaaGreatDoorTLLc
set_option maxHeartbeats 2000000
set_option linter.unusedVariables false
set_option linter.unusedSimpArgs false
set_option linter.defProp false
set_option maxRecDepth 100000
namespace TT
open Go
open Nat (reduceAdd reduceSub reduceMul reduceLeDiff reduceLT reduceEqDiff)
theorem Ve : ∀ (k : Int) (r : A0 × A2), Ok (DC k r) CQ (ev AF Eo Gl [] (BZ (List.replicate 260 .dead) [(0, .ptr (0, 0) [] 0 0 1 0), (2, .ptr (2, 0) [] 0 0 1 0), (3, .ptr (3, 0) [] 0 0 1 0), (4, .t (.v (.int .i64 k)))]) (Ba (List.replicate 260 []) [(0, [.mem [[.sl false (r.2.xb.map (rK .u8)), .v (.int .i64 r.2.xi), .v (.int .i64 r.2.xh)]] 0 true]), (2, [.mem [[.v (.int .i64 0), .v (.string (⟨#[]⟩)), .v (.string (⟨#[]⟩)), .v (.string (⟨#[]⟩)), .sl true [], .sl true [], .sl true [], .v (.string (⟨#[]⟩))]] 0 false]), (3, [.mem [[.v (.int .i64 r.1.Kind), .v (.string r.1.Pre), .v (.string r.1.Local), .v (.string r.1.Uri), .sl true (r.1.Decls.map A1.row), .sl true (r.1.Attrs.map A4.row), .sl true (r.1.Kids.map (A0.row true)), .v (.string r.1.Text)]] 0 false])])) := by
 intro k r
 have k0 := @Gl.eq_1; have k1 := @BQ.eq_1; have f0 := @DC.eq_1; have g0 := Ad; have g1 := Fx; have g2 := Ay; have g3 := Tn; have g4 := P5; have g5 := To; have g6 := Rm; have t0 := UK
 exact gs
theorem Vf (r : A0 × A2) : ∀ (k : Int), Ok (CV k r) CQ (ev AF Eo (.loop D1) [.lv 0, .hk [.kill [22], .clean []], .th Gl] (BZ (List.replicate 260 .dead) [(0, .ptr (0, 0) [] 0 0 1 0), (2, .ptr (2, 0) [] 0 0 1 0), (3, .ptr (3, 0) [] 0 0 1 0), (4, .t (.v (.int .i64 k)))]) (Ba (List.replicate 260 []) [(0, [.mem [[.sl false (r.2.xb.map (rK .u8)), .v (.int .i64 r.2.xi), .v (.int .i64 r.2.xh)]] 0 true]), (2, [.mem [[.v (.int .i64 0), .v (.string (⟨#[]⟩)), .v (.string (⟨#[]⟩)), .v (.string (⟨#[]⟩)), .sl true [], .sl true [], .sl true [], .v (.string (⟨#[]⟩))]] 0 false]), (3, [.mem [[.v (.int .i64 r.1.Kind), .v (.string r.1.Pre), .v (.string r.1.Local), .v (.string r.1.Uri), .sl true (r.1.Decls.map A1.row), .sl true (r.1.Attrs.map A4.row), .sl true (r.1.Kids.map (A0.row true)), .v (.string r.1.Text)]] 0 false])])) := by
 unfold Ok
 refine CV.partial_correctness r _ ?_
 intro F ih k
 show Ok _ _ _
 have ih : ∀ (k : Int), Ok (F k) _ _ := ih
 rw [AZ]
 have k0 := @D1.eq_1; have t0 := ih; have t1 := Ve
 exact gs
theorem Wv : ∀ (c : A2), Ok (Fb c) CQ (ev AF ⟨([.lp [.sl false (c.xb.map (rK .u8)), .v (.int .i64 c.xi), .v (.int .i64 c.xh)] 0] : List GA).length, MP (enter B5.nt ([.lp [.sl false (c.xb.map (rK .u8)), .v (.int .i64 c.xi), .v (.int .i64 c.xh)] 0] : List GA)).r ([.lp [.sl false (c.xb.map (rK .u8)), .v (.int .i64 c.xi), .v (.int .i64 c.xh)] 0] : List GA).length, B5.res⟩ TD [] (enter B5.nt ([.lp [.sl false (c.xb.map (rK .u8)), .v (.int .i64 c.xi), .v (.int .i64 c.xh)] 0] : List GA)).s (enter B5.nt ([.lp [.sl false (c.xb.map (rK .u8)), .v (.int .i64 c.xi), .v (.int .i64 c.xh)] 0] : List GA)).r) := by
 intro c
 have k0 := @B5.eq_1; have k1 := @TD.eq_1; have f0 := @Fb.eq_1; have g0 := O0; have t0 := Vf
 exact gs
theorem Rn (k : Int) (r : A0 × A2) : ∀ (i : Int) (c1 : A2) (nKids : List (A0)), Ok (Ck k i c1 r nKids) CQ (ev AF Eo (.loop EP) [.lv 3, .lv 2, .th BQ] (BZ (List.replicate 260 .dead) [(0, .ptr (0, 0) [] 0 0 1 0), (2, .ptr (2, 0) [] 0 0 1 0), (3, .ptr (3, 0) [] 0 0 1 0), (4, .t (.v (.int .i64 k))), (5, .t (.v (.int .i64 i)))]) (Ba (List.replicate 260 []) [(0, [.mem [[.sl false (c1.xb.map (rK .u8)), .v (.int .i64 c1.xi), .v (.int .i64 c1.xh)]] 0 true]), (2, [.mem [[.v (.int .i64 0), .v (.string (⟨#[]⟩)), .v (.string (⟨#[]⟩)), .v (.string (⟨#[]⟩)), .sl true [], .sl true [], .sl true [], .v (.string (⟨#[]⟩))]] 0 false]), (3, [.mem [[.v (.int .i64 r.1.Kind), .v (.string r.1.Pre), .v (.string r.1.Local), .v (.string r.1.Uri), .sl true (r.1.Decls.map A1.row), .sl true (r.1.Attrs.map A4.row), .sl true (nKids.map (A0.row false)), .v (.string r.1.Text)]] 0 false])])) := by
 unfold Ok
 refine Ck.partial_correctness k r _ ?_
 intro F ih i c1 nKids
 show Ok _ _ _
 have ih : ∀ (i : Int) (c1 : A2) (nKids : List (A0)), Ok (F i c1 nKids) _ _ := ih
 rw [AZ]
 have k0 := @EP.eq_1; have k1 := @BQ.eq_1; have g0 := Fx; have t0 := ih
 exact gs
theorem Sk : ∀ (k : Int) (r : A0 × A2), Ok (DC k r) CQ (ev AF Eo Fi [] (BZ (List.replicate 260 .dead) [(0, .ptr (0, 0) [] 0 0 1 0), (2, .ptr (2, 0) [] 0 0 1 0), (3, .ptr (3, 0) [] 0 0 1 0), (4, .t (.v (.int .i64 k)))]) (Ba (List.replicate 260 []) [(0, [.mem [[.sl false (r.2.xb.map (rK .u8)), .v (.int .i64 r.2.xi), .v (.int .i64 r.2.xh)]] 0 true]), (2, [.mem [[.v (.int .i64 0), .v (.string (⟨#[]⟩)), .v (.string (⟨#[]⟩)), .v (.string (⟨#[]⟩)), .sl true [], .sl true [], .sl true [], .v (.string (⟨#[]⟩))]] 0 false]), (3, [.mem [[.v (.int .i64 r.1.Kind), .v (.string r.1.Pre), .v (.string r.1.Local), .v (.string r.1.Uri), .sl true (r.1.Decls.map A1.row), .sl true (r.1.Attrs.map A4.row), .sl true (r.1.Kids.map (A0.row true)), .v (.string r.1.Text)]] 0 false])])) := by
 intro k r
 have k0 := @Fi.eq_1; have k1 := @BQ.eq_1; have f0 := @DC.eq_1; have g0 := Ad; have g1 := Fx; have g2 := Ay; have g3 := Tn; have g4 := P5; have g5 := To; have g6 := Rm; have t0 := Rn
 exact gs
theorem Sl (r : A0 × A2) : ∀ (k : Int), Ok (CV k r) CQ (ev AF Eo (.loop D1) [.lv 0, .hk [.kill [22], .clean []], .th Fi] (BZ (List.replicate 260 .dead) [(0, .ptr (0, 0) [] 0 0 1 0), (2, .ptr (2, 0) [] 0 0 1 0), (3, .ptr (3, 0) [] 0 0 1 0), (4, .t (.v (.int .i64 k)))]) (Ba (List.replicate 260 []) [(0, [.mem [[.sl false (r.2.xb.map (rK .u8)), .v (.int .i64 r.2.xi), .v (.int .i64 r.2.xh)]] 0 true]), (2, [.mem [[.v (.int .i64 0), .v (.string (⟨#[]⟩)), .v (.string (⟨#[]⟩)), .v (.string (⟨#[]⟩)), .sl true [], .sl true [], .sl true [], .v (.string (⟨#[]⟩))]] 0 false]), (3, [.mem [[.v (.int .i64 r.1.Kind), .v (.string r.1.Pre), .v (.string r.1.Local), .v (.string r.1.Uri), .sl true (r.1.Decls.map A1.row), .sl true (r.1.Attrs.map A4.row), .sl true (r.1.Kids.map (A0.row true)), .v (.string r.1.Text)]] 0 false])])) := by
 unfold Ok
 refine CV.partial_correctness r _ ?_
 intro F ih k
 show Ok _ _ _
 have ih : ∀ (k : Int), Ok (F k) _ _ := ih
 rw [AZ]
 have k0 := @D1.eq_1; have t0 := ih; have t1 := Sk
 exact gs
theorem Ww : ∀ (c : A2), Ok (Fb c) CQ (ev AF ⟨([.lp [.sl false (c.xb.map (rK .u8)), .v (.int .i64 c.xi), .v (.int .i64 c.xh)] 0] : List GA).length, MP (enter B5.nt ([.lp [.sl false (c.xb.map (rK .u8)), .v (.int .i64 c.xi), .v (.int .i64 c.xh)] 0] : List GA)).r ([.lp [.sl false (c.xb.map (rK .u8)), .v (.int .i64 c.xi), .v (.int .i64 c.xh)] 0] : List GA).length, B5.res⟩ QS [] (enter B5.nt ([.lp [.sl false (c.xb.map (rK .u8)), .v (.int .i64 c.xi), .v (.int .i64 c.xh)] 0] : List GA)).s (enter B5.nt ([.lp [.sl false (c.xb.map (rK .u8)), .v (.int .i64 c.xi), .v (.int .i64 c.xh)] 0] : List GA)).r) := by
 intro c
 have k0 := @B5.eq_1; have k1 := @QS.eq_1; have f0 := @Fb.eq_1; have g0 := O0; have t0 := Sl
 exact gs
theorem aB : ∀ (c : A2), Ok (Fb c) CQ (dn AF TC [.lp [.sl false (c.xb.map (rK .u8)), .v (.int .i64 c.xi), .v (.int .i64 c.xh)] 0]) := by
 intro c r hr
 exact ul AF (fn := B5) (k := RG) rfl (xN rfl rfl _) (lB rfl) rfl (Wv c r hr) (Ww c r hr)
theorem UL : ∀ (p : List (Int)) (c2 : A2), Ok (EK p c2) Jl (ev AF No G4 [] (BZ (List.replicate 42 .dead) [(0, .ptr (0, 0) [] 0 0 1 0), (5, .ref (8, 0) p.length)]) (Ba (List.replicate 42 []) [(0, [.mem [[.sl false (c2.xb.map (rK .u8)), .v (.int .i64 c2.xi), .v (.int .i64 c2.xh)]] 0 true]), (8, [.mem (p.map rI) 0 false])])) := by
 intro p c2
 have k0 := @G4.eq_1; have f0 := @EK.eq_1; have g0 := Bf; have g1 := Fx
 exact gs
theorem UM : ∀ (p : List (Int)) (c1 : A2) (x1 : A0), Ok (EL p c1 x1) Jl (ev AF No (.loop Is) [.lv 0, .hk [.kill [6, 18], .clean [6]], .th G4] (BZ (List.replicate 42 .dead) [(0, .ptr (0, 0) [] 0 0 1 0), (5, .ref (8, 0) p.length), (6, .ptr (6, 0) [] 0 0 1 0)]) (Ba (List.replicate 42 []) [(0, [.mem [[.sl false (c1.xb.map (rK .u8)), .v (.int .i64 c1.xi), .v (.int .i64 c1.xh)]] 0 true]), (6, [.mem [[.v (.int .i64 x1.Kind), .v (.string x1.Pre), .v (.string x1.Local), .v (.string x1.Uri), .sl false (x1.Decls.map A1.row), .sl false (x1.Attrs.map A4.row), .sl false (x1.Kids.map (A0.row false)), .v (.string x1.Text)]] 0 false]), (8, [.mem (p.map rI) 0 false])])) := by
 unfold Ok
 refine EL.partial_correctness _ ?_
 intro F ih p c1 x1
 show Ok _ _ _
 have ih : ∀ (p : List (Int)) (c1 : A2) (x1 : A0), Ok (F p c1 x1) _ _ := ih
 rw [AZ]
 have k0 := @Is.eq_1; have g0 := Bf; have g1 := Ad; have t0 := UL; have t1 := ih
 exact gs
theorem YK : ∀ (c : A2) (n : A0), Ok (Gu c n) Jl (dn AF RC [.lp [.sl false (c.xb.map (rK .u8)), .v (.int .i64 c.xi), .v (.int .i64 c.xh)] 0, .agg (((A0.row false) n).map .t)]) := by
 intro c n
 rw [A9 AF (fn := It) rfl (xN rfl rfl _) (lB rfl)]
 have k0 := @It.eq_1; have f0 := @Gu.eq_1; have t0 := UM
 exact gs
theorem aC : ∀ (c : A2), Ok (Ll c) TQ (dn AF TA [.lp [.sl false (c.xb.map (rK .u8)), .v (.int .i64 c.xi), .v (.int .i64 c.xh)] 0]) := by
 intro c
 rw [A9 AF (fn := Km) rfl (xN rfl rfl _) (lB rfl)]
 have k0 := @Km.eq_1; have f0 := @Ll.eq_1; have g0 := O0; have g1 := Bf; have g2 := aB; have g3 := YK
 exact gs
theorem Vg (path : List Int) : ∀ (i : Int) (x2 : A0), Ok (E3 path i x2) Ow (ev AF TR (.loop K5) [.lv 0, .th K6] (BZ (List.replicate 36 .dead) [(1, .t (.sl false (path.map rI))), (4, .ptr (4, 0) [] 0 0 1 0), (6, .ptr (6, 0) [] 0 0 1 0), (7, .t (.v (.int .i64 i)))]) (Ba (List.replicate 36 []) [(4, [.mem [[.v (.int .i64 0), .v (.string (⟨#[]⟩)), .v (.string (⟨#[]⟩)), .v (.string (⟨#[]⟩)), .sl true [], .sl true [], .sl true [], .v (.string (⟨#[]⟩))]] 0 false]), (6, [.mem [[.v (.int .i64 x2.Kind), .v (.string x2.Pre), .v (.string x2.Local), .v (.string x2.Uri), .sl false (x2.Decls.map A1.row), .sl false (x2.Attrs.map A4.row), .sl false (x2.Kids.map (A0.row false)), .v (.string x2.Text)]] 0 false])])) := by
 unfold Ok
 refine E3.partial_correctness path _ ?_
 intro F ih i x2
 show Ok _ _ _
 have ih : ∀ (i : Int) (x2 : A0), Ok (F i x2) _ _ := ih
 rw [AZ]
 have k0 := @K5.eq_1; have k1 := @K6.eq_1; have g0 := Js; have g1 := Ga; have t0 := ih
 exact gs
theorem Jt : ∀ (n : A0) (path : List Int), Ok (EU n path) Ow (dn AF HC [.agg (((A0.row false) n).map .t), .t (.sl false (path.map rI))]) := by
 intro n path
 rw [A9 AF (fn := Kn) rfl (xN rfl rfl _) (lB rfl)]
 have k0 := @Kn.eq_1; have f0 := @EU.eq_1; have t0 := Vg
 exact gs
theorem UN : ∀ (l : List (A0)) (i : Int) (c1 : A2), Ok (Cl l i c1) Np (ev AF RQ (.loop Ik) [.lv 0, .th Il] (BZ (List.replicate 31 .dead) [(0, .ptr (0, 0) [] 0 0 1 0), (3, .ref (7, 0) l.length), (4, .t (.v (.int .i64 i)))]) (Ba (List.replicate 31 []) [(0, [.mem [[.sl false (c1.xb.map (rK .u8)), .v (.int .i64 c1.xi), .v (.int .i64 c1.xh)]] 0 true]), (7, [.mem (l.map (A0.row true)) 0 false])])) := by
 unfold Ok
 refine Cl.partial_correctness _ ?_
 intro F ih l i c1
 show Ok _ _ _
 have ih : ∀ (l : List (A0)) (i : Int) (c1 : A2), Ok (F l i c1) _ _ := ih
 rw [AZ]
 have k0 := @Ik.eq_1; have k1 := @Il.eq_1; have g0 := Bf; have g1 := Ay; have g2 := VY; have t0 := ih
 exact gs
theorem YL : ∀ (c : A2), Ok (Jg c) Np (dn AF RD [.lp [.sl false (c.xb.map (rK .u8)), .v (.int .i64 c.xi), .v (.int .i64 c.xh)] 0]) := by
 intro c
 rw [A9 AF (fn := Im) rfl (xN rfl rfl _) (lB rfl)]
 have k0 := @Im.eq_1; have f0 := @Jg.eq_1; have g0 := Ad; have t0 := UN
 exact gs
theorem Wx : ∀ (code : List Int), Ok (HK code) QV (dn AF QQ [.t (.sl false (code.map (rK .u8)))]) := by
 intro code
 rw [A9 AF (fn := HU) rfl (xN rfl rfl _) (lB rfl)]
 have k0 := @HU.eq_1; have f0 := @HK.eq_1; have g0 := d8; have g1 := aC; have g2 := Jt; have g3 := Ad; have g4 := Ay; have g5 := YL
 exact gs
theorem Ro : ∀ (s : List (A1)), Ok (EV s) MV (dn AF Ev [.t (.sl false (s.map A1.row))]) := by
 intro s
 cases s with
 | nil =>
  intro r hr
  unfold EV at hr
  obtain ⟨_, _, h⟩ := Option.bind_eq_some_iff.1 hr
  cases h
  exact Mk AF.ft (Sw AF) (fT rfl)
 | cons x s =>
  simp only [List.map_cons]
  rw [A9 AF (fn := CZ) rfl (ZX rfl _ _) (Nat.le_of_ble_eq_true rfl)]
  simp only [Ol, RS, MW, CZ, EV, reduceAdd, reduceSub, reduceMul, reduceLeDiff, reduceLT, reduceEqDiff, Nat.reduceBEq, ↓reduceIte, reduceCtorEq]
  refine EB fun a h => ?_
  simp only [Ol, RS, *, reduceAdd, reduceSub, reduceMul, reduceLeDiff, reduceLT, reduceEqDiff, Nat.reduceBEq, ↓reduceIte, reduceCtorEq]
  exact fU rfl
theorem Rp : ∀ (s : List (A4)), Ok (EW s) MX (dn AF Eu [.t (.sl false (s.map A4.row))]) := by
 intro s
 cases s with
 | nil =>
  intro r hr
  unfold EW at hr
  obtain ⟨_, _, h⟩ := Option.bind_eq_some_iff.1 hr
  cases h
  exact Mk AF.ft (Sw AF) (fT rfl)
 | cons x s =>
  simp only [List.map_cons]
  rw [A9 AF (fn := Ca) rfl (ZX rfl _ _) (Nat.le_of_ble_eq_true rfl)]
  simp only [Ol, RS, MY, Ca, EW, reduceAdd, reduceSub, reduceMul, reduceLeDiff, reduceLT, reduceEqDiff, Nat.reduceBEq, ↓reduceIte, reduceCtorEq]
  refine EB fun a h => ?_
  simp only [Ol, RS, *, reduceAdd, reduceSub, reduceMul, reduceLeDiff, reduceLT, reduceEqDiff, Nat.reduceBEq, ↓reduceIte, reduceCtorEq]
  exact fU rfl
theorem Pc : (∀ (n : A0), Ok (B7 n) KX (dn AF CE [.agg (((A0.row false) n).map .t)])) ∧
  (∀ (l : List A0), Ok (Hk l) G8 (dn AF Ie [.t (.sl false (l.map (A0.row false)))])) ∧
  (∀ (out : List (A0)) (l : List A0) (x1 : Int), Ok (E4 out l x1) G8 (ev AF OO (.loop GL) [.lv 0, .th GM] (BZ (List.replicate 19 .dead) [(3, .ref (16, 0) out.length), (6, .t (.sl false (l.map (A0.row false)))), (7, .t (.v (.int .i64 (A8 l)))), (8, .t (.v (.int .i64 x1)))]) (Ba (List.replicate 19 []) [(16, [.mem (out.map (A0.row true)) 0 false])]))) := by
 unfold Ok
 refine B7.mutual_partial_correctness _ _ _ ?_ ?_ ?_
 ·intro F1 ih1 n
  show Ok _ _ _
  have ih1 : ∀ (l : List A0), Ok (F1 l) _ _ := ih1
  rw [A9 AF (fn := Gm) rfl (xN rfl rfl _) (lB rfl)]
  have k0 := @Gm.eq_1; have g0 := Ro; have g1 := Rp; have g2 := ih1
  exact gs
 ·intro F2 ih2 l
  show Ok _ _ _
  have ih2 : ∀ (out : List (A0)) (l : List A0) (x1 : Int), Ok (F2 out l x1) _ _ := ih2
  rw [A9 AF (fn := G6) rfl (xN rfl rfl _) (lB rfl)]
  have k0 := @G6.eq_1; have t0 := ih2
  exact gs
 ·intro F0 F2 ih0 ih2 out l x1
  show Ok _ _ _
  have ih0 : ∀ (n : A0), Ok (F0 n) _ _ := ih0
  have ih2 : ∀ (out : List (A0)) (l : List A0) (x1 : Int), Ok (F2 out l x1) _ _ := ih2
  rw [AZ]
  have k0 := @GL.eq_1; have k1 := @GM.eq_1; have g0 := ih0; have t0 := ih2
  exact gs
theorem Ei (n : A0) : Ok (B7 n) KX (dn AF CE [.agg (((A0.row false) n).map .t)]) := Pc.1 n
theorem mj (l : List A0) : Ok (Hk l) G8 (dn AF Ie [.t (.sl false (l.map (A0.row false)))]) := Pc.2.1 l
theorem Sm : ∀ (s : List (Int)), Ok (Dp s) Nq (dn AF Fh [.t (.sl false (s.map rI))]) := by
 intro s
 cases s with
 | nil =>
  intro r hr
  unfold Dp at hr
  obtain ⟨_, _, h⟩ := Option.bind_eq_some_iff.1 hr
  cases h
  exact Mk AF.ft (Sw AF) (fT rfl)
 | cons x s =>
  simp only [List.map_cons]
  rw [A9 AF (fn := D2) rfl (ZX rfl _ _) (Nat.le_of_ble_eq_true rfl)]
  simp only [Ol, RS, Nr, D2, Dp, reduceAdd, reduceSub, reduceMul, reduceLeDiff, reduceLT, reduceEqDiff, Nat.reduceBEq, ↓reduceIte, reduceCtorEq]
  refine EB fun a h => ?_
  simp only [Ol, RS, *, reduceAdd, reduceSub, reduceMul, reduceLeDiff, reduceLT, reduceEqDiff, Nat.reduceBEq, ↓reduceIte, reduceCtorEq]
  exact fU rfl
theorem Vh : ∀ (w : AJ), Ok (E5 w) PY (dn AF PN [.agg (((AJ.row false) w).map .t)]) := by
 intro w
 rw [A9 AF (fn := Gj) rfl (xN rfl rfl _) (lB rfl)]
 have k0 := @Gj.eq_1; have f0 := @E5.eq_1; have g0 := Ei; have g1 := Sm
 exact gs
theorem QG : ∀ (n : Int) (lo : Int) (hi : Int), Ok (Hl n lo hi) eU (dn AF PO [.t (.v (.int .i64 n)), .t (.v (.int .i64 lo)), .t (.v (.int .i64 hi))]) := by
 intro n lo hi
 rw [A9 AF (fn := SV) rfl (xN rfl rfl _) (lB rfl)]
 have k0 := @SV.eq_1; have f0 := @Hl.eq_1
 exact gs
end TT
