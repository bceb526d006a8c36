import Derived.Test.YtaeegkjcjlnanaaGreatDoorTLLc
set_option maxHeartbeats 2000000
set_option linter.unusedVariables false
set_option linter.unusedSimpArgs false
set_option linter.defProp false
set_option maxRecDepth 100000
namespace TT
open Go
open Nat (reduceAdd reduceSub reduceMul reduceLeDiff reduceLT reduceEqDiff)
theorem VJ : ∀ (k : Int) (r : A0 × A2), Ok (D5 k r) CJ (ev AG Eb GW [] (Ba (List.replicate 260 .dead) [(0, .ptr (0, 0) [] 0 0 1 0), (2, .ptr (2, 0) [] 0 0 1 0), (3, .ptr (3, 0) [] 0 0 1 0), (4, .t (.v (.int .i64 k)))]) (Bb (List.replicate 260 []) [(0, [.mem [[.sl false (r.2.xb.map (rK .u8)), .v (.int .i64 r.2.xi), .v (.int .i64 r.2.xh)]] 0 true]), (2, [.mem [[.v (.int .i64 0), .v (.string (⟨#[]⟩)), .v (.string (⟨#[]⟩)), .v (.string (⟨#[]⟩)), .sl true [], .sl true [], .sl true [], .v (.string (⟨#[]⟩))]] 0 false]), (3, [.mem [[.v (.int .i64 r.1.Kind), .v (.string r.1.Pre), .v (.string r.1.Local), .v (.string r.1.Uri), .sl true (r.1.Decls.map A1.row), .sl true (r.1.Attrs.map A3.row), .sl true (r.1.Kids.map (A0.row true)), .v (.string r.1.Text)]] 0 false])])) := by
 intro k r
 have k0 := @GW.eq_1; have k1 := @BO.eq_1; have f0 := @D5.eq_1; have g0 := Ar; have g1 := Ec; have g2 := BM; have g3 := TN; have g4 := Od; have g5 := TO; have g6 := RA; have t0 := Tt
 exact gs
theorem VK (r : A0 × A2) : ∀ (k : Int), Ok (CO k r) CJ (ev AG Eb (.loop Ct) [.lv 0, .hk [.kill [22], .clean []], .th GW] (Ba (List.replicate 260 .dead) [(0, .ptr (0, 0) [] 0 0 1 0), (2, .ptr (2, 0) [] 0 0 1 0), (3, .ptr (3, 0) [] 0 0 1 0), (4, .t (.v (.int .i64 k)))]) (Bb (List.replicate 260 []) [(0, [.mem [[.sl false (r.2.xb.map (rK .u8)), .v (.int .i64 r.2.xi), .v (.int .i64 r.2.xh)]] 0 true]), (2, [.mem [[.v (.int .i64 0), .v (.string (⟨#[]⟩)), .v (.string (⟨#[]⟩)), .v (.string (⟨#[]⟩)), .sl true [], .sl true [], .sl true [], .v (.string (⟨#[]⟩))]] 0 false]), (3, [.mem [[.v (.int .i64 r.1.Kind), .v (.string r.1.Pre), .v (.string r.1.Local), .v (.string r.1.Uri), .sl true (r.1.Decls.map A1.row), .sl true (r.1.Attrs.map A3.row), .sl true (r.1.Kids.map (A0.row true)), .v (.string r.1.Text)]] 0 false])])) := by
 unfold Ok
 refine CO.partial_correctness r _ ?_
 intro F ih k
 show Ok _ _ _
 have ih : ∀ (k : Int), Ok (F k) _ _ := ih
 rw [AX]
 have k0 := @Ct.eq_1; have t0 := ih; have t1 := VJ
 exact gs
theorem Wb : ∀ (c : A2), Ok (FR c) CJ (ev AG ⟨([.lp [.sl false (c.xb.map (rK .u8)), .v (.int .i64 c.xi), .v (.int .i64 c.xh)] 0] : List Fy).length, M5 (enter Ax.nt ([.lp [.sl false (c.xb.map (rK .u8)), .v (.int .i64 c.xi), .v (.int .i64 c.xh)] 0] : List Fy)).r ([.lp [.sl false (c.xb.map (rK .u8)), .v (.int .i64 c.xi), .v (.int .i64 c.xh)] 0] : List Fy).length, Ax.res⟩ Si [] (enter Ax.nt ([.lp [.sl false (c.xb.map (rK .u8)), .v (.int .i64 c.xi), .v (.int .i64 c.xh)] 0] : List Fy)).s (enter Ax.nt ([.lp [.sl false (c.xb.map (rK .u8)), .v (.int .i64 c.xi), .v (.int .i64 c.xh)] 0] : List Fy)).r) := by
 intro c
 have k0 := @Ax.eq_1; have k1 := @Si.eq_1; have f0 := @FR.eq_1; have g0 := Nk; have t0 := VK
 exact gs
theorem RB (k : Int) (r : A0 × A2) : ∀ (i : Int) (c1 : A2) (nKids : List (A0)), Ok (Cg k i c1 r nKids) CJ (ev AG Eb (.loop EB) [.lv 3, .lv 2, .th BO] (Ba (List.replicate 260 .dead) [(0, .ptr (0, 0) [] 0 0 1 0), (2, .ptr (2, 0) [] 0 0 1 0), (3, .ptr (3, 0) [] 0 0 1 0), (4, .t (.v (.int .i64 k))), (5, .t (.v (.int .i64 i)))]) (Bb (List.replicate 260 []) [(0, [.mem [[.sl false (c1.xb.map (rK .u8)), .v (.int .i64 c1.xi), .v (.int .i64 c1.xh)]] 0 true]), (2, [.mem [[.v (.int .i64 0), .v (.string (⟨#[]⟩)), .v (.string (⟨#[]⟩)), .v (.string (⟨#[]⟩)), .sl true [], .sl true [], .sl true [], .v (.string (⟨#[]⟩))]] 0 false]), (3, [.mem [[.v (.int .i64 r.1.Kind), .v (.string r.1.Pre), .v (.string r.1.Local), .v (.string r.1.Uri), .sl true (r.1.Decls.map A1.row), .sl true (r.1.Attrs.map A3.row), .sl true (nKids.map (A0.row false)), .v (.string r.1.Text)]] 0 false])])) := by
 unfold Ok
 refine Cg.partial_correctness k r _ ?_
 intro F ih i c1 nKids
 show Ok _ _ _
 have ih : ∀ (i : Int) (c1 : A2) (nKids : List (A0)), Ok (F i c1 nKids) _ _ := ih
 rw [AX]
 have k0 := @EB.eq_1; have k1 := @BO.eq_1; have g0 := Ec; have t0 := ih
 exact gs
theorem SC : ∀ (k : Int) (r : A0 × A2), Ok (D5 k r) CJ (ev AG Eb Fa [] (Ba (List.replicate 260 .dead) [(0, .ptr (0, 0) [] 0 0 1 0), (2, .ptr (2, 0) [] 0 0 1 0), (3, .ptr (3, 0) [] 0 0 1 0), (4, .t (.v (.int .i64 k)))]) (Bb (List.replicate 260 []) [(0, [.mem [[.sl false (r.2.xb.map (rK .u8)), .v (.int .i64 r.2.xi), .v (.int .i64 r.2.xh)]] 0 true]), (2, [.mem [[.v (.int .i64 0), .v (.string (⟨#[]⟩)), .v (.string (⟨#[]⟩)), .v (.string (⟨#[]⟩)), .sl true [], .sl true [], .sl true [], .v (.string (⟨#[]⟩))]] 0 false]), (3, [.mem [[.v (.int .i64 r.1.Kind), .v (.string r.1.Pre), .v (.string r.1.Local), .v (.string r.1.Uri), .sl true (r.1.Decls.map A1.row), .sl true (r.1.Attrs.map A3.row), .sl true (r.1.Kids.map (A0.row true)), .v (.string r.1.Text)]] 0 false])])) := by
 intro k r
 have k0 := @Fa.eq_1; have k1 := @BO.eq_1; have f0 := @D5.eq_1; have g0 := Ar; have g1 := Ec; have g2 := BM; have g3 := TN; have g4 := Od; have g5 := TO; have g6 := RA; have t0 := RB
 exact gs
theorem SD (r : A0 × A2) : ∀ (k : Int), Ok (CO k r) CJ (ev AG Eb (.loop Ct) [.lv 0, .hk [.kill [22], .clean []], .th Fa] (Ba (List.replicate 260 .dead) [(0, .ptr (0, 0) [] 0 0 1 0), (2, .ptr (2, 0) [] 0 0 1 0), (3, .ptr (3, 0) [] 0 0 1 0), (4, .t (.v (.int .i64 k)))]) (Bb (List.replicate 260 []) [(0, [.mem [[.sl false (r.2.xb.map (rK .u8)), .v (.int .i64 r.2.xi), .v (.int .i64 r.2.xh)]] 0 true]), (2, [.mem [[.v (.int .i64 0), .v (.string (⟨#[]⟩)), .v (.string (⟨#[]⟩)), .v (.string (⟨#[]⟩)), .sl true [], .sl true [], .sl true [], .v (.string (⟨#[]⟩))]] 0 false]), (3, [.mem [[.v (.int .i64 r.1.Kind), .v (.string r.1.Pre), .v (.string r.1.Local), .v (.string r.1.Uri), .sl true (r.1.Decls.map A1.row), .sl true (r.1.Attrs.map A3.row), .sl true (r.1.Kids.map (A0.row true)), .v (.string r.1.Text)]] 0 false])])) := by
 unfold Ok
 refine CO.partial_correctness r _ ?_
 intro F ih k
 show Ok _ _ _
 have ih : ∀ (k : Int), Ok (F k) _ _ := ih
 rw [AX]
 have k0 := @Ct.eq_1; have t0 := ih; have t1 := SC
 exact gs
theorem Wc : ∀ (c : A2), Ok (FR c) CJ (ev AG ⟨([.lp [.sl false (c.xb.map (rK .u8)), .v (.int .i64 c.xi), .v (.int .i64 c.xh)] 0] : List Fy).length, M5 (enter Ax.nt ([.lp [.sl false (c.xb.map (rK .u8)), .v (.int .i64 c.xi), .v (.int .i64 c.xh)] 0] : List Fy)).r ([.lp [.sl false (c.xb.map (rK .u8)), .v (.int .i64 c.xi), .v (.int .i64 c.xh)] 0] : List Fy).length, Ax.res⟩ Pz [] (enter Ax.nt ([.lp [.sl false (c.xb.map (rK .u8)), .v (.int .i64 c.xi), .v (.int .i64 c.xh)] 0] : List Fy)).s (enter Ax.nt ([.lp [.sl false (c.xb.map (rK .u8)), .v (.int .i64 c.xi), .v (.int .i64 c.xh)] 0] : List Fy)).r) := by
 intro c
 have k0 := @Ax.eq_1; have k1 := @Pz.eq_1; have f0 := @FR.eq_1; have g0 := Nk; have t0 := SD
 exact gs
theorem ZQ : ∀ (c : A2), Ok (FR c) CJ (dn AG Sh [.lp [.sl false (c.xb.map (rK .u8)), .v (.int .i64 c.xi), .v (.int .i64 c.xh)] 0]) := by
 intro c r hr
 exact uT AG (fn := Ax) (k := Qk) rfl (xN rfl rfl _) (lB rfl) rfl (Wb c r hr) (Wc c r hr)
theorem Tu : ∀ (p : List (Int)) (c2 : A2), Ok (E5 p c2) JU (ev AG NZ Fq [] (Ba (List.replicate 42 .dead) [(0, .ptr (0, 0) [] 0 0 1 0), (5, .ref (8, 0) p.length)]) (Bb (List.replicate 42 []) [(0, [.mem [[.sl false (c2.xb.map (rK .u8)), .v (.int .i64 c2.xi), .v (.int .i64 c2.xh)]] 0 true]), (8, [.mem (p.map rI) 0 false])])) := by
 intro p c2
 have k0 := @Fq.eq_1; have f0 := @E5.eq_1; have g0 := C2; have g1 := Ec
 exact gs
theorem Tv : ∀ (p : List (Int)) (c1 : A2) (x1 : A0), Ok (E6 p c1 x1) JU (ev AG NZ (.loop Ia) [.lv 0, .hk [.kill [6, 18], .clean [6]], .th Fq] (Ba (List.replicate 42 .dead) [(0, .ptr (0, 0) [] 0 0 1 0), (5, .ref (8, 0) p.length), (6, .ptr (6, 0) [] 0 0 1 0)]) (Bb (List.replicate 42 []) [(0, [.mem [[.sl false (c1.xb.map (rK .u8)), .v (.int .i64 c1.xi), .v (.int .i64 c1.xh)]] 0 true]), (6, [.mem [[.v (.int .i64 x1.Kind), .v (.string x1.Pre), .v (.string x1.Local), .v (.string x1.Uri), .sl false (x1.Decls.map A1.row), .sl false (x1.Attrs.map A3.row), .sl false (x1.Kids.map (A0.row false)), .v (.string x1.Text)]] 0 false]), (8, [.mem (p.map rI) 0 false])])) := by
 unfold Ok
 refine E6.partial_correctness _ ?_
 intro F ih p c1 x1
 show Ok _ _ _
 have ih : ∀ (p : List (Int)) (c1 : A2) (x1 : A0), Ok (F p c1 x1) _ _ := ih
 rw [AX]
 have k0 := @Ia.eq_1; have g0 := C2; have g1 := Ar; have t0 := Tu; have t1 := ih
 exact gs
theorem Xo : ∀ (c : A2) (n : A0), Ok (Gf c n) JU (dn AG Qh [.lp [.sl false (c.xb.map (rK .u8)), .v (.int .i64 c.xi), .v (.int .i64 c.xh)] 0, .agg (((A0.row false) n).map .t)]) := by
 intro c n
 rw [A9 AG (fn := Ib) rfl (xN rfl rfl _) (lB rfl)]
 have k0 := @Ib.eq_1; have f0 := @Gf.eq_1; have t0 := Tv
 exact gs
theorem ZR : ∀ (c : A2), Ok (LO c) Sz (dn AG Se [.lp [.sl false (c.xb.map (rK .u8)), .v (.int .i64 c.xi), .v (.int .i64 c.xh)] 0]) := by
 intro c
 rw [A9 AG (fn := KS) rfl (xN rfl rfl _) (lB rfl)]
 have k0 := @KS.eq_1; have f0 := @LO.eq_1; have g0 := Nk; have g1 := C2; have g2 := ZQ; have g3 := Xo
 exact gs
theorem Wd : ∀ (code : List Int), Ok (H8 code) Q2 (dn AG Px [.t (.sl false (code.map (rK .u8)))]) := by
 intro code
 rw [A9 AG (fn := HH) rfl (xN rfl rfl _) (lB rfl)]
 have k0 := @HH.eq_1; have f0 := @H8.eq_1; have g0 := cC; have g1 := ZR; have g2 := Ec
 exact gs
theorem RC : ∀ (s : List (List (Int))), Ok (CP s) MC (dn AG Gm [.t (.sl false (s.map (rL false rI)))]) := by
 intro s r hr
 unfold CP at hr
 split at hr
 ·rename_i l m
  split at hr
  ·rename_i h
   cases hr
   refine MT AG.ft (SL AG) ?_
   have hl : ∀ k : List (Int), ∀ row ∈ k.map rI, row.length = 1 := fun k row hrow => by obtain ⟨x, _, rfl⟩ := List.mem_map.1 hrow; first | rfl | (cases x <;> rfl)
   show QY 1 8 [.t (.sl false [[.sl false (l.map rI)], [.sl false (m.map rI)]])] = some ⟨[.t (.sl true ((l ++ m).map rI))], []⟩
   rw [QY, if_pos ⟨⟨hl l, hl m⟩, by simpa using h⟩, List.map_append]
  ·cases hr
 ·cases hr
theorem RD : ∀ (path : List Int) (i : Int), Ok (FS path i) T0 (dn AG OH [.t (.sl false (path.map rI)), .t (.v (.int .i64 i))]) := by
 intro path i
 rw [A9 AG (fn := KT) rfl (xN rfl rfl _) (lB rfl)]
 have k0 := @KT.eq_1; have f0 := @FS.eq_1; have g0 := RC
 exact gs
theorem RE : ∀ (s : List (A1)), Ok (EF s) MD (dn AG Ek [.t (.sl false (s.map A1.row))]) := by
 intro s
 cases s with
 | nil =>
  intro r hr
  unfold EF at hr
  obtain ⟨_, _, h⟩ := Option.bind_eq_some_iff.1 hr
  cases h
  exact MT AG.ft (SL AG) (eq rfl)
 | cons x s =>
  simp only [List.map_cons]
  rw [A9 AG (fn := CU) rfl (Yt rfl _ _) (Nat.le_of_ble_eq_true rfl)]
  simp only [MB, RS, ME, CU, EF, reduceAdd, reduceSub, reduceMul, reduceLeDiff, reduceLT, reduceEqDiff, Nat.reduceBEq, ↓reduceIte, reduceCtorEq]
  refine Dx fun a h => ?_
  simp only [MB, RS, *, reduceAdd, reduceSub, reduceMul, reduceLeDiff, reduceLT, reduceEqDiff, Nat.reduceBEq, ↓reduceIte, reduceCtorEq]
  exact et rfl
theorem RF : ∀ (s : List (A3)), Ok (EG s) MF (dn AG Ej [.t (.sl false (s.map A3.row))]) := by
 intro s
 cases s with
 | nil =>
  intro r hr
  unfold EG at hr
  obtain ⟨_, _, h⟩ := Option.bind_eq_some_iff.1 hr
  cases h
  exact MT AG.ft (SL AG) (eq rfl)
 | cons x s =>
  simp only [List.map_cons]
  rw [A9 AG (fn := CV) rfl (Yt rfl _ _) (Nat.le_of_ble_eq_true rfl)]
  simp only [MB, RS, MG, CV, EG, reduceAdd, reduceSub, reduceMul, reduceLeDiff, reduceLT, reduceEqDiff, Nat.reduceBEq, ↓reduceIte, reduceCtorEq]
  refine Dx fun a h => ?_
  simp only [MB, RS, *, reduceAdd, reduceSub, reduceMul, reduceLeDiff, reduceLT, reduceEqDiff, Nat.reduceBEq, ↓reduceIte, reduceCtorEq]
  exact et rfl
theorem PF : (∀ (n : A0), Ok (CQ n) KG (dn AG Ez [.agg (((A0.row false) n).map .t)])) ∧
  (∀ (l : List A0), Ok (HX l) Fx (dn AG IR [.t (.sl false (l.map (A0.row false)))])) ∧
  (∀ (out : List (A0)) (l : List A0) (x1 : Int), Ok (Dt out l x1) Fx (ev AG O3 (.loop G7) [.lv 0, .th G8] (Ba (List.replicate 19 .dead) [(3, .ref (16, 0) out.length), (6, .t (.sl false (l.map (A0.row false)))), (7, .t (.v (.int .i64 (AC l)))), (8, .t (.v (.int .i64 x1)))]) (Bb (List.replicate 19 []) [(16, [.mem (out.map (A0.row true)) 0 false])]))) := by
 unfold Ok
 refine CQ.mutual_partial_correctness _ _ _ ?_ ?_ ?_
 ·intro F1 ih1 n
  show Ok _ _ _
  have ih1 : ∀ (l : List A0), Ok (F1 l) _ _ := ih1
  rw [A9 AG (fn := GX) rfl (xN rfl rfl _) (lB rfl)]
  have k0 := @GX.eq_1; have g0 := RE; have g1 := RF; have g2 := ih1
  exact gs
 ·intro F2 ih2 l
  show Ok _ _ _
  have ih2 : ∀ (out : List (A0)) (l : List A0) (x1 : Int), Ok (F2 out l x1) _ _ := ih2
  rw [A9 AG (fn := Fv) rfl (xN rfl rfl _) (lB rfl)]
  have k0 := @Fv.eq_1; have t0 := ih2
  exact gs
 ·intro F0 F2 ih0 ih2 out l x1
  show Ok _ _ _
  have ih0 : ∀ (n : A0), Ok (F0 n) _ _ := ih0
  have ih2 : ∀ (out : List (A0)) (l : List A0) (x1 : Int), Ok (F2 out l x1) _ _ := ih2
  rw [AX]
  have k0 := @G7.eq_1; have k1 := @G8.eq_1; have g0 := ih0; have t0 := ih2
  exact gs
theorem O5 (n : A0) : Ok (CQ n) KG (dn AG Ez [.agg (((A0.row false) n).map .t)]) := PF.1 n
theorem mA (l : List A0) : Ok (HX l) Fx (dn AG IR [.t (.sl false (l.map (A0.row false)))]) := PF.2.1 l
theorem MM : ∀ (s : List (Int)), Ok (Bk s) Na (dn AG Dk [.t (.sl false (s.map rI))]) := by
 intro s
 cases s with
 | nil =>
  intro r hr
  unfold Bk at hr
  obtain ⟨_, _, h⟩ := Option.bind_eq_some_iff.1 hr
  cases h
  exact MT AG.ft (SL AG) (eq rfl)
 | cons x s =>
  simp only [List.map_cons]
  rw [A9 AG (fn := Cu) rfl (Yt rfl _ _) (Nat.le_of_ble_eq_true rfl)]
  simp only [MB, RS, Nb, Cu, Bk, reduceAdd, reduceSub, reduceMul, reduceLeDiff, reduceLT, reduceEqDiff, Nat.reduceBEq, ↓reduceIte, reduceCtorEq]
  refine Dx fun a h => ?_
  simp only [MB, RS, *, reduceAdd, reduceSub, reduceMul, reduceLeDiff, reduceLT, reduceEqDiff, Nat.reduceBEq, ↓reduceIte, reduceCtorEq]
  exact et rfl
theorem Jd : ∀ (w : A8), Ok (Bz w) PC (dn AG GT [.agg (((A8.row false) w).map .t)]) := by
 intro w
 rw [A9 AG (fn := GV) rfl (xN rfl rfl _) (lB rfl)]
 have k0 := @GV.eq_1; have f0 := @Bz.eq_1; have g0 := O5; have g1 := MM
 exact gs
theorem Pn : ∀ (n : Int) (lo : Int) (hi : Int), Ok (HY n lo hi) dm (dn AG Oz [.t (.v (.int .i64 n)), .t (.v (.int .i64 lo)), .t (.v (.int .i64 hi))]) := by
 intro n lo hi
 rw [A9 AG (fn := Rv) rfl (xN rfl rfl _) (lB rfl)]
 have k0 := @Rv.eq_1; have f0 := @HY.eq_1
 exact gs
theorem VL (path : List Int) : ∀ (x2 : Int) (n1 : A0), Ok (Du path x2 n1) OW (ev AG T3 (.loop Jo) [.lv 0, .th Jp] (Ba (List.replicate 30 .dead) [(2, .ptr (2, 0) [] 0 0 1 0), (4, .ptr (4, 0) [] 0 0 1 0), (8, .t (.sl false (path.map rI))), (9, .t (.v (.int .i64 (AC path)))), (10, .t (.v (.int .i64 x2)))]) (Bb (List.replicate 30 []) [(2, [.mem [[.v (.int .i64 n1.Kind), .v (.string n1.Pre), .v (.string n1.Local), .v (.string n1.Uri), .sl false (n1.Decls.map A1.row), .sl false (n1.Attrs.map A3.row), .sl false (n1.Kids.map (A0.row false)), .v (.string n1.Text)]] 0 false]), (4, [.mem [[.v (.int .i64 0), .v (.string (⟨#[]⟩)), .v (.string (⟨#[]⟩)), .v (.string (⟨#[]⟩)), .sl true [], .sl true [], .sl true [], .v (.string (⟨#[]⟩))]] 0 false])])) := by
 unfold Ok
 refine Du.partial_correctness path _ ?_
 intro F ih x2 n1
 show Ok _ _ _
 have ih : ∀ (x2 : Int) (n1 : A0), Ok (F x2 n1) _ _ := ih
 rw [AX]
 have k0 := @Jo.eq_1; have k1 := @Jp.eq_1; have g0 := Pn; have g1 := O5; have t0 := ih
 exact gs
theorem RG : ∀ (n : A0) (path : List Int), Ok (I3 n path) OW (dn AG OF [.agg (((A0.row false) n).map .t), .t (.sl false (path.map rI))]) := by
 intro n path
 rw [A9 AG (fn := KU) rfl (xN rfl rfl _) (lB rfl)]
 have k0 := @KU.eq_1; have f0 := @I3.eq_1; have t0 := VL
 exact gs
end TT
