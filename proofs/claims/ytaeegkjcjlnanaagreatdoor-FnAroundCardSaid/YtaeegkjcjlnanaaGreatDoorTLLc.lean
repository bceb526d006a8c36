import Derived.Test.YtaeegkjcjlnanaaGreatDoorTLLb
set_option maxHeartbeats 2000000
set_option linter.unusedVariables false
set_option linter.unusedSimpArgs false
set_option linter.defProp false
set_option maxRecDepth 100000
namespace TT
open Go
open Nat (reduceAdd reduceSub reduceMul reduceLeDiff reduceLT reduceEqDiff)
theorem bL : ∀ (s : ByteArray), Ok (Hu s) Ud (dn AF UR [.t (.v (.string s))]) := by
 intro s
 rw [A9 AF (fn := Mk) rfl (xN rfl rfl _) (lB rfl)]
 have k0 := @Mk.eq_1; have f0 := @Hu.eq_1
 exact gs
theorem XO : ∀ (n : Int), Ok (EL n) Qk (dn AF Qa [.t (.v (.int .i64 n))]) := by
 intro n
 rw [A9 AF (fn := JI) rfl (xN rfl rfl _) (lB rfl)]
 have k0 := @JI.eq_1; have f0 := @EL.eq_1
 exact gs
theorem Rz : ∀ (a : A3), Ok (D1 a) Lv (ev AF Ps Hq [] (Bk (List.replicate 46 .dead) [(1, .ptr (1, 0) [] 0 0 1 0)]) (Bm (List.replicate 46 []) [(1, [.mem [[.v (.string a.Pre), .v (.string a.Local), .v (.string a.Uri), .v (.string a.Val)]] 0 false])])) := by
 intro a
 have k0 := @Hq.eq_1; have f0 := @D1.eq_1; have g0 := NR
 exact gs
theorem W4 : ∀ (a : A3), Ok (Db a) Lv (dn AF Pp [.agg ((A3.row a).map .t)]) := by
 intro a
 rw [A9 AF (fn := Hd) rfl (xN rfl rfl _) (lB rfl)]
 have k0 := @Hd.eq_1; have f0 := @Db.eq_1; have g0 := TB; have g1 := Hj; have t0 := Rz
 exact gs
theorem Up (n : A0) : ∀ (i : Int), Ok (Ay i n) Mr (ev AF Pb (.loop KC) [.lv 1, .th KD, .lv 0, .th Hc] (Bk (List.replicate 195 .dead) [(1, .ptr (1, 0) [] 0 0 1 0), (3, .t (.v (.int .i64 i)))]) (Bm (List.replicate 195 []) [(1, [.mem [[.v (.int .i64 n.Kind), .v (.string n.Pre), .v (.string n.Local), .v (.string n.Uri), .sl false (n.Decls.map A1.row), .sl false (n.Attrs.map A3.row), .sl false (n.Kids.map (A0.row false)), .v (.string n.Text)]] 0 false])])) := by
 unfold Ok
 refine Ay.partial_correctness n _ ?_
 intro F ih i
 show Ok _ _ _
 have ih : ∀ (i : Int), Ok (F i) _ _ := ih
 rw [Aa]
 have k0 := @KC.eq_1; have k1 := @KD.eq_1; have g0 := W4; have g1 := Qw; have t0 := ih
 exact gs
theorem W5 : ∀ (n : A0), Ok (CN n) Mr (ev AF Pb Lr [.lv 0, .th Hc] (Bk (List.replicate 195 .dead) [(1, .ptr (1, 0) [] 0 0 1 0)]) (Bm (List.replicate 195 []) [(1, [.mem [[.v (.int .i64 n.Kind), .v (.string n.Pre), .v (.string n.Local), .v (.string n.Uri), .sl false (n.Decls.map A1.row), .sl false (n.Attrs.map A3.row), .sl false (n.Kids.map (A0.row false)), .v (.string n.Text)]] 0 false])])) := by
 intro n
 have k0 := @Lr.eq_1; have f0 := @CN.eq_1; have t0 := Up
 exact gs
theorem bM : ∀ (n : A0), Ok (Bw n) Mr (dn AF UP [.agg (((A0.row false) n).map .t)]) := by
 intro n
 rw [A9 AF (fn := Mh) rfl (xN rfl rfl _) (lB rfl)]
 have k0 := @Mh.eq_1; have k1 := @Hc.eq_1; have f0 := @Bw.eq_1; have g0 := TB; have g1 := Hj; have g2 := NR; have g3 := XN; have g4 := Yq; have g5 := bK; have g6 := bL; have g7 := XO; have t0 := W5
 exact gs
theorem bN : (∀ (l : List A0) (deep : Int), Ok (Ak l deep) HD (dn AF H4 [.t (.sl false (l.map (A0.row false))), .t (.v (.int .i64 deep))])) ∧
  (∀ (l : List A0) (deep : Int) (i : Int), Ok (Ai l deep i) HD (ev AF OF (.loop Ga) [.lv 0, .th Gb] (Bk (List.replicate 53 .dead) [(0, .t (.sl false (l.map (A0.row false)))), (1, .t (.v (.int .i64 deep))), (5, .t (.v (.int .i64 i)))]) (Bm (List.replicate 53 []) []))) ∧
  (∀ (l : List A0) (deep : Int) (i : Int) (x2 : A0), Ok (Bh l deep i x2) HD (ev AF OF J2 [.lv 1, .th J3, .hk [.clean [6]], .th (.loop Ga), .lv 0, .th Gb] (Bk (List.replicate 53 .dead) [(0, .t (.sl false (l.map (A0.row false)))), (1, .t (.v (.int .i64 deep))), (5, .t (.v (.int .i64 i))), (6, .ptr (6, 0) [] 0 0 1 0)]) (Bm (List.replicate 53 []) [(6, [.mem [[.v (.int .i64 x2.Kind), .v (.string x2.Pre), .v (.string x2.Local), .v (.string x2.Uri), .sl false (x2.Decls.map A1.row), .sl false (x2.Attrs.map A3.row), .sl false (x2.Kids.map (A0.row false)), .v (.string x2.Text)]] 0 false])]))) := by
 unfold Ok
 refine Ak.mutual_partial_correctness _ _ _ ?_ ?_ ?_
 ·intro F1 ih1 l deep
  show Ok _ _ _
  have ih1 : ∀ (l : List A0) (deep : Int) (i : Int), Ok (F1 l deep i) _ _ := ih1
  rw [A9 AF (fn := Kn) rfl (xN rfl rfl _) (lB rfl)]
  have k0 := @Kn.eq_1; have t0 := ih1
  exact gs
 ·intro F2 ih2 l deep i
  show Ok _ _ _
  have ih2 : ∀ (l : List A0) (deep : Int) (i : Int) (x2 : A0), Ok (F2 l deep i x2) _ _ := ih2
  rw [Aa]
  have k0 := @Ga.eq_1; have k1 := @Gb.eq_1; have g0 := bM; have t0 := ih2
  exact gs
 ·intro F0 F1 ih0 ih1 l deep i x2
  show Ok _ _ _
  have ih0 : ∀ (l : List A0) (deep : Int), Ok (F0 l deep) _ _ := ih0
  have ih1 : ∀ (l : List A0) (deep : Int) (i : Int), Ok (F1 l deep i) _ _ := ih1
  have k0 := @J2.eq_1; have k1 := @J3.eq_1; have g0 := ih0; have t0 := ih1
  exact gs
theorem Qy (l : List A0) (deep : Int) : Ok (Ak l deep) HD (dn AF H4 [.t (.sl false (l.map (A0.row false))), .t (.v (.int .i64 deep))]) := bN.1 l deep
theorem Uq (n : A0) : (∀ (k2 : Int) (i : Int), Ok (Bi k2 i n) L8 (ev AF OG Im [.lv 1, .th In, .hk [.clean []], .th (.loop Ft), .lv 0, .th Fu] (Bk (List.replicate 76 .dead) [(1, .ptr (1, 0) [] 0 0 1 0), (3, .t (.v (.int .i64 k2))), (4, .t (.v (.int .i64 i)))]) (Bm (List.replicate 76 []) [(1, [.mem [[.v (.int .i64 n.Kind), .v (.string n.Pre), .v (.string n.Local), .v (.string n.Uri), .sl false (n.Decls.map A1.row), .sl false (n.Attrs.map A3.row), .sl false (n.Kids.map (A0.row false)), .v (.string n.Text)]] 0 false])]))) ∧
  (∀ (k1 : Int) (i : Int), Ok (AT k1 i n) L8 (ev AF OG (.loop Ft) [.lv 0, .th Fu] (Bk (List.replicate 76 .dead) [(1, .ptr (1, 0) [] 0 0 1 0), (3, .t (.v (.int .i64 k1))), (4, .t (.v (.int .i64 i)))]) (Bm (List.replicate 76 []) [(1, [.mem [[.v (.int .i64 n.Kind), .v (.string n.Pre), .v (.string n.Local), .v (.string n.Uri), .sl false (n.Decls.map A1.row), .sl false (n.Attrs.map A3.row), .sl false (n.Kids.map (A0.row false)), .v (.string n.Text)]] 0 false])]))) := by
 unfold Ok
 refine Bi.mutual_partial_correctness n _ _ ?_ ?_
 ·intro F1 ih1 k2 i
  show Ok _ _ _
  have ih1 : ∀ (k1 : Int) (i : Int), Ok (F1 k1 i) _ _ := ih1
  have k0 := @Im.eq_1; have k1 := @In.eq_1; have t0 := ih1
  exact gs
 ·intro F0 ih0 k1 i
  show Ok _ _ _
  have ih0 : ∀ (k2 : Int) (i : Int), Ok (F0 k2 i) _ _ := ih0
  rw [Aa]
  have k0 := @Ft.eq_1; have k1 := @Fu.eq_1; have g0 := Qy; have t0 := ih0
  exact gs
theorem Yr : ∀ (n : A0), Ok (Cg n) L8 (dn AF ST [.agg (((A0.row false) n).map .t)]) := by
 intro n
 rw [A9 AF (fn := Kd) rfl (xN rfl rfl _) (lB rfl)]
 have k0 := @Kd.eq_1; have f0 := @Cg.eq_1; have g0 := XL; have g1 := Qy; have t0 := fun a0 => (Uq a0).2
 exact gs
theorem bO : (∀ (n : A0) (l : List A1), Ok (BG n l) Fm (dn AF KP [.agg (((A0.row false) n).map .t), .t (.sl false (l.map A1.row))])) ∧
  (∀ (r : List A1) (n : A0), Ok (BM r n) Fm (ev AF L9 K5 [] (Bk (List.replicate 88 .dead) [(2, .ptr (2, 0) [] 0 0 1 0), (5, .ref (15, 0) r.length)]) (Bm (List.replicate 88 []) [(2, [.mem [[.v (.int .i64 n.Kind), .v (.string n.Pre), .v (.string n.Local), .v (.string n.Uri), .sl false (n.Decls.map A1.row), .sl false (n.Attrs.map A3.row), .sl false (n.Kids.map (A0.row false)), .v (.string n.Text)]] 0 false]), (15, [.mem (r.map A1.row) 0 false])]))) ∧
  (∀ (r : List A1) (i1 : Int) (n : A0), Ok (Am r i1 n) Fm (ev AF L9 (.loop Io) [.lv 0, .th Ir] (Bk (List.replicate 88 .dead) [(2, .ptr (2, 0) [] 0 0 1 0), (5, .ref (15, 0) r.length), (8, .t (.v (.int .i64 i1)))]) (Bm (List.replicate 88 []) [(2, [.mem [[.v (.int .i64 n.Kind), .v (.string n.Pre), .v (.string n.Local), .v (.string n.Uri), .sl false (n.Decls.map A1.row), .sl false (n.Attrs.map A3.row), .sl false (n.Kids.map (A0.row false)), .v (.string n.Text)]] 0 false]), (15, [.mem (r.map A1.row) 0 false])]))) ∧
  (∀ (r : List A1) (i2 : Int) (n : A0), Ok (AO r i2 n) Fm (ev AF L9 (.loop Ip) [.lv 2, .th Iq] (Bk (List.replicate 88 .dead) [(2, .ptr (2, 0) [] 0 0 1 0), (5, .ref (15, 0) r.length), (11, .t (.v (.int .i64 i2)))]) (Bm (List.replicate 88 []) [(2, [.mem [[.v (.int .i64 n.Kind), .v (.string n.Pre), .v (.string n.Local), .v (.string n.Uri), .sl false (n.Decls.map A1.row), .sl false (n.Attrs.map A3.row), .sl false (n.Kids.map (A0.row false)), .v (.string n.Text)]] 0 false]), (15, [.mem (r.map A1.row) 0 false])]))) := by
 unfold Ok
 refine BG.mutual_partial_correctness _ _ _ _ ?_ ?_ ?_ ?_
 ·intro F1 ih1 n l
  show Ok _ _ _
  have ih1 : ∀ (r : List A1) (n : A0), Ok (F1 r n) _ _ := ih1
  rw [A9 AF (fn := Ke) rfl (xN rfl rfl _) (lB rfl)]
  have k0 := @Ke.eq_1; have g0 := T9; have g1 := Hi; have t0 := ih1
  exact gs
 ·intro F2 ih2 r n
  show Ok _ _ _
  have ih2 : ∀ (r : List A1) (i1 : Int) (n : A0), Ok (F2 r i1 n) _ _ := ih2
  have k0 := @K5.eq_1; have t0 := ih2
  exact gs
 ·intro F2 F3 ih2 ih3 r i1 n
  show Ok _ _ _
  have ih2 : ∀ (r : List A1) (i1 : Int) (n : A0), Ok (F2 r i1 n) _ _ := ih2
  have ih3 : ∀ (r : List A1) (i2 : Int) (n : A0), Ok (F3 r i2 n) _ _ := ih3
  rw [Aa]
  have k0 := @Io.eq_1; have k1 := @Ir.eq_1; have g0 := Hi; have t0 := ih2; have t1 := ih3
  exact gs
 ·intro F0 F3 ih0 ih3 r i2 n
  show Ok _ _ _
  have ih0 : ∀ (n : A0) (l : List A1), Ok (F0 n l) _ _ := ih0
  have ih3 : ∀ (r : List A1) (i2 : Int) (n : A0), Ok (F3 r i2 n) _ _ := ih3
  rw [Aa]
  have k0 := @Ip.eq_1; have k1 := @Iq.eq_1; have g0 := ih0; have t0 := ih3
  exact gs
theorem Ys (n : A0) (l : List A1) : Ok (BG n l) Fm (dn AF KP [.agg (((A0.row false) n).map .t), .t (.sl false (l.map A1.row))]) := bO.1 n l
theorem Qz : ∀ (n : A0), Ok (CC n) Sk (dn AF O8 [.agg (((A0.row false) n).map .t)]) := by
 intro n
 rw [A9 AF (fn := KY) rfl (xN rfl rfl _) (lB rfl)]
 have k0 := @KY.eq_1; have f0 := @CC.eq_1; have g0 := Yr; have g1 := Ys
 exact gs
theorem Tf : ∀ (r3 : Bool × A2) (nKids1 : List (A0)), Ok (EC r3 nKids1) LA (ev AF OH Ii [] (Bk (List.replicate 42 .dead) [(2, .ptr (2, 0) [] 0 0 1 0), (4, .ptr (4, 0) [] 0 0 1 0)]) (Bm (List.replicate 42 []) [(0, [.mem [[.sl false (r3.2.xb.map (rK .u8)), .v (.int .i64 r3.2.xi), .v (.int .i64 r3.2.xh)]] 0 true]), (2, [.mem [[.v (.int .i64 0), .v (.string (⟨#[]⟩)), .v (.string (⟨#[]⟩)), .v (.string (⟨#[]⟩)), .sl true [], .sl true [], .sl true [], .v (.string (⟨#[]⟩))]] 0 false]), (4, [.mem [[.v (.int .i64 0), .v (.string (⟨#[]⟩)), .v (.string (⟨#[]⟩)), .v (.string (⟨#[]⟩)), .sl true [], .sl true [], .sl true (nKids1.map (A0.row true)), .v (.string (⟨#[]⟩))]] 0 false])])) := by
 intro r3 nKids1
 have k0 := @Ii.eq_1; have f0 := @EC.eq_1; have g0 := Qz
 exact gs
theorem Ur : ∀ (r1 : Bool × A2) (r : Int × A2) (nKids : List (A0)), Ok (FJ r1 r nKids) LA (ev AF OH Js [] (Bk (List.replicate 42 .dead) [(0, .ptr (0, 0) [] 0 0 1 0), (2, .ptr (2, 0) [] 0 0 1 0), (3, .ptr (3, 0) [] 0 0 1 0), (4, .ptr (4, 0) [] 0 0 1 0)]) (Bm (List.replicate 42 []) [(0, [.mem [[.sl false (r1.2.xb.map (rK .u8)), .v (.int .i64 r1.2.xi), .v (.int .i64 r1.2.xh)]] 0 true]), (2, [.mem [[.v (.int .i64 0), .v (.string (⟨#[]⟩)), .v (.string (⟨#[]⟩)), .v (.string (⟨#[]⟩)), .sl true [], .sl true [], .sl true [], .v (.string (⟨#[]⟩))]] 0 false]), (3, [.mem [[.v (.int .i64 (Ac 3 r.1))]] 0 false]), (4, [.mem [[.v (.int .i64 0), .v (.string (⟨#[]⟩)), .v (.string (⟨#[]⟩)), .v (.string (⟨#[]⟩)), .sl true [], .sl true [], .sl true (nKids.map (A0.row true)), .v (.string (⟨#[]⟩))]] 0 false])])) := by
 intro r1 r nKids
 have k0 := @Js.eq_1; have f0 := @FJ.eq_1; have g0 := fS; have g1 := E2; have t0 := Tf
 exact gs
theorem NS : ∀ (c : A2), Ok (ID c) LA (dn AF OA [.lp [.sl false (c.xb.map (rK .u8)), .v (.int .i64 c.xi), .v (.int .i64 c.xh)] 0]) := by
 intro c
 rw [A9 AF (fn := KV) rfl (xN rfl rfl _) (lB rfl)]
 have k0 := @KV.eq_1; have f0 := @ID.eq_1; have g0 := BA; have g1 := E2; have t0 := Ur
 exact gs
theorem W6 : ∀ (code : List Int), Ok (H9 code) Pt (dn AF Po [.t (.sl false (code.map (rK .u8)))]) := by
 intro code
 rw [A9 AF (fn := HO) rfl (xN rfl rfl _) (lB rfl)]
 have k0 := @HO.eq_1; have f0 := @H9.eq_1; have g0 := T8; have g1 := NS
 exact gs
theorem Gu : ∀ (s : List (Int)), Ok (Bn s) NI (dn AF Cu [.t (.sl false (s.map rI))]) := by
 intro s
 cases s with
 | nil =>
  intro r hr
  unfold Bn at hr
  obtain ⟨_, _, h⟩ := Option.bind_eq_some_iff.1 hr
  cases h
  exact MM AF.ft (SD AF) (de rfl)
 | cons x s =>
  simp only [List.map_cons]
  rw [A9 AF (fn := Cz) rfl (YQ rfl _ _) (Nat.le_of_ble_eq_true rfl)]
  simp only [Oo, RS, NJ, Cz, Bn, reduceAdd, reduceSub, reduceMul, reduceLeDiff, reduceLT, reduceEqDiff, Nat.reduceBEq, ↓reduceIte, reduceCtorEq]
  refine E5 fun a h => ?_
  simp only [Oo, RS, *, reduceAdd, reduceSub, reduceMul, reduceLeDiff, reduceLT, reduceEqDiff, Nat.reduceBEq, ↓reduceIte, reduceCtorEq]
  exact dg rfl
theorem R0 : ∀ (s : List (List (Int))), Ok (EM s) M7 (dn AF Gj [.t (.sl false (s.map (rL false rI)))]) := by
 intro s r hr
 unfold EM at hr
 split at hr
 ·rename_i l m
  split at hr
  ·rename_i h
   cases hr
   refine MM AF.ft (SD AF) ?_
   have hl : ∀ k : List (Int), ∀ row ∈ k.map rI, row.length = 1 := fun k row hrow => by obtain ⟨x, _, rfl⟩ := List.mem_map.1 hrow; first | rfl | (cases x <;> rfl)
   show QR 1 8 [.t (.sl false [[.sl false (l.map rI)], [.sl false (m.map rI)]])] = some ⟨[.t (.sl true ((l ++ m).map rI))], []⟩
   rw [QR, if_pos ⟨⟨hl l, hl m⟩, by simpa using h⟩, List.map_append]
  ·cases hr
 ·cases hr
theorem XP : (∀ (n : A0) (path : List Int) (out : List (List Int)), Ok (Eg n path out) Hh (dn AF HL [.agg (((A0.row false) n).map .t), .t (.sl false (path.map rI)), .ln (out.map (rL true rI))])) ∧
  (∀ (path : List Int) (out1 : List (List Int)) (n : A0) (x1 : Int), Ok (Dl path out1 n x1) Hh (ev AF Pu (.loop Hm) [.lv 0, .th Hn] (Bk (List.replicate 32 .dead) [(1, .t (.sl false (path.map rI))), (2, .ref (2, 0) out1.length), (15, .t (.sl false (n.Kids.map (A0.row false)))), (16, .t (.v (.int .i64 (AC n.Kids)))), (17, .t (.v (.int .i64 x1)))]) (Bm (List.replicate 32 []) [(2, [.mem (out1.map (rL true rI)) 0 false])]))) := by
 unfold Ok
 refine Eg.mutual_partial_correctness _ _ ?_ ?_
 ·intro F1 ih1 n path out
  show Ok _ _ _
  have ih1 : ∀ (path : List Int) (out1 : List (List Int)) (n : A0) (x1 : Int), Ok (F1 path out1 n x1) _ _ := ih1
  rw [A9 AF (fn := HU) rfl (xN rfl rfl _) (lB rfl)]
  have k0 := @HU.eq_1; have g0 := Gu; have t0 := ih1
  exact gs
 ·intro F0 F1 ih0 ih1 path out1 n x1
  show Ok _ _ _
  have ih0 : ∀ (n : A0) (path : List Int) (out : List (List Int)), Ok (F0 n path out) _ _ := ih0
  have ih1 : ∀ (path : List Int) (out1 : List (List Int)) (n : A0) (x1 : Int), Ok (F1 path out1 n x1) _ _ := ih1
  rw [Aa]
  have k0 := @Hm.eq_1; have k1 := @Hn.eq_1; have g0 := R0; have g1 := ih0; have t0 := ih1
  exact gs
theorem W7 (n : A0) (path : List Int) (out : List (List Int)) : Ok (Eg n path out) Hh (dn AF HL [.agg (((A0.row false) n).map .t), .t (.sl false (path.map rI)), .ln (out.map (rL true rI))]) := XP.1 n path out
theorem R1 : ∀ (n : A0), Ok (IE n) Sl (dn AF O3 [.agg (((A0.row false) n).map .t)]) := by
 intro n
 rw [A9 AF (fn := KT) rfl (xN rfl rfl _) (lB rfl)]
 have k0 := @KT.eq_1; have f0 := @IE.eq_1; have g0 := W7
 exact gs
theorem Yt : (∀ (n : A0), Ok (EN n) Jb (dn AF Ic [.agg (((A0.row false) n).map .t)])) ∧
  (∀ (out : Int) (n : A0) (x1 : Int), Ok (ED out n x1) Jb (ev AF Ql (.loop Iv) [.lv 0, .th Iw] (Bk (List.replicate 23 .dead) [(3, .t (.v (.int .i64 out))), (11, .t (.sl false (n.Kids.map (A0.row false)))), (12, .t (.v (.int .i64 (AC n.Kids)))), (13, .t (.v (.int .i64 x1)))]) (Bm (List.replicate 23 []) []))) := by
 unfold Ok
 refine EN.mutual_partial_correctness _ _ ?_ ?_
 ·intro F1 ih1 n
  show Ok _ _ _
  have ih1 : ∀ (out : Int) (n : A0) (x1 : Int), Ok (F1 out n x1) _ _ := ih1
  rw [A9 AF (fn := Ix) rfl (xN rfl rfl _) (lB rfl)]
  have k0 := @Ix.eq_1; have t0 := ih1
  exact gs
 ·intro F0 F1 ih0 ih1 out n x1
  show Ok _ _ _
  have ih0 : ∀ (n : A0), Ok (F0 n) _ _ := ih0
  have ih1 : ∀ (out : Int) (n : A0) (x1 : Int), Ok (F1 out n x1) _ _ := ih1
  rw [Aa]
  have k0 := @Iv.eq_1; have k1 := @Iw.eq_1; have g0 := ih0; have t0 := ih1
  exact gs
theorem XQ (n : A0) : Ok (EN n) Jb (dn AF Ic [.agg (((A0.row false) n).map .t)]) := Yt.1 n
end TT
