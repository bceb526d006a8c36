import Derived.Test.YtaeegkjcjlnanaaGreatDoorTLLb
set_option maxHeartbeats 2000000
set_option linter.unusedVariables false
set_option linter.unusedSimpArgs false
set_option linter.defProp false
set_option maxRecDepth 100000
namespace TT
open Go
open Nat (reduceAdd reduceSub reduceMul reduceLeDiff reduceLT reduceEqDiff)
theorem cJ : ∀ (s : ByteArray), Ok (Hm s) Uy (dn AG Um [.t (.v (.string s))]) := by
 intro s
 rw [A9 AG (fn := Mw) rfl (xN rfl rfl _) (lB rfl)]
 have k0 := @Mw.eq_1; have f0 := @Hm.eq_1
 exact gs
theorem Xn : ∀ (n : Int), Ok (EE n) Qs (dn AG Qg [.t (.v (.int .i64 n))]) := by
 intro n
 rw [A9 AG (fn := JB) rfl (xN rfl rfl _) (lB rfl)]
 have k0 := @JB.eq_1; have f0 := @EE.eq_1
 exact gs
theorem SB : ∀ (a : A3), Ok (Cy a) Ly (ev AG Q1 Hi [] (Ba (List.replicate 46 .dead) [(1, .ptr (1, 0) [] 0 0 1 0)]) (Bb (List.replicate 46 []) [(1, [.mem [[.v (.string a.Pre), .v (.string a.Local), .v (.string a.Uri), .v (.string a.Val)]] 0 false])])) := by
 intro a
 have k0 := @Hi.eq_1; have f0 := @Cy.eq_1; have g0 := Nj
 exact gs
theorem WZ : ∀ (a : A3), Ok (DV a) Ly (dn AG Py [.agg ((A3.row a).map .t)]) := by
 intro a
 rw [A9 AG (fn := HU) rfl (xN rfl rfl _) (lB rfl)]
 have k0 := @HU.eq_1; have f0 := @DV.eq_1; have g0 := TM; have g1 := Hb; have t0 := SB
 exact gs
theorem VF (n : A0) : ∀ (i : Int), Ok (Ay i n) N5 (ev AG Pk (.loop KC) [.lv 1, .th KD, .lv 0, .th HS] (Ba (List.replicate 195 .dead) [(1, .ptr (1, 0) [] 0 0 1 0), (3, .t (.v (.int .i64 i)))]) (Bb (List.replicate 195 []) [(1, [.mem [[.v (.int .i64 n.Kind), .v (.string n.Pre), .v (.string n.Local), .v (.string n.Uri), .sl false (n.Decls.map A1.row), .sl false (n.Attrs.map A3.row), .sl false (n.Kids.map (A0.row false)), .v (.string n.Text)]] 0 false])])) := by
 unfold Ok
 refine Ay.partial_correctness n _ ?_
 intro F ih i
 show Ok _ _ _
 have ih : ∀ (i : Int), Ok (F i) _ _ := ih
 rw [AX]
 have k0 := @KC.eq_1; have k1 := @KD.eq_1; have g0 := WZ; have g1 := R6; have t0 := ih
 exact gs
theorem Wa : ∀ (n : A0), Ok (DW n) N5 (ev AG Pk Lu [.lv 0, .th HS] (Ba (List.replicate 195 .dead) [(1, .ptr (1, 0) [] 0 0 1 0)]) (Bb (List.replicate 195 []) [(1, [.mem [[.v (.int .i64 n.Kind), .v (.string n.Pre), .v (.string n.Local), .v (.string n.Uri), .sl false (n.Decls.map A1.row), .sl false (n.Attrs.map A3.row), .sl false (n.Kids.map (A0.row false)), .v (.string n.Text)]] 0 false])])) := by
 intro n
 have k0 := @Lu.eq_1; have f0 := @DW.eq_1; have t0 := VF
 exact gs
theorem cK : ∀ (n : A0), Ok (Cz n) N5 (dn AG Uk [.agg (((A0.row false) n).map .t)]) := by
 intro n
 rw [A9 AG (fn := Mt) rfl (xN rfl rfl _) (lB rfl)]
 have k0 := @Mt.eq_1; have k1 := @HS.eq_1; have f0 := @Cz.eq_1; have g0 := TM; have g1 := Hb; have g2 := Nj; have g3 := Xm; have g4 := ZM; have g5 := cH; have g6 := cJ; have g7 := Xn; have t0 := Wa
 exact gs
theorem cL : (∀ (l : List A0) (deep : Int), Ok (Bd l deep) HC (dn AG H3 [.t (.sl false (l.map (A0.row false))), .t (.v (.int .i64 deep))])) ∧
  (∀ (l : List A0) (deep : Int) (i : Int), Ok (BE l deep i) HC (ev AG OS (.loop GZ) [.lv 0, .th Ga] (Ba (List.replicate 53 .dead) [(0, .t (.sl false (l.map (A0.row false)))), (1, .t (.v (.int .i64 deep))), (5, .t (.v (.int .i64 i)))]) (Bb (List.replicate 53 []) []))) ∧
  (∀ (l : List A0) (deep : Int) (i : Int) (x2 : A0), Ok (Cd l deep i x2) HC (ev AG OS Is [.lv 1, .th It, .hk [.clean [6]], .th (.loop GZ), .lv 0, .th Ga] (Ba (List.replicate 53 .dead) [(0, .t (.sl false (l.map (A0.row false)))), (1, .t (.v (.int .i64 deep))), (5, .t (.v (.int .i64 i))), (6, .ptr (6, 0) [] 0 0 1 0)]) (Bb (List.replicate 53 []) [(6, [.mem [[.v (.int .i64 x2.Kind), .v (.string x2.Pre), .v (.string x2.Local), .v (.string x2.Uri), .sl false (x2.Decls.map A1.row), .sl false (x2.Attrs.map A3.row), .sl false (x2.Kids.map (A0.row false)), .v (.string x2.Text)]] 0 false])]))) := by
 unfold Ok
 refine Bd.mutual_partial_correctness _ _ _ ?_ ?_ ?_
 ·intro F1 ih1 l deep
  show Ok _ _ _
  have ih1 : ∀ (l : List A0) (deep : Int) (i : Int), Ok (F1 l deep i) _ _ := ih1
  rw [A9 AG (fn := Kj) rfl (xN rfl rfl _) (lB rfl)]
  have k0 := @Kj.eq_1; have t0 := ih1
  exact gs
 ·intro F2 ih2 l deep i
  show Ok _ _ _
  have ih2 : ∀ (l : List A0) (deep : Int) (i : Int) (x2 : A0), Ok (F2 l deep i x2) _ _ := ih2
  rw [AX]
  have k0 := @GZ.eq_1; have k1 := @Ga.eq_1; have g0 := cK; have t0 := ih2
  exact gs
 ·intro F0 F1 ih0 ih1 l deep i x2
  show Ok _ _ _
  have ih0 : ∀ (l : List A0) (deep : Int), Ok (F0 l deep) _ _ := ih0
  have ih1 : ∀ (l : List A0) (deep : Int) (i : Int), Ok (F1 l deep i) _ _ := ih1
  have k0 := @Is.eq_1; have k1 := @It.eq_1; have g0 := ih0; have t0 := ih1
  exact gs
theorem R8 (l : List A0) (deep : Int) : Ok (Bd l deep) HC (dn AG H3 [.t (.sl false (l.map (A0.row false))), .t (.v (.int .i64 deep))]) := cL.1 l deep
theorem VG (n : A0) : (∀ (k2 : Int) (i : Int), Ok (Ce k2 i n) L7 (ev AG OT If [.lv 1, .th Ig, .hk [.clean []], .th (.loop Fs), .lv 0, .th Ft] (Ba (List.replicate 76 .dead) [(1, .ptr (1, 0) [] 0 0 1 0), (3, .t (.v (.int .i64 k2))), (4, .t (.v (.int .i64 i)))]) (Bb (List.replicate 76 []) [(1, [.mem [[.v (.int .i64 n.Kind), .v (.string n.Pre), .v (.string n.Local), .v (.string n.Uri), .sl false (n.Decls.map A1.row), .sl false (n.Attrs.map A3.row), .sl false (n.Kids.map (A0.row false)), .v (.string n.Text)]] 0 false])]))) ∧
  (∀ (k1 : Int) (i : Int), Ok (Ab k1 i n) L7 (ev AG OT (.loop Fs) [.lv 0, .th Ft] (Ba (List.replicate 76 .dead) [(1, .ptr (1, 0) [] 0 0 1 0), (3, .t (.v (.int .i64 k1))), (4, .t (.v (.int .i64 i)))]) (Bb (List.replicate 76 []) [(1, [.mem [[.v (.int .i64 n.Kind), .v (.string n.Pre), .v (.string n.Local), .v (.string n.Uri), .sl false (n.Decls.map A1.row), .sl false (n.Attrs.map A3.row), .sl false (n.Kids.map (A0.row false)), .v (.string n.Text)]] 0 false])]))) := by
 unfold Ok
 refine Ce.mutual_partial_correctness n _ _ ?_ ?_
 ·intro F1 ih1 k2 i
  show Ok _ _ _
  have ih1 : ∀ (k1 : Int) (i : Int), Ok (F1 k1 i) _ _ := ih1
  have k0 := @If.eq_1; have k1 := @Ig.eq_1; have t0 := ih1
  exact gs
 ·intro F0 ih0 k1 i
  show Ok _ _ _
  have ih0 : ∀ (k2 : Int) (i : Int), Ok (F0 k2 i) _ _ := ih0
  rw [AX]
  have k0 := @Fs.eq_1; have k1 := @Ft.eq_1; have g0 := R8; have t0 := ih0
  exact gs
theorem ZN : ∀ (n : A0), Ok (DX n) L7 (dn AG Sd [.agg (((A0.row false) n).map .t)]) := by
 intro n
 rw [A9 AG (fn := Kc) rfl (xN rfl rfl _) (lB rfl)]
 have k0 := @Kc.eq_1; have f0 := @DX.eq_1; have g0 := Xk; have g1 := R8; have t0 := fun a0 => (VG a0).2
 exact gs
theorem cM : (∀ (n : A0) (l : List A1), Ok (Cf n l) Fm (dn AG KM [.agg (((A0.row false) n).map .t), .t (.sl false (l.map A1.row))])) ∧
  (∀ (r : List A1) (n : A0), Ok (Dr r n) Fm (ev AG L8 K3 [] (Ba (List.replicate 88 .dead) [(2, .ptr (2, 0) [] 0 0 1 0), (5, .ref (15, 0) r.length)]) (Bb (List.replicate 88 []) [(2, [.mem [[.v (.int .i64 n.Kind), .v (.string n.Pre), .v (.string n.Local), .v (.string n.Uri), .sl false (n.Decls.map A1.row), .sl false (n.Attrs.map A3.row), .sl false (n.Kids.map (A0.row false)), .v (.string n.Text)]] 0 false]), (15, [.mem (r.map A1.row) 0 false])]))) ∧
  (∀ (r : List A1) (i1 : Int) (n : A0), Ok (Au r i1 n) Fm (ev AG L8 (.loop Ih) [.lv 0, .th Ik] (Ba (List.replicate 88 .dead) [(2, .ptr (2, 0) [] 0 0 1 0), (5, .ref (15, 0) r.length), (8, .t (.v (.int .i64 i1)))]) (Bb (List.replicate 88 []) [(2, [.mem [[.v (.int .i64 n.Kind), .v (.string n.Pre), .v (.string n.Local), .v (.string n.Uri), .sl false (n.Decls.map A1.row), .sl false (n.Attrs.map A3.row), .sl false (n.Kids.map (A0.row false)), .v (.string n.Text)]] 0 false]), (15, [.mem (r.map A1.row) 0 false])]))) ∧
  (∀ (r : List A1) (i2 : Int) (n : A0), Ok (Ap r i2 n) Fm (ev AG L8 (.loop Ii) [.lv 2, .th Ij] (Ba (List.replicate 88 .dead) [(2, .ptr (2, 0) [] 0 0 1 0), (5, .ref (15, 0) r.length), (11, .t (.v (.int .i64 i2)))]) (Bb (List.replicate 88 []) [(2, [.mem [[.v (.int .i64 n.Kind), .v (.string n.Pre), .v (.string n.Local), .v (.string n.Uri), .sl false (n.Decls.map A1.row), .sl false (n.Attrs.map A3.row), .sl false (n.Kids.map (A0.row false)), .v (.string n.Text)]] 0 false]), (15, [.mem (r.map A1.row) 0 false])]))) := by
 unfold Ok
 refine Cf.mutual_partial_correctness _ _ _ _ ?_ ?_ ?_ ?_
 ·intro F1 ih1 n l
  show Ok _ _ _
  have ih1 : ∀ (r : List A1) (n : A0), Ok (F1 r n) _ _ := ih1
  rw [A9 AG (fn := Kd) rfl (xN rfl rfl _) (lB rfl)]
  have k0 := @Kd.eq_1; have g0 := TK; have g1 := Ha; have t0 := ih1
  exact gs
 ·intro F2 ih2 r n
  show Ok _ _ _
  have ih2 : ∀ (r : List A1) (i1 : Int) (n : A0), Ok (F2 r i1 n) _ _ := ih2
  have k0 := @K3.eq_1; have t0 := ih2
  exact gs
 ·intro F2 F3 ih2 ih3 r i1 n
  show Ok _ _ _
  have ih2 : ∀ (r : List A1) (i1 : Int) (n : A0), Ok (F2 r i1 n) _ _ := ih2
  have ih3 : ∀ (r : List A1) (i2 : Int) (n : A0), Ok (F3 r i2 n) _ _ := ih3
  rw [AX]
  have k0 := @Ih.eq_1; have k1 := @Ik.eq_1; have g0 := Ha; have t0 := ih2; have t1 := ih3
  exact gs
 ·intro F0 F3 ih0 ih3 r i2 n
  show Ok _ _ _
  have ih0 : ∀ (n : A0) (l : List A1), Ok (F0 n l) _ _ := ih0
  have ih3 : ∀ (r : List A1) (i2 : Int) (n : A0), Ok (F3 r i2 n) _ _ := ih3
  rw [AX]
  have k0 := @Ii.eq_1; have k1 := @Ij.eq_1; have g0 := ih0; have t0 := ih3
  exact gs
theorem ZO (n : A0) (l : List A1) : Ok (Cf n l) Fm (dn AG KM [.agg (((A0.row false) n).map .t), .t (.sl false (l.map A1.row))]) := cM.1 n l
theorem R9 : ∀ (n : A0), Ok (D4 n) Sx (dn AG OL [.agg (((A0.row false) n).map .t)]) := by
 intro n
 rw [A9 AG (fn := KX) rfl (xN rfl rfl _) (lB rfl)]
 have k0 := @KX.eq_1; have f0 := @D4.eq_1; have g0 := ZN; have g1 := ZO
 exact gs
theorem Tr : ∀ (r3 : Bool × A2) (nKids1 : List (A0)), Ok (E4 r3 nKids1) L9 (ev AG OU IZ [] (Ba (List.replicate 42 .dead) [(2, .ptr (2, 0) [] 0 0 1 0), (4, .ptr (4, 0) [] 0 0 1 0)]) (Bb (List.replicate 42 []) [(0, [.mem [[.sl false (r3.2.xb.map (rK .u8)), .v (.int .i64 r3.2.xi), .v (.int .i64 r3.2.xh)]] 0 true]), (2, [.mem [[.v (.int .i64 0), .v (.string (⟨#[]⟩)), .v (.string (⟨#[]⟩)), .v (.string (⟨#[]⟩)), .sl true [], .sl true [], .sl true [], .v (.string (⟨#[]⟩))]] 0 false]), (4, [.mem [[.v (.int .i64 0), .v (.string (⟨#[]⟩)), .v (.string (⟨#[]⟩)), .v (.string (⟨#[]⟩)), .sl true [], .sl true [], .sl true (nKids1.map (A0.row true)), .v (.string (⟨#[]⟩))]] 0 false])])) := by
 intro r3 nKids1
 have k0 := @IZ.eq_1; have f0 := @E4.eq_1; have g0 := R9
 exact gs
theorem VH : ∀ (r1 : Bool × A2) (r : Int × A2) (nKids : List (A0)), Ok (FH r1 r nKids) L9 (ev AG OU Js [] (Ba (List.replicate 42 .dead) [(0, .ptr (0, 0) [] 0 0 1 0), (2, .ptr (2, 0) [] 0 0 1 0), (3, .ptr (3, 0) [] 0 0 1 0), (4, .ptr (4, 0) [] 0 0 1 0)]) (Bb (List.replicate 42 []) [(0, [.mem [[.sl false (r1.2.xb.map (rK .u8)), .v (.int .i64 r1.2.xi), .v (.int .i64 r1.2.xh)]] 0 true]), (2, [.mem [[.v (.int .i64 0), .v (.string (⟨#[]⟩)), .v (.string (⟨#[]⟩)), .v (.string (⟨#[]⟩)), .sl true [], .sl true [], .sl true [], .v (.string (⟨#[]⟩))]] 0 false]), (3, [.mem [[.v (.int .i64 (AP 3 r.1))]] 0 false]), (4, [.mem [[.v (.int .i64 0), .v (.string (⟨#[]⟩)), .v (.string (⟨#[]⟩)), .v (.string (⟨#[]⟩)), .sl true [], .sl true [], .sl true (nKids.map (A0.row true)), .v (.string (⟨#[]⟩))]] 0 false])])) := by
 intro r1 r nKids
 have k0 := @Js.eq_1; have f0 := @FH.eq_1; have g0 := ga; have g1 := C2; have t0 := Tr
 exact gs
theorem Nk : ∀ (c : A2), Ok (GH c) L9 (dn AG ON [.lp [.sl false (c.xb.map (rK .u8)), .v (.int .i64 c.xi), .v (.int .i64 c.xh)] 0]) := by
 intro c
 rw [A9 AG (fn := KY) rfl (xN rfl rfl _) (lB rfl)]
 have k0 := @KY.eq_1; have f0 := @GH.eq_1; have g0 := Ar; have g1 := C2; have t0 := VH
 exact gs
theorem Ec : ∀ (c : A2) (list : List Int), Ok (Fb c list) Uz (dn AG GU [.lp [.sl false (c.xb.map (rK .u8)), .v (.int .i64 c.xi), .v (.int .i64 c.xh)] 0, .t (.sl false (list.map rI))]) := by
 intro c list
 rw [A9 AG (fn := Mg) rfl (xN rfl rfl _) (lB rfl)]
 have k0 := @Mg.eq_1; have f0 := @Fb.eq_1; have g0 := Ar
 exact gs
theorem ZP : ∀ (c : A2), Ok (Nx c) Sy (dn AG Sg [.lp [.sl false (c.xb.map (rK .u8)), .v (.int .i64 c.xi), .v (.int .i64 c.xh)] 0]) := by
 intro c
 rw [A9 AG (fn := Km) rfl (xN rfl rfl _) (lB rfl)]
 have k0 := @Km.eq_1; have f0 := @Nx.eq_1; have g0 := BM
 exact gs
theorem TN : ∀ (c : A2), Ok (NR c) V0 (dn AG Ui [.lp [.sl false (c.xb.map (rK .u8)), .v (.int .i64 c.xi), .v (.int .i64 c.xh)] 0]) := by
 intro c
 rw [A9 AG (fn := Mk) rfl (xN rfl rfl _) (lB rfl)]
 have k0 := @Mk.eq_1; have f0 := @NR.eq_1; have g0 := C2; have g1 := ZP; have g2 := BM
 exact gs
theorem TO : ∀ (c : A2), Ok (NS c) V1 (dn AG Uj [.lp [.sl false (c.xb.map (rK .u8)), .v (.int .i64 c.xi), .v (.int .i64 c.xh)] 0]) := by
 intro c
 rw [A9 AG (fn := Mm) rfl (xN rfl rfl _) (lB rfl)]
 have k0 := @Mm.eq_1; have f0 := @NS.eq_1; have g0 := R5; have g1 := Ar; have g2 := BM; have g3 := R4
 exact gs
theorem Ts : ∀ (s2 : ByteArray) (c3 : A2), Ok (DE s2 c3) LA (ev AG OV (.loop Il) [.lv 2, .th Fu] (Ba (List.replicate 27 .dead) [(0, .ptr (0, 0) [] 0 0 1 0), (3, .t (.v (.string s2)))]) (Bb (List.replicate 27 []) [(0, [.mem [[.sl false (c3.xb.map (rK .u8)), .v (.int .i64 c3.xi), .v (.int .i64 c3.xh)]] 0 true])])) := by
 unfold Ok
 refine DE.partial_correctness _ ?_
 intro F ih s2 c3
 show Ok _ _ _
 have ih : ∀ (s2 : ByteArray) (c3 : A2), Ok (F s2 c3) _ _ := ih
 rw [AX]
 have k0 := @Il.eq_1; have k1 := @Fu.eq_1; have g0 := Ec; have t0 := ih
 exact gs
theorem VI : ∀ (s1 : ByteArray) (i : Int) (c2 : A2), Ok (Ds s1 i c2) LA (ev AG OV (.loop K4) [.lv 0, .th K5] (Ba (List.replicate 27 .dead) [(0, .ptr (0, 0) [] 0 0 1 0), (3, .t (.v (.string s1))), (4, .t (.v (.int .i64 i)))]) (Bb (List.replicate 27 []) [(0, [.mem [[.sl false (c2.xb.map (rK .u8)), .v (.int .i64 c2.xi), .v (.int .i64 c2.xh)]] 0 true])])) := by
 unfold Ok
 refine Ds.partial_correctness _ ?_
 intro F ih s1 i c2
 show Ok _ _ _
 have ih : ∀ (s1 : ByteArray) (i : Int) (c2 : A2), Ok (F s1 i c2) _ _ := ih
 rw [AX]
 have k0 := @K4.eq_1; have k1 := @Fu.eq_1; have k2 := @K5.eq_1; have g0 := BM; have g1 := C2; have t0 := ih; have t1 := Ts
 exact gs
theorem RA : ∀ (c : A2), Ok (I2 c) LA (dn AG KN [.lp [.sl false (c.xb.map (rK .u8)), .v (.int .i64 c.xi), .v (.int .i64 c.xh)] 0]) := by
 intro c
 rw [A9 AG (fn := Ke) rfl (xN rfl rfl _) (lB rfl)]
 have k0 := @Ke.eq_1; have f0 := @I2.eq_1; have g0 := Ar; have t0 := VI
 exact gs
theorem Tt (k : Int) (r : A0 × A2) : ∀ (i : Int) (c1 : A2) (nKids : List (A0)), Ok (Cg k i c1 r nKids) CJ (ev AG Eb (.loop EB) [.lv 3, .lv 2, .th BO] (Ba (List.replicate 260 .dead) [(0, .ptr (0, 0) [] 0 0 1 0), (2, .ptr (2, 0) [] 0 0 1 0), (3, .ptr (3, 0) [] 0 0 1 0), (4, .t (.v (.int .i64 k))), (5, .t (.v (.int .i64 i)))]) (Bb (List.replicate 260 []) [(0, [.mem [[.sl false (c1.xb.map (rK .u8)), .v (.int .i64 c1.xi), .v (.int .i64 c1.xh)]] 0 true]), (2, [.mem [[.v (.int .i64 0), .v (.string (⟨#[]⟩)), .v (.string (⟨#[]⟩)), .v (.string (⟨#[]⟩)), .sl true [], .sl true [], .sl true [], .v (.string (⟨#[]⟩))]] 0 false]), (3, [.mem [[.v (.int .i64 r.1.Kind), .v (.string r.1.Pre), .v (.string r.1.Local), .v (.string r.1.Uri), .sl true (r.1.Decls.map A1.row), .sl true (r.1.Attrs.map A3.row), .sl true (nKids.map (A0.row false)), .v (.string r.1.Text)]] 0 false])])) := by
 unfold Ok
 refine Cg.partial_correctness k r _ ?_
 intro F ih i c1 nKids
 show Ok _ _ _
 have ih : ∀ (i : Int) (c1 : A2) (nKids : List (A0)), Ok (F i c1 nKids) _ _ := ih
 rw [AX]
 have k0 := @EB.eq_1; have k1 := @BO.eq_1; have g0 := Ec; have t0 := ih
 exact gs
end TT
