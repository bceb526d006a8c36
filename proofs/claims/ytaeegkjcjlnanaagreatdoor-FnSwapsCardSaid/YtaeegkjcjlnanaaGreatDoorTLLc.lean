import Derived.Test.YtaeegkjcjlnanaaGreatDoorTLLb
set_option maxHeartbeats 2000000
set_option linter.unusedVariables false
set_option linter.unusedSimpArgs false
set_option linter.defProp false
set_option maxRecDepth 100000
namespace TT
open Go
open Nat (reduceAdd reduceSub reduceMul reduceLeDiff reduceLT reduceEqDiff)
theorem dB : ∀ (s : ByteArray), Ok (Hv s) VM (dn AF VB [.t (.v (.string s))]) := by
 intro s
 rw [A9 AF (fn := N7) rfl (xN rfl rfl _) (lB rfl)]
 have k0 := @N7.eq_1; have f0 := @Hv.eq_1
 exact gs
theorem YJ : ∀ (n : Int), Ok (ET n) RP (dn AF RB [.t (.v (.int .i64 n))]) := by
 intro n
 rw [A9 AF (fn := JR) rfl (xN rfl rfl _) (lB rfl)]
 have k0 := @JR.eq_1; have f0 := @ET.eq_1
 exact gs
theorem Sj : ∀ (a : A4), Ok (D4 a) MJ (ev AF QU Hs [] (BZ (List.replicate 46 .dead) [(1, .ptr (1, 0) [] 0 0 1 0)]) (Ba (List.replicate 46 []) [(1, [.mem [[.v (.string a.Pre), .v (.string a.Local), .v (.string a.Uri), .v (.string a.Val)]] 0 false])])) := by
 intro a
 have k0 := @Hs.eq_1; have f0 := @D4.eq_1; have g0 := Ny
 exact gs
theorem Wt : ∀ (a : A4), Ok (Df a) MJ (dn AF QR [.agg ((A4.row a).map .t)]) := by
 intro a
 rw [A9 AF (fn := Hh) rfl (xN rfl rfl _) (lB rfl)]
 have k0 := @Hh.eq_1; have f0 := @Df.eq_1; have g0 := Tm; have g1 := Ho; have t0 := Sj
 exact gs
theorem Va (n : A0) : ∀ (i : Int), Ok (B6 i n) NH (ev AF QF (.loop KR) [.lv 1, .th KS, .lv 0, .th Hg] (BZ (List.replicate 195 .dead) [(1, .ptr (1, 0) [] 0 0 1 0), (3, .t (.v (.int .i64 i)))]) (Ba (List.replicate 195 []) [(1, [.mem [[.v (.int .i64 n.Kind), .v (.string n.Pre), .v (.string n.Local), .v (.string n.Uri), .sl false (n.Decls.map A1.row), .sl false (n.Attrs.map A4.row), .sl false (n.Kids.map (A0.row false)), .v (.string n.Text)]] 0 false])])) := by
 unfold Ok
 refine B6.partial_correctness n _ ?_
 intro F ih i
 show Ok _ _ _
 have ih : ∀ (i : Int), Ok (F i) _ _ := ih
 rw [AZ]
 have k0 := @KR.eq_1; have k1 := @KS.eq_1; have g0 := Wt; have g1 := Ri; have t0 := ih
 exact gs
theorem Wu : ∀ (n : A0), Ok (Dg n) NH (ev AF QF MF [.lv 0, .th Hg] (BZ (List.replicate 195 .dead) [(1, .ptr (1, 0) [] 0 0 1 0)]) (Ba (List.replicate 195 []) [(1, [.mem [[.v (.int .i64 n.Kind), .v (.string n.Pre), .v (.string n.Local), .v (.string n.Uri), .sl false (n.Decls.map A1.row), .sl false (n.Attrs.map A4.row), .sl false (n.Kids.map (A0.row false)), .v (.string n.Text)]] 0 false])])) := by
 intro n
 have k0 := @MF.eq_1; have f0 := @Dg.eq_1; have t0 := Va
 exact gs
theorem dC : ∀ (n : A0), Ok (By n) NH (dn AF V9 [.agg (((A0.row false) n).map .t)]) := by
 intro n
 rw [A9 AF (fn := N4) rfl (xN rfl rfl _) (lB rfl)]
 have k0 := @N4.eq_1; have k1 := @Hg.eq_1; have f0 := @By.eq_1; have g0 := Tm; have g1 := Ho; have g2 := Ny; have g3 := YI; have g4 := a7; have g5 := dA; have g6 := dB; have g7 := YJ; have t0 := Wu
 exact gs
theorem dD : (∀ (l : List A0) (deep : Int), Ok (Ab l deep) HN (dn AF HE [.t (.sl false (l.map (A0.row false))), .t (.v (.int .i64 deep))])) ∧
  (∀ (l : List A0) (deep : Int) (i : Int), Ok (Ah l deep i) HN (ev AF Oq (.loop Gn) [.lv 0, .th Gp] (BZ (List.replicate 53 .dead) [(0, .t (.sl false (l.map (A0.row false)))), (1, .t (.v (.int .i64 deep))), (5, .t (.v (.int .i64 i)))]) (Ba (List.replicate 53 []) []))) ∧
  (∀ (l : List A0) (deep : Int) (i : Int) (x2 : A0), Ok (Aw l deep i x2) HN (ev AF Oq J0 [.lv 1, .th J1, .hk [.clean [6]], .th (.loop Gn), .lv 0, .th Gp] (BZ (List.replicate 53 .dead) [(0, .t (.sl false (l.map (A0.row false)))), (1, .t (.v (.int .i64 deep))), (5, .t (.v (.int .i64 i))), (6, .ptr (6, 0) [] 0 0 1 0)]) (Ba (List.replicate 53 []) [(6, [.mem [[.v (.int .i64 x2.Kind), .v (.string x2.Pre), .v (.string x2.Local), .v (.string x2.Uri), .sl false (x2.Decls.map A1.row), .sl false (x2.Attrs.map A4.row), .sl false (x2.Kids.map (A0.row false)), .v (.string x2.Text)]] 0 false])]))) := by
 unfold Ok
 refine Ab.mutual_partial_correctness _ _ _ ?_ ?_ ?_
 ·intro F1 ih1 l deep
  show Ok _ _ _
  have ih1 : ∀ (l : List A0) (deep : Int) (i : Int), Ok (F1 l deep i) _ _ := ih1
  rw [A9 AF (fn := L4) rfl (xN rfl rfl _) (lB rfl)]
  have k0 := @L4.eq_1; have t0 := ih1
  exact gs
 ·intro F2 ih2 l deep i
  show Ok _ _ _
  have ih2 : ∀ (l : List A0) (deep : Int) (i : Int) (x2 : A0), Ok (F2 l deep i x2) _ _ := ih2
  rw [AZ]
  have k0 := @Gn.eq_1; have k1 := @Gp.eq_1; have g0 := dC; have t0 := ih2
  exact gs
 ·intro F0 F1 ih0 ih1 l deep i x2
  show Ok _ _ _
  have ih0 : ∀ (l : List A0) (deep : Int), Ok (F0 l deep) _ _ := ih0
  have ih1 : ∀ (l : List A0) (deep : Int) (i : Int), Ok (F1 l deep i) _ _ := ih1
  have k0 := @J0.eq_1; have k1 := @J1.eq_1; have g0 := ih0; have t0 := ih1
  exact gs
theorem Rk (l : List A0) (deep : Int) : Ok (Ab l deep) HN (dn AF HE [.t (.sl false (l.map (A0.row false))), .t (.v (.int .i64 deep))]) := dD.1 l deep
theorem Vb (n : A0) : (∀ (k2 : Int) (i : Int), Ok (Bk k2 i n) LS (ev AF Ot Ip [.lv 1, .th Iq, .hk [.clean []], .th (.loop G2), .lv 0, .th G3] (BZ (List.replicate 76 .dead) [(1, .ptr (1, 0) [] 0 0 1 0), (3, .t (.v (.int .i64 k2))), (4, .t (.v (.int .i64 i)))]) (Ba (List.replicate 76 []) [(1, [.mem [[.v (.int .i64 n.Kind), .v (.string n.Pre), .v (.string n.Local), .v (.string n.Uri), .sl false (n.Decls.map A1.row), .sl false (n.Attrs.map A4.row), .sl false (n.Kids.map (A0.row false)), .v (.string n.Text)]] 0 false])]))) ∧
  (∀ (k1 : Int) (i : Int), Ok (AP k1 i n) LS (ev AF Ot (.loop G2) [.lv 0, .th G3] (BZ (List.replicate 76 .dead) [(1, .ptr (1, 0) [] 0 0 1 0), (3, .t (.v (.int .i64 k1))), (4, .t (.v (.int .i64 i)))]) (Ba (List.replicate 76 []) [(1, [.mem [[.v (.int .i64 n.Kind), .v (.string n.Pre), .v (.string n.Local), .v (.string n.Uri), .sl false (n.Decls.map A1.row), .sl false (n.Attrs.map A4.row), .sl false (n.Kids.map (A0.row false)), .v (.string n.Text)]] 0 false])]))) := by
 unfold Ok
 refine Bk.mutual_partial_correctness n _ _ ?_ ?_
 ·intro F1 ih1 k2 i
  show Ok _ _ _
  have ih1 : ∀ (k1 : Int) (i : Int), Ok (F1 k1 i) _ _ := ih1
  have k0 := @Ip.eq_1; have k1 := @Iq.eq_1; have t0 := ih1
  exact gs
 ·intro F0 ih0 k1 i
  show Ok _ _ _
  have ih0 : ∀ (k2 : Int) (i : Int), Ok (F0 k2 i) _ _ := ih0
  rw [AZ]
  have k0 := @G2.eq_1; have k1 := @G3.eq_1; have g0 := Rk; have t0 := ih0
  exact gs
theorem Rl : ∀ (n : A0), Ok (CG n) LS (dn AF Oe [.agg (((A0.row false) n).map .t)]) := by
 intro n
 rw [A9 AF (fn := Kr) rfl (xN rfl rfl _) (lB rfl)]
 have k0 := @Kr.eq_1; have f0 := @CG.eq_1; have g0 := YG; have g1 := Rk; have t0 := fun a0 => (Vb a0).2
 exact gs
theorem dE : (∀ (n : A0) (l : List A1), Ok (Cj n l) Fw (dn AF Kg [.agg (((A0.row false) n).map .t), .t (.sl false (l.map A1.row))])) ∧
  (∀ (r : List A1) (n : A0), Ok (E1 r n) Fw (ev AF LU KK [] (BZ (List.replicate 88 .dead) [(2, .ptr (2, 0) [] 0 0 1 0), (5, .ref (15, 0) r.length)]) (Ba (List.replicate 88 []) [(2, [.mem [[.v (.int .i64 n.Kind), .v (.string n.Pre), .v (.string n.Local), .v (.string n.Uri), .sl false (n.Decls.map A1.row), .sl false (n.Attrs.map A4.row), .sl false (n.Kids.map (A0.row false)), .v (.string n.Text)]] 0 false]), (15, [.mem (r.map A1.row) 0 false])]))) ∧
  (∀ (r : List A1) (i1 : Int) (n : A0), Ok (B4 r i1 n) Fw (ev AF LU (.loop J3) [.lv 0, .th J6] (BZ (List.replicate 88 .dead) [(2, .ptr (2, 0) [] 0 0 1 0), (5, .ref (15, 0) r.length), (8, .t (.v (.int .i64 i1)))]) (Ba (List.replicate 88 []) [(2, [.mem [[.v (.int .i64 n.Kind), .v (.string n.Pre), .v (.string n.Local), .v (.string n.Uri), .sl false (n.Decls.map A1.row), .sl false (n.Attrs.map A4.row), .sl false (n.Kids.map (A0.row false)), .v (.string n.Text)]] 0 false]), (15, [.mem (r.map A1.row) 0 false])]))) ∧
  (∀ (r : List A1) (i2 : Int) (n : A0), Ok (Ax r i2 n) Fw (ev AF LU (.loop J4) [.lv 2, .th J5] (BZ (List.replicate 88 .dead) [(2, .ptr (2, 0) [] 0 0 1 0), (5, .ref (15, 0) r.length), (11, .t (.v (.int .i64 i2)))]) (Ba (List.replicate 88 []) [(2, [.mem [[.v (.int .i64 n.Kind), .v (.string n.Pre), .v (.string n.Local), .v (.string n.Uri), .sl false (n.Decls.map A1.row), .sl false (n.Attrs.map A4.row), .sl false (n.Kids.map (A0.row false)), .v (.string n.Text)]] 0 false]), (15, [.mem (r.map A1.row) 0 false])]))) := by
 unfold Ok
 refine Cj.mutual_partial_correctness _ _ _ _ ?_ ?_ ?_ ?_
 ·intro F1 ih1 n l
  show Ok _ _ _
  have ih1 : ∀ (r : List A1) (n : A0), Ok (F1 r n) _ _ := ih1
  rw [A9 AF (fn := L5) rfl (xN rfl rfl _) (lB rfl)]
  have k0 := @L5.eq_1; have g0 := Tj; have g1 := Hm; have t0 := ih1
  exact gs
 ·intro F2 ih2 r n
  show Ok _ _ _
  have ih2 : ∀ (r : List A1) (i1 : Int) (n : A0), Ok (F2 r i1 n) _ _ := ih2
  have k0 := @KK.eq_1; have t0 := ih2
  exact gs
 ·intro F2 F3 ih2 ih3 r i1 n
  show Ok _ _ _
  have ih2 : ∀ (r : List A1) (i1 : Int) (n : A0), Ok (F2 r i1 n) _ _ := ih2
  have ih3 : ∀ (r : List A1) (i2 : Int) (n : A0), Ok (F3 r i2 n) _ _ := ih3
  rw [AZ]
  have k0 := @J3.eq_1; have k1 := @J6.eq_1; have g0 := Hm; have t0 := ih2; have t1 := ih3
  exact gs
 ·intro F0 F3 ih0 ih3 r i2 n
  show Ok _ _ _
  have ih0 : ∀ (n : A0) (l : List A1), Ok (F0 n l) _ _ := ih0
  have ih3 : ∀ (r : List A1) (i2 : Int) (n : A0), Ok (F3 r i2 n) _ _ := ih3
  rw [AZ]
  have k0 := @J4.eq_1; have k1 := @J5.eq_1; have g0 := ih0; have t0 := ih3
  exact gs
theorem a8 (n : A0) (l : List A1) : Ok (Cj n l) Fw (dn AF Kg [.agg (((A0.row false) n).map .t), .t (.sl false (l.map A1.row))]) := dE.1 n l
theorem Nz : ∀ (n : A0), Ok (Bz n) TO (dn AF Kh [.agg (((A0.row false) n).map .t)]) := by
 intro n
 rw [A9 AF (fn := Ks) rfl (xN rfl rfl _) (lB rfl)]
 have k0 := @Ks.eq_1; have f0 := @Bz.eq_1; have g0 := Rl; have g1 := a8
 exact gs
theorem UI : ∀ (r3 : Bool × A2) (nKids1 : List (A0)), Ok (EJ r3 nKids1) LV (ev AF Ou Ir [] (BZ (List.replicate 42 .dead) [(2, .ptr (2, 0) [] 0 0 1 0), (4, .ptr (4, 0) [] 0 0 1 0)]) (Ba (List.replicate 42 []) [(0, [.mem [[.sl false (r3.2.xb.map (rK .u8)), .v (.int .i64 r3.2.xi), .v (.int .i64 r3.2.xh)]] 0 true]), (2, [.mem [[.v (.int .i64 0), .v (.string (⟨#[]⟩)), .v (.string (⟨#[]⟩)), .v (.string (⟨#[]⟩)), .sl true [], .sl true [], .sl true [], .v (.string (⟨#[]⟩))]] 0 false]), (4, [.mem [[.v (.int .i64 0), .v (.string (⟨#[]⟩)), .v (.string (⟨#[]⟩)), .v (.string (⟨#[]⟩)), .sl true [], .sl true [], .sl true (nKids1.map (A0.row true)), .v (.string (⟨#[]⟩))]] 0 false])])) := by
 intro r3 nKids1
 have k0 := @Ir.eq_1; have f0 := @EJ.eq_1; have g0 := Nz
 exact gs
theorem Vc : ∀ (r1 : Bool × A2) (r : Int × A2) (nKids : List (A0)), Ok (FQ r1 r nKids) LV (ev AF Ou K9 [] (BZ (List.replicate 42 .dead) [(0, .ptr (0, 0) [] 0 0 1 0), (2, .ptr (2, 0) [] 0 0 1 0), (3, .ptr (3, 0) [] 0 0 1 0), (4, .ptr (4, 0) [] 0 0 1 0)]) (Ba (List.replicate 42 []) [(0, [.mem [[.sl false (r1.2.xb.map (rK .u8)), .v (.int .i64 r1.2.xi), .v (.int .i64 r1.2.xh)]] 0 true]), (2, [.mem [[.v (.int .i64 0), .v (.string (⟨#[]⟩)), .v (.string (⟨#[]⟩)), .v (.string (⟨#[]⟩)), .sl true [], .sl true [], .sl true [], .v (.string (⟨#[]⟩))]] 0 false]), (3, [.mem [[.v (.int .i64 (AY 3 r.1))]] 0 false]), (4, [.mem [[.v (.int .i64 0), .v (.string (⟨#[]⟩)), .v (.string (⟨#[]⟩)), .v (.string (⟨#[]⟩)), .sl true [], .sl true [], .sl true (nKids.map (A0.row true)), .v (.string (⟨#[]⟩))]] 0 false])])) := by
 intro r1 r nKids
 have k0 := @K9.eq_1; have f0 := @FQ.eq_1; have g0 := VY; have g1 := Bf; have t0 := UI
 exact gs
theorem O0 : ∀ (c : A2), Ok (GU c) LV (dn AF Oi [.lp [.sl false (c.xb.map (rK .u8)), .v (.int .i64 c.xi), .v (.int .i64 c.xh)] 0]) := by
 intro c
 rw [A9 AF (fn := Ku) rfl (xN rfl rfl _) (lB rfl)]
 have k0 := @Ku.eq_1; have f0 := @GU.eq_1; have g0 := Ad; have g1 := Bf; have t0 := Vc
 exact gs
theorem Fx : ∀ (c : A2) (list : List Int), Ok (GV c list) VN (dn AF Ig [.lp [.sl false (c.xb.map (rK .u8)), .v (.int .i64 c.xi), .v (.int .i64 c.xh)] 0, .t (.sl false (list.map rI))]) := by
 intro c list
 rw [A9 AF (fn := Mu) rfl (xN rfl rfl _) (lB rfl)]
 have k0 := @Mu.eq_1; have f0 := @GV.eq_1; have g0 := Ad
 exact gs
theorem aA : ∀ (c : A2), Ok (OK c) TP (dn AF TB [.lp [.sl false (c.xb.map (rK .u8)), .v (.int .i64 c.xi), .v (.int .i64 c.xh)] 0]) := by
 intro c
 rw [A9 AF (fn := LA) rfl (xN rfl rfl _) (lB rfl)]
 have k0 := @LA.eq_1; have f0 := @OK.eq_1; have g0 := Ay
 exact gs
theorem Tn : ∀ (c : A2), Ok (Nh c) VO (dn AF V7 [.lp [.sl false (c.xb.map (rK .u8)), .v (.int .i64 c.xi), .v (.int .i64 c.xh)] 0]) := by
 intro c
 rw [A9 AF (fn := Mv) rfl (xN rfl rfl _) (lB rfl)]
 have k0 := @Mv.eq_1; have f0 := @Nh.eq_1; have g0 := Bf; have g1 := aA; have g2 := Ay
 exact gs
theorem To : ∀ (c : A2), Ok (Ni c) VP (dn AF V8 [.lp [.sl false (c.xb.map (rK .u8)), .v (.int .i64 c.xi), .v (.int .i64 c.xh)] 0]) := by
 intro c
 rw [A9 AF (fn := Mx) rfl (xN rfl rfl _) (lB rfl)]
 have k0 := @Mx.eq_1; have f0 := @Ni.eq_1; have g0 := Rh; have g1 := Ad; have g2 := Ay; have g3 := Rg
 exact gs
theorem UJ : ∀ (s2 : ByteArray) (c3 : A2), Ok (DO s2 c3) LW (ev AF Ov (.loop J7) [.lv 2, .th G5] (BZ (List.replicate 27 .dead) [(0, .ptr (0, 0) [] 0 0 1 0), (3, .t (.v (.string s2)))]) (Ba (List.replicate 27 []) [(0, [.mem [[.sl false (c3.xb.map (rK .u8)), .v (.int .i64 c3.xi), .v (.int .i64 c3.xh)]] 0 true])])) := by
 unfold Ok
 refine DO.partial_correctness _ ?_
 intro F ih s2 c3
 show Ok _ _ _
 have ih : ∀ (s2 : ByteArray) (c3 : A2), Ok (F s2 c3) _ _ := ih
 rw [AZ]
 have k0 := @J7.eq_1; have k1 := @G5.eq_1; have g0 := Fx; have t0 := ih
 exact gs
theorem Vd : ∀ (s1 : ByteArray) (i : Int) (c2 : A2), Ok (E2 s1 i c2) LW (ev AF Ov (.loop KL) [.lv 0, .th KM] (BZ (List.replicate 27 .dead) [(0, .ptr (0, 0) [] 0 0 1 0), (3, .t (.v (.string s1))), (4, .t (.v (.int .i64 i)))]) (Ba (List.replicate 27 []) [(0, [.mem [[.sl false (c2.xb.map (rK .u8)), .v (.int .i64 c2.xi), .v (.int .i64 c2.xh)]] 0 true])])) := by
 unfold Ok
 refine E2.partial_correctness _ ?_
 intro F ih s1 i c2
 show Ok _ _ _
 have ih : ∀ (s1 : ByteArray) (i : Int) (c2 : A2), Ok (F s1 i c2) _ _ := ih
 rw [AZ]
 have k0 := @KL.eq_1; have k1 := @G5.eq_1; have k2 := @KM.eq_1; have g0 := Ay; have g1 := Bf; have t0 := ih; have t1 := UJ
 exact gs
theorem Rm : ∀ (c : A2), Ok (ID c) LW (dn AF Ki [.lp [.sl false (c.xb.map (rK .u8)), .v (.int .i64 c.xi), .v (.int .i64 c.xh)] 0]) := by
 intro c
 rw [A9 AF (fn := L6) rfl (xN rfl rfl _) (lB rfl)]
 have k0 := @L6.eq_1; have f0 := @ID.eq_1; have g0 := Ad; have t0 := Vd
 exact gs
theorem UK (k : Int) (r : A0 × A2) : ∀ (i : Int) (c1 : A2) (nKids : List (A0)), Ok (Ck k i c1 r nKids) CQ (ev AF Eo (.loop EP) [.lv 3, .lv 2, .th BQ] (BZ (List.replicate 260 .dead) [(0, .ptr (0, 0) [] 0 0 1 0), (2, .ptr (2, 0) [] 0 0 1 0), (3, .ptr (3, 0) [] 0 0 1 0), (4, .t (.v (.int .i64 k))), (5, .t (.v (.int .i64 i)))]) (Ba (List.replicate 260 []) [(0, [.mem [[.sl false (c1.xb.map (rK .u8)), .v (.int .i64 c1.xi), .v (.int .i64 c1.xh)]] 0 true]), (2, [.mem [[.v (.int .i64 0), .v (.string (⟨#[]⟩)), .v (.string (⟨#[]⟩)), .v (.string (⟨#[]⟩)), .sl true [], .sl true [], .sl true [], .v (.string (⟨#[]⟩))]] 0 false]), (3, [.mem [[.v (.int .i64 r.1.Kind), .v (.string r.1.Pre), .v (.string r.1.Local), .v (.string r.1.Uri), .sl true (r.1.Decls.map A1.row), .sl true (r.1.Attrs.map A4.row), .sl true (nKids.map (A0.row false)), .v (.string r.1.Text)]] 0 false])])) := by
 unfold Ok
 refine Ck.partial_correctness k r _ ?_
 intro F ih i c1 nKids
 show Ok _ _ _
 have ih : ∀ (i : Int) (c1 : A2) (nKids : List (A0)), Ok (F i c1 nKids) _ _ := ih
 rw [AZ]
 have k0 := @EP.eq_1; have k1 := @BQ.eq_1; have g0 := Fx; have t0 := ih
 exact gs
end TT
