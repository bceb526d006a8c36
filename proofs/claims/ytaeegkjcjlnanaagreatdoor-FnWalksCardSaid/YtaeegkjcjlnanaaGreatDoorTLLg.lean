import Derived.Test.YtaeegkjcjlnanaaGreatDoorTLLf
set_option maxHeartbeats 2000000
set_option linter.unusedVariables false
set_option linter.unusedSimpArgs false
set_option linter.defProp false
set_option maxRecDepth 100000
namespace TT
open Go
open Nat (reduceAdd reduceSub reduceMul reduceLeDiff reduceLT reduceEqDiff)
theorem Ze : ∀ (n : A0) (l : List (A1)), Ok (O0 n l) TF (dn AG OE [.agg (((A0.row false) n).map .t), .t (.sl false (l.map A1.row))]) := by
 intro n l r hr
 refine MT AG.ft (SL AG) ?_
 have hp : ∀ k : List (A1), HG (k.map A1.row) = some (k.map fun x => (x.Pre, x.Uri)) := fun k => by
  induction k with
  | nil => rfl
  | cons x k ih => show (HG (k.map A1.row)).map _ = _; rw [ih]; rfl
 show Z0 [.agg (((A0.row false) n).map .t), .t (.sl false (l.map A1.row))] = some ⟨[.t (.v (.bool r))], []⟩
 have hr' : LN ((A0.row false) n) (l.map fun x => (x.Pre, x.Uri)) = some r := hr
 rw [Z0, oU, hp]
 simp only [hr', Option.map_some]
theorem Zf : ∀ (n : A0), Ok (LR n) TG (dn AG ST [.agg (((A0.row false) n).map .t)]) := by
 intro n
 rw [A9 AG (fn := KV) rfl (xN rfl rfl _) (lB rfl)]
 have k0 := @KV.eq_1; have f0 := @LR.eq_1; have g0 := Zd; have g1 := Ze
 exact gs
theorem Je : ∀ (w : A8), Ok (Da w) TH (dn AG Gy [.agg (((A8.row false) w).map .t)]) := by
 intro w
 rw [A9 AG (fn := KQ) rfl (xN rfl rfl _) (lB rfl)]
 have k0 := @KQ.eq_1; have f0 := @Da.eq_1; have g0 := RG; have g1 := Zf
 exact gs
theorem U3 : ∀ (w : A8) (path : List Int), Ok (N1 w path) dp (dn AG Rr [.agg (((A8.row false) w).map .t), .t (.sl false (path.map rI))]) := by
 intro w path
 rw [A9 AG (fn := Ru) rfl (xN rfl rfl _) (lB rfl)]
 have k0 := @Ru.eq_1; have f0 := @N1.eq_1; have g0 := Jd; have g1 := RG; have g2 := Je; have g3 := MM
 exact gs
theorem gb : ∀ (w : A8) (i : Int), Ok (I7 w i) XF (dn AG XB [.agg (((A8.row false) w).map .t), .t (.v (.int .i64 i))]) := by
 intro w i
 rw [A9 AG (fn := Ns) rfl (xN rfl rfl _) (lB rfl)]
 have k0 := @Ns.eq_1; have f0 := @I7.eq_1; have g0 := RD; have g1 := U3
 exact gs
theorem Q7 : ∀ (path : List Int) (i : Int), Ok (Gi path i) R1 (dn AG NM [.t (.sl false (path.map rI)), .t (.v (.int .i64 i))]) := by
 intro path i
 rw [A9 AG (fn := IW) rfl (xN rfl rfl _) (lB rfl)]
 have k0 := @IW.eq_1; have f0 := @Gi.eq_1
 exact gs
theorem M2 : ∀ (w : A8), Ok (EM w) R2 (dn AG IT [.agg (((A8.row false) w).map .t)]) := by
 intro w
 rw [A9 AG (fn := IY) rfl (xN rfl rfl _) (lB rfl)]
 have k0 := @IY.eq_1; have f0 := @EM.eq_1; have g0 := Jb
 exact gs
theorem VO (path : List Int) : ∀ (i : Int) (x2 : A0), Ok (Dv path i x2) Oc (ev AG TI (.loop Jq) [.lv 0, .th Jr] (Ba (List.replicate 36 .dead) [(1, .t (.sl false (path.map rI))), (4, .ptr (4, 0) [] 0 0 1 0), (6, .ptr (6, 0) [] 0 0 1 0), (7, .t (.v (.int .i64 i)))]) (Bb (List.replicate 36 []) [(4, [.mem [[.v (.int .i64 0), .v (.string (⟨#[]⟩)), .v (.string (⟨#[]⟩)), .v (.string (⟨#[]⟩)), .sl true [], .sl true [], .sl true [], .v (.string (⟨#[]⟩))]] 0 false]), (6, [.mem [[.v (.int .i64 x2.Kind), .v (.string x2.Pre), .v (.string x2.Local), .v (.string x2.Uri), .sl false (x2.Decls.map A1.row), .sl false (x2.Attrs.map A3.row), .sl false (x2.Kids.map (A0.row false)), .v (.string x2.Text)]] 0 false])])) := by
 unfold Ok
 refine Dv.partial_correctness path _ ?_
 intro F ih i x2
 show Ok _ _ _
 have ih : ∀ (i : Int) (x2 : A0), Ok (F i x2) _ _ := ih
 rw [AX]
 have k0 := @Jq.eq_1; have k1 := @Jr.eq_1; have g0 := Jc; have g1 := Jb; have t0 := ih
 exact gs
theorem RN : ∀ (n : A0) (path : List Int), Ok (I8 n path) Oc (dn AG OJ [.agg (((A0.row false) n).map .t), .t (.sl false (path.map rI))]) := by
 intro n path
 rw [A9 AG (fn := KW) rfl (xN rfl rfl _) (lB rfl)]
 have k0 := @KW.eq_1; have f0 := @I8.eq_1; have t0 := VO
 exact gs
theorem Jf : ∀ (w : A8), Ok (FV w) TJ (dn AG H0 [.agg (((A8.row false) w).map .t)]) := by
 intro w
 rw [A9 AG (fn := KR) rfl (xN rfl rfl _) (lB rfl)]
 have k0 := @KR.eq_1; have f0 := @FV.eq_1; have g0 := RN; have g1 := R9
 exact gs
theorem Oh : ∀ (w : A8) (path : List Int), Ok (Hp w path) V6 (dn AG MZ [.agg (((A8.row false) w).map .t), .t (.sl false (path.map rI))]) := by
 intro w path
 rw [A9 AG (fn := Mh) rfl (xN rfl rfl _) (lB rfl)]
 have k0 := @Mh.eq_1; have f0 := @Hp.eq_1; have g0 := M2; have g1 := RN; have g2 := Jf
 exact gs
theorem gc : ∀ (w : A8) (i : Int), Ok (P9 w i) XG (dn AG XD [.agg (((A8.row false) w).map .t), .t (.v (.int .i64 i))]) := by
 intro w i
 rw [A9 AG (fn := Nt) rfl (xN rfl rfl _) (lB rfl)]
 have k0 := @Nt.eq_1; have f0 := @P9.eq_1; have g0 := Q7; have g1 := Oh
 exact gs
theorem TP : ∀ (w : A8) (by1 : Int), Ok (EZ w by1) V7 (dn AG PY [.agg (((A8.row false) w).map .t), .t (.v (.int .i64 by1))]) := by
 intro w by1
 rw [A9 AG (fn := Mi) rfl (xN rfl rfl _) (lB rfl)]
 have k0 := @Mi.eq_1; have f0 := @EZ.eq_1; have g0 := Jd; have g1 := Je; have g2 := RD; have g3 := U3
 exact gs
theorem cN : ∀ (w : A8), Ok (Fc w) V8 (dn AG Ud [.agg (((A8.row false) w).map .t)]) := by
 intro w
 rw [A9 AG (fn := Ma) rfl (xN rfl rfl _) (lB rfl)]
 have k0 := @Ma.eq_1; have f0 := @Fc.eq_1; have g0 := TP
 exact gs
theorem Xv : ∀ (w : A8) (by1 : Int), Ok (JS w by1) R3 (dn AG Qj [.agg (((A8.row false) w).map .t), .t (.v (.int .i64 by1))]) := by
 intro w by1
 rw [A9 AG (fn := IX) rfl (xN rfl rfl _) (lB rfl)]
 have k0 := @IX.eq_1; have f0 := @JS.eq_1; have g0 := M2; have g1 := Jf; have g2 := Q7; have g3 := Oh
 exact gs
theorem cO : ∀ (w : A8), Ok (NT w) V9 (dn AG Ug [.agg (((A8.row false) w).map .t)]) := by
 intro w
 rw [A9 AG (fn := Mb) rfl (xN rfl rfl _) (lB rfl)]
 have k0 := @Mb.eq_1; have f0 := @NT.eq_1; have g0 := Xv
 exact gs
theorem Zg : ∀ (w : A8), Ok (HZ w) dq (dn AG Vx [.agg (((A8.row false) w).map .t)]) := by
 intro w
 rw [A9 AG (fn := Rs) rfl (xN rfl rfl _) (lB rfl)]
 have k0 := @Rs.eq_1; have f0 := @HZ.eq_1; have g0 := Jd; have g1 := U3
 exact gs
theorem mB : ∀ (w : A8), Ok (Uo w) dt (dn AG dl [.agg (((A8.row false) w).map .t)]) := by
 intro w
 rw [A9 AG (fn := Rt) rfl (xN rfl rfl _) (lB rfl)]
 have k0 := @Rt.eq_1; have f0 := @Uo.eq_1; have g0 := M2; have g1 := Oh
 exact gs
theorem Oi (s1 : List A1) (s2 : List A1) : ∀ (x2 : Int), Ok (Aj s1 s2 x2) Gs (ev AG MK (.loop FC) [.lv 0, .th FD] (Ba (List.replicate 26 .dead) [(0, .t (.sl false (s1.map A1.row))), (1, .t (.sl false (s2.map A1.row))), (12, .t (.v (.int .i64 (AC s1)))), (13, .t (.v (.int .i64 x2)))]) (Bb (List.replicate 26 []) [])) := by
 unfold Ok
 refine Aj.partial_correctness s1 s2 _ ?_
 intro F ih x2
 show Ok _ _ _
 have ih : ∀ (x2 : Int), Ok (F x2) _ _ := ih
 rw [AX]
 have k0 := @FC.eq_1; have k1 := @FD.eq_1; have t0 := ih
 exact gs
theorem RO : ∀ (s1 : List A1) (s2 : List A1), Ok (EN s1 s2) Gs (dn AG M8 [.t (.sl false (s1.map A1.row)), .t (.sl false (s2.map A1.row))]) := by
 intro s1 s2
 rw [A9 AG (fn := El) rfl (xN rfl rfl _) (lB rfl)]
 have k0 := @El.eq_1; have f0 := @EN.eq_1; have t0 := Oi
 exact gs
theorem Oj (s1 : List A3) (s2 : List A3) : ∀ (x2 : Int), Ok (Ak s1 s2 x2) Gu (ev AG ML (.loop FE) [.lv 0, .th FF] (Ba (List.replicate 26 .dead) [(0, .t (.sl false (s1.map A3.row))), (1, .t (.sl false (s2.map A3.row))), (12, .t (.v (.int .i64 (AC s1)))), (13, .t (.v (.int .i64 x2)))]) (Bb (List.replicate 26 []) [])) := by
 unfold Ok
 refine Ak.partial_correctness s1 s2 _ ?_
 intro F ih x2
 show Ok _ _ _
 have ih : ∀ (x2 : Int), Ok (F x2) _ _ := ih
 rw [AX]
 have k0 := @FE.eq_1; have k1 := @FF.eq_1; have t0 := ih
 exact gs
theorem RP : ∀ (s1 : List A3) (s2 : List A3), Ok (EO s1 s2) Gu (dn AG M7 [.t (.sl false (s1.map A3.row)), .t (.sl false (s2.map A3.row))]) := by
 intro s1 s2
 rw [A9 AG (fn := Em) rfl (xN rfl rfl _) (lB rfl)]
 have k0 := @Em.eq_1; have f0 := @EO.eq_1; have t0 := Oj
 exact gs
theorem VP : ∀ (a : A0) (b : A0), Ok (GM a b) PD (dn AG P0 [.agg (((A0.row false) a).map .t), .agg (((A0.row false) b).map .t)]) := by
 intro a b
 rw [A9 AG (fn := GY) rfl (xN rfl rfl _) (lB rfl)]
 have k0 := @GY.eq_1; have f0 := @GM.eq_1; have g0 := RO; have g1 := RP
 exact gs
theorem Q8 : (∀ (a : A0) (b : A0), Ok (Ea a b) M0 (dn AG E3 [.agg (((A0.row false) a).map .t), .agg (((A0.row false) b).map .t)])) ∧
  (∀ (s1 : List A0) (s2 : List A0), Ok (Az s1 s2) BS (dn AG F8 [.t (.sl false (s1.map (A0.row false))), .t (.sl false (s2.map (A0.row false))), .fn E3 []])) ∧
  (∀ (s2 : List A0) (s1 : List A0) (x2 : Int), Ok (AK s2 s1 x2) BS (ev AG EU (.loop DI) [.lv 0, .th DJ] (Ba (List.replicate 32 .dead) [(1, .t (.sl false (s2.map (A0.row false)))), (2, .fn E3 []), (15, .t (.sl false (s1.map (A0.row false)))), (16, .t (.v (.int .i64 (AC s1)))), (17, .t (.v (.int .i64 x2)))]) (Bb (List.replicate 32 []) []))) := by
 unfold Ok
 refine Ea.mutual_partial_correctness _ _ _ ?_ ?_ ?_
 ·intro F1 ih1 a b
  show Ok _ _ _
  have ih1 : ∀ (s1 : List A0) (s2 : List A0), Ok (F1 s1 s2) _ _ := ih1
  rw [A9 AG (fn := HK) rfl (xN rfl rfl _) (lB rfl)]
  have k0 := @HK.eq_1; have g0 := VP; have g1 := ih1
  exact gs
 ·intro F2 ih2 s1 s2
  show Ok _ _ _
  have ih2 : ∀ (s2 : List A0) (s1 : List A0) (x2 : Int), Ok (F2 s2 s1 x2) _ _ := ih2
  rw [A9 AG (fn := D9) rfl (xN rfl rfl _) (lB rfl)]
  have k0 := @D9.eq_1; have t0 := ih2
  exact gs
 ·intro F0 F2 ih0 ih2 s2 s1 x2
  show Ok _ _ _
  have ih0 : ∀ (a : A0) (b : A0), Ok (F0 a b) _ _ := ih0
  have ih2 : ∀ (s2 : List A0) (s1 : List A0) (x2 : Int), Ok (F2 s2 s1 x2) _ _ := ih2
  rw [AX]
  have k0 := @DI.eq_1; have k1 := @DJ.eq_1; have g0 := ih0; have t0 := ih2
  exact gs
theorem We (a : A0) (b : A0) : Ok (Ea a b) M0 (dn AG E3 [.agg (((A0.row false) a).map .t), .agg (((A0.row false) b).map .t)]) := Q8.1 a b
end TT
