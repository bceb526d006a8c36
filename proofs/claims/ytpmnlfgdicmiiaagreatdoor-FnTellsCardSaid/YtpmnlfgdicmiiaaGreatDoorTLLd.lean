import Derived.Test.YtpmnlfgdicmiiaaGreatDoorTLLc
set_option maxHeartbeats 2000000
set_option linter.unusedVariables false
set_option linter.unusedSimpArgs false
set_option linter.defProp false
set_option maxRecDepth 100000
namespace TT
open Go
open Nat (reduceAdd reduceSub reduceMul reduceLeDiff reduceLT reduceEqDiff)
theorem WE : (∀ (n:A0),Ok (FW n) QD (dn AL L7 [.agg (((A0.row false) n).map .t)]))∧
  (∀(l:List A0),Ok (Mh l) KE (dn AL Nu [.t (.sl false (l.map (A0.row false)))]))∧
  (∀(out:List (A0)) (l:List A0) (x1:Int),Ok (Gf out l x1) KE (ev AL Uo (.loop KW) [.lv 0, .th KX] (BO (List.replicate 19 .dead) [(3, .ref (16,0) out.length),(6, .t (.sl false (l.map (A0.row false)))),(7, .t (.v (.int .i64 (AD l)))),(8, .t (.v (.int .i64 x1)))]) (BP (List.replicate 19 []) [(16,[.mem (out.map (A0.row true)) 0 false])]))):=by
 unfold Ok
 refine FW.mutual_partial_correctness _ _ _ ?_ ?_ ?_
 ·intro F1 ih1 n
  show Ok _ _ _
  have ih1:∀(l:List A0),Ok (F1 l) _ _:=ih1
  rw[AB AL (fn:=L8) rfl (xN rfl rfl _) (lB rfl)]
  have k0:= @L8.eq_1;have g0:=Yq;have g1:=Yr;have g2:=ih1
  exact gs
 ·intro F2 ih2 l
  show Ok _ _ _
  have ih2:∀(out:List (A0)) (l:List A0) (x1:Int),Ok (F2 out l x1) _ _:=ih2
  rw[AB AL (fn:=K8) rfl (xN rfl rfl _) (lB rfl)]
  have k0:= @K8.eq_1;have t0:=ih2
  exact gs
 ·intro F0 F2 ih0 ih2 out l x1
  show Ok _ _ _
  have ih0:∀(n:A0),Ok (F0 n) _ _:=ih0
  have ih2:∀(out:List (A0)) (l:List A0) (x1:Int),Ok (F2 out l x1) _ _:=ih2
  rw[AZ]
  have k0:= @KW.eq_1;have k1:= @KX.eq_1;have g0:=ih0;have t0:=ih2
  exact gs
theorem dz (n:A0):Ok (FW n) QD (dn AL L7 [.agg (((A0.row false) n).map .t)]):=WE.1 n
theorem yz (l:List A0):Ok (Mh l) KE (dn AL Nu [.t (.sl false (l.map (A0.row false)))]):=WE.2.1 l
theorem e9 (path:List Int):∀(x2:Int) (n1:A0),Ok (Gg path x2 n1) VG (ev AL ak (.loop Ps) [.lv 0, .th Pt] (BO (List.replicate 30 .dead) [(2, .ptr (2,0) [] 0 0 1 0),(4, .ptr (4,0) [] 0 0 1 0),(8, .t (.sl false (path.map rI))),(9, .t (.v (.int .i64 (AD path)))),(10, .t (.v (.int .i64 x2)))]) (BP (List.replicate 30 []) [(2,[.mem [[.v (.int .i64 n1.Kind), .v (.string n1.Pre), .v (.string n1.Local), .v (.string n1.Uri), .sl false (n1.Decls.map A2.row), .sl false (n1.Attrs.map A5.row), .sl false (n1.Kids.map (A0.row false)), .v (.string n1.Text)]] 0 false]),(4,[.mem [[.v (.int .i64 0), .v (.string (⟨#[]⟩)), .v (.string (⟨#[]⟩)), .v (.string (⟨#[]⟩)), .sl true [], .sl true [], .sl true [], .v (.string (⟨#[]⟩))]] 0 false])])):=by
 unfold Ok
 refine Gg.partial_correctness path _ ?_
 intro F ih x2 n1
 show Ok _ _ _
 have ih:∀(x2:Int) (n1:A0),Ok (F x2 n1) _ _:=ih
 rw[AZ]
 have k0:= @Ps.eq_1;have k1:= @Pt.eq_1;have g0:=QG;have g1:=dz;have t0:=ih
 exact gs
theorem Iv : ∀ (n:A0) (path:List Int),Ok (GB n path) VG (dn AL I3 [.agg (((A0.row false) n).map .t), .t (.sl false (path.map rI))]):=by
 intro n path
 rw[AB AL (fn:=QT) rfl (xN rfl rfl _) (lB rfl)]
 have k0:= @QT.eq_1;have f0:= @GB.eq_1;have t0:=e9
 exact gs
theorem eA (kind:Int) (l:List A0):∀(n:Int) (x1:Int),Ok (Ci kind n l x1) VH (ev AL al (.loop Pv) [.lv 0, .th Pw] (BO (List.replicate 22 .dead) [(1, .t (.v (.int .i64 kind))),(5, .t (.v (.int .i64 n))),(8, .t (.sl false (l.map (A0.row false)))),(9, .t (.v (.int .i64 (AD l)))),(10, .t (.v (.int .i64 x1)))]) (BP (List.replicate 22 []) [])):=by
 unfold Ok
 refine Ci.partial_correctness kind l _ ?_
 intro F ih n x1
 show Ok _ _ _
 have ih:∀(n:Int) (x1:Int),Ok (F n x1) _ _:=ih
 rw[AZ]
 have k0:= @Pv.eq_1;have k1:= @Pw.eq_1;have t0:=ih
 exact gs
theorem Ys : ∀ (l:List A0) (kind:Int),Ok (HZ l kind) VH (dn AL QM [.t (.sl false (l.map (A0.row false))), .t (.v (.int .i64 kind))]):=by
 intro l kind
 rw[AB AL (fn:=QV) rfl (xN rfl rfl _) (lB rfl)]
 have k0:= @QV.eq_1;have f0:= @HZ.eq_1;have t0:=eA
 exact gs
theorem fT : ∀ (kind:Int),Ok (M3 kind) XJ (dn AL XC [.t (.v (.int .i64 kind))]):=by
 intro kind
 rw[AB AL (fn:=MN) rfl (xN rfl rfl _) (lB rfl)]
 have k0:= @MN.eq_1;have f0:= @M3.eq_1
 exact gs
theorem bp (path:List Int):∀(x3:Int) (t1:A0) (outSteps:List (AE)),Ok (Fo path x3 t1 outSteps) VI (ev AL am (.loop O0) [.lv 0, .th O3] (BO (List.replicate 66 .dead) [(2, .ptr (2,0) [] 0 0 1 0),(4, .ptr (4,0) [] 0 0 1 0),(8, .ptr (8,0) [] 0 0 1 0),(29, .t (.sl false (path.map rI))),(30, .t (.v (.int .i64 (AD path)))),(31, .t (.v (.int .i64 x3)))]) (BP (List.replicate 66 []) [(2,[.mem [[.v (.int .i64 t1.Kind), .v (.string t1.Pre), .v (.string t1.Local), .v (.string t1.Uri), .sl false (t1.Decls.map A2.row), .sl false (t1.Attrs.map A5.row), .sl false (t1.Kids.map (A0.row false)), .v (.string t1.Text)]] 0 false]),(4,[.mem [[.v (.string (⟨#[]⟩)), .sl true []]] 0 false]),(8,[.mem [[.v (.string (⟨#[]⟩)), .sl true (outSteps.map (AE.row true))]] 0 false])])):=by
 unfold Ok
 refine Fo.partial_correctness path _ ?_
 intro F ih x3 t1 outSteps
 show Ok _ _ _
 have ih:∀(x3:Int) (t1:A0) (outSteps:List (AE)),Ok (F x3 t1 outSteps) _ _:=ih
 rw[AZ]
 have k0:= @O0.eq_1;have k1:= @O3.eq_1;have g0:=Ys;have g1:=fT;have t0:=ih
 exact gs
theorem Yt : ∀ (t:A0) (path:List Int),Ok (Kh t path) VI (dn AL V2 [.agg (((A0.row false) t).map .t), .t (.sl false (path.map rI))]):=by
 intro t path
 rw[AB AL (fn:=QR) rfl (xN rfl rfl _) (lB rfl)]
 have k0:= @QR.eq_1;have f0:= @Kh.eq_1;have g0:=Iv;have g1:=QG;have t0:=bp
 exact gs
theorem eB (path:List Int):∀(i:Int) (x2:A0),Ok (Gh path i x2) VJ (ev AL ao (.loop Px) [.lv 0, .th Py] (BO (List.replicate 36 .dead) [(1, .t (.sl false (path.map rI))),(4, .ptr (4,0) [] 0 0 1 0),(6, .ptr (6,0) [] 0 0 1 0),(7, .t (.v (.int .i64 i)))]) (BP (List.replicate 36 []) [(4,[.mem [[.v (.int .i64 0), .v (.string (⟨#[]⟩)), .v (.string (⟨#[]⟩)), .v (.string (⟨#[]⟩)), .sl true [], .sl true [], .sl true [], .v (.string (⟨#[]⟩))]] 0 false]),(6,[.mem [[.v (.int .i64 x2.Kind), .v (.string x2.Pre), .v (.string x2.Local), .v (.string x2.Uri), .sl false (x2.Decls.map A2.row), .sl false (x2.Attrs.map A5.row), .sl false (x2.Kids.map (A0.row false)), .v (.string x2.Text)]] 0 false])])):=by
 unfold Ok
 refine Gh.partial_correctness path _ ?_
 intro F ih i x2
 show Ok _ _ _
 have ih:∀(i:Int) (x2:A0),Ok (F i x2) _ _:=ih
 rw[AZ]
 have k0:= @Px.eq_1;have k1:= @Py.eq_1;have g0:=Hq;have g1:=UO;have t0:=ih
 exact gs
theorem Yu : ∀ (n:A0) (path:List Int),Ok (NS n path) VJ (dn AL V4 [.agg (((A0.row false) n).map .t), .t (.sl false (path.map rI))]):=by
 intro n path
 rw[AB AL (fn:=QW) rfl (xN rfl rfl _) (lB rfl)]
 have k0:= @QW.eq_1;have f0:= @NS.eq_1;have t0:=eB
 exact gs
theorem Zk (i:Int) (up x:A0):∀(nth:Int) (k:Int),Ok (CI i nth k up x) UD (ev AL YU (.loop Ms) [.lv 0, .th OD] (BO (List.replicate 55 .dead) [(1, .t (.v (.int .i64 i))),(2, .ptr (2,0) [] 0 0 1 0),(4, .ptr (4,0) [] 0 0 1 0),(5, .ptr (5,0) [] 0 0 1 0),(6, .t (.v (.int .i64 nth))),(7, .t (.v (.int .i64 k)))]) (BP (List.replicate 55 []) [(2,[.mem [[.v (.int .i64 up.Kind), .v (.string up.Pre), .v (.string up.Local), .v (.string up.Uri), .sl false (up.Decls.map A2.row), .sl false (up.Attrs.map A5.row), .sl false (up.Kids.map (A0.row false)), .v (.string up.Text)]] 0 false]),(4,[.mem [[.v (.bool false), .v (.int .i64 0), .v (.string (⟨#[]⟩)), .v (.string (⟨#[]⟩)), .sl true []]] 0 false]),(5,[.mem [[.v (.int .i64 x.Kind), .v (.string x.Pre), .v (.string x.Local), .v (.string x.Uri), .sl false (x.Decls.map A2.row), .sl false (x.Attrs.map A5.row), .sl false (x.Kids.map (A0.row false)), .v (.string x.Text)]] 0 false])])):=by
 unfold Ok
 refine CI.partial_correctness i up x _ ?_
 intro F ih nth k
 show Ok _ _ _
 have ih:∀(nth:Int) (k:Int),Ok (F nth k) _ _:=ih
 rw[AZ]
 have k0:= @Ms.eq_1;have k1:= @OD.eq_1;have t0:=ih
 exact gs
theorem ij : ∀ (up:A0) (i:Int),Ok (PF up i) UD (dn AL YJ [.agg (((A0.row false) up).map .t), .t (.v (.int .i64 i))]):=by
 intro up i
 rw[AB AL (fn:=OE) rfl (xN rfl rfl _) (lB rfl)]
 have k0:= @OE.eq_1;have f0:= @PF.eq_1;have t0:=Zk
 exact gs
theorem bq (path:List Int):∀(i:Int) (outSteps:List (AE)) (x2:A0),Ok (Fp path i outSteps x2) VK (ev AL ap (.loop O4) [.lv 0, .th O5] (BO (List.replicate 54 .dead) [(1, .t (.sl false (path.map rI))),(4, .ptr (4,0) [] 0 0 1 0),(6, .ptr (6,0) [] 0 0 1 0),(9, .ptr (9,0) [] 0 0 1 0),(10, .t (.v (.int .i64 i)))]) (BP (List.replicate 54 []) [(4,[.mem [[.v (.string (⟨#[]⟩)), .sl true []]] 0 false]),(6,[.mem [[.v (.string (⟨#[]⟩)), .sl true (outSteps.map (AE.row true))]] 0 false]),(9,[.mem [[.v (.int .i64 x2.Kind), .v (.string x2.Pre), .v (.string x2.Local), .v (.string x2.Uri), .sl false (x2.Decls.map A2.row), .sl false (x2.Attrs.map A5.row), .sl false (x2.Kids.map (A0.row false)), .v (.string x2.Text)]] 0 false])])):=by
 unfold Ok
 refine Fp.partial_correctness path _ ?_
 intro F ih i outSteps x2
 show Ok _ _ _
 have ih:∀(i:Int) (outSteps:List (AE)) (x2:A0),Ok (F i outSteps x2) _ _:=ih
 rw[AZ]
 have k0:= @O4.eq_1;have k1:= @O5.eq_1;have g0:=ij;have t0:=ih
 exact gs
theorem Yv : ∀ (t:A0) (path:List Int),Ok (Ki t path) VK (dn AL V5 [.agg (((A0.row false) t).map .t), .t (.sl false (path.map rI))]):=by
 intro t path
 rw[AB AL (fn:=QS) rfl (xN rfl rfl _) (lB rfl)]
 have k0:= @QS.eq_1;have f0:= @Ki.eq_1;have g0:=Yu;have g1:=Hq;have t0:=bq
 exact gs
theorem Zl : ∀ (code:List Int),Ok (Il code) UE (dn AL Tw [.t (.sl false (code.map (rK .u8)))]):=by
 intro code
 rw[AB AL (fn:=JA) rfl (xN rfl rfl _) (lB rfl)]
 have k0:= @JA.eq_1;have f0:= @Il.eq_1;have g0:=bE;have g1:=Yp;have g2:=XU;have g3:=Yu;have g4:=GJ;have g5:=DQ
 exact gs
theorem NC : ∀ (s:ByteArray),Ok (Ej s) E9 (dn AL E8 [.t (.v (.string s))]):=by
 intro s r hr
 exact L5 AL.ft (xOf AL) (vW s (e:=E9) (fun _=>rfl) hr)
theorem Yw : ∀ (s:ByteArray) (at1:Int),Ok (NT s at1) aq (dn AL V3 [.t (.v (.string s)), .t (.v (.int .i64 at1))]):=by
 intro s at1
 rw[AB AL (fn:=Qr) rfl (xN rfl rfl _) (lB rfl)]
 have k0:= @Qr.eq_1;have f0:= @NT.eq_1;have g0:=QG;have g1:=NC
 exact gs
theorem ik : ∀ (r:AG) (a1:Int),Ok (TR r a1) YV (dn AL KN [.agg ((AG.row r).map .t), .lp [.v (.int .i64 a1)] 0]):=by
 intro r a1
 rw[AB AL (fn:=PD) rfl (xN rfl rfl _) (lB rfl)]
 have k0:= @PD.eq_1;have f0:= @TR.eq_1;have g0:=QG
 exact gs
theorem Lk (s:List AG):∀(x1:Int) (f:Int),Ok (Ar s x1 f) ER (ev AL Hi (.loop G3) [.lv 0, .th G4] (BO (List.replicate 19 .dead) [(0, .t (.sl false (s.map AG.row))),(1, .fn KN [.ptr (1,0) [] 0 0 1 0]),(7, .t (.v (.int .i64 (AD s)))),(8, .t (.v (.int .i64 x1)))]) (BP (List.replicate 19 []) [(1,[.mem [[.v (.int .i64 f)]] 0 true])])):=by
 unfold Ok
 refine Ar.partial_correctness s _ ?_
 intro F ih x1 f
 show Ok _ _ _
 have ih:∀(x1:Int) (f:Int),Ok (F x1 f) _ _:=ih
 rw[AZ]
 have k0:= @G3.eq_1;have k1:= @G4.eq_1;have g0:=ik;have t0:=ih
 exact gs
theorem NZ : ∀ (s:List AG) (fc0:Int),Ok (DS s fc0) ER (dn AL Lt [.t (.sl false (s.map AG.row)), .fn KN [.lp [.v (.int .i64 fc0)] 0]]):=by
 intro s fc0
 rw[AB AL (fn:=FH) rfl (xN rfl rfl _) (lB rfl)]
 have k0:= @FH.eq_1;have f0:= @DS.eq_1;have t0:=Lk
 exact gs
theorem Ll : ∀ (s:List AG) (fc0:Int),Ok (Cl s fc0) GH (dn AL K4 [.t (.sl false (s.map AG.row)), .fn KN [.lp [.v (.int .i64 fc0)] 0]]):=by
 intro s fc0
 rw[AB AL (fn:=E6) rfl (xN rfl rfl _) (lB rfl)]
 have k0:= @E6.eq_1;have f0:= @Cl.eq_1;have g0:=NZ
 exact gs
theorem VR : ∀ (n:Int) (ranges:List AG),Ok (N4 n ranges) dZ (dn AL Sz [.t (.v (.int .i64 n)), .t (.sl false (ranges.map AG.row))]):=by
 intro n ranges
 rw[AB AL (fn:=TN) rfl (xN rfl rfl _) (lB rfl)]
 have k0:= @TN.eq_1;have f0:= @N4.eq_1;have g0:=Ll
 exact gs
theorem XV : ∀ (n:Int),Ok (LM n) YW (dn AL To [.t (.v (.int .i64 n))]):=by
 intro n
 rw[AB AL (fn:=Of) rfl (xN rfl rfl _) (lB rfl)]
 have k0:= @Of.eq_1;have f0:= @LM.eq_1;have g0:=VR
 exact gs
end TT
