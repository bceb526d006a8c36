import Derived.Test.YtkbbbbeagnfliaaGreatDoorTLLa
set_option maxHeartbeats 2000000
set_option linter.unusedVariables false
set_option linter.unusedSimpArgs false
set_option linter.defProp false
set_option maxRecDepth 100000
namespace TT
open Go
open Nat (reduceAdd reduceSub reduceMul reduceLeDiff reduceLT reduceEqDiff)
theorem qD : ∀ (a:GSel),Ok (Tj a) dm (dn AI de [.agg (((GSel.row false) a).map .t)]):=by
 intro a
 rw[A5 AI (fn:=Si) rfl (xN rfl rfl _) (lB rfl)]
 have k0:= @Si.eq_1;have f0:= @Tj.eq_1;have g0:=j6
 exact gs
theorem mQ : ∀ (a:GDecl),Ok (MK a) b7 (dn AI ak [.agg ((GDecl.row a).map .t)]):=by
 intro a
 rw[A5 AI (fn:=QK) rfl (xN rfl rfl _) (lB rfl)]
 have k0:= @QK.eq_1;have f0:= @MK.eq_1
 exact gs
theorem cM (a:List GDecl):∀(out:List (GDecl)) (i:Int),Ok (GK a out i) Tt (ev AI YJ (.loop NI) [.lv 0, .th NJ] (B8 (List.replicate 23 .dead) [(0, .t (.sl false (a.map GDecl.row))),(3, .ref (7,0) out.length),(4, .t (.v (.int .i64 i)))]) (B9 (List.replicate 23 []) [(7,[.mem (out.map GDecl.row) 0 false])])):=by
 unfold Ok
 refine GK.partial_correctness a _ ?_
 intro F ih out i
 show Ok _ _ _
 have ih:∀(out:List (GDecl)) (i:Int),Ok (F out i) _ _:=ih
 rw[AV]
 have k0:= @NI.eq_1;have k1:= @NJ.eq_1;have g0:=mQ;have t0:=ih
 exact gs
theorem XA : ∀ (a:List GDecl),Ok (Hz a) Tt (dn AI Tc [.t (.sl false (a.map GDecl.row))]):=by
 intro a
 rw[A5 AI (fn:=NK) rfl (xN rfl rfl _) (lB rfl)]
 have k0:= @NK.eq_1;have f0:= @Hz.eq_1;have t0:=cM
 exact gs
theorem mR : ∀ (a:GAttr),Ok (ML a) b8 (dn AI aj [.agg ((GAttr.row a).map .t)]):=by
 intro a
 rw[A5 AI (fn:=Qh) rfl (xN rfl rfl _) (lB rfl)]
 have k0:= @Qh.eq_1;have f0:= @ML.eq_1
 exact gs
theorem cO (a:List GAttr):∀(out:List (GAttr)) (i:Int),Ok (GL a out i) Tu (ev AI YK (.loop O0) [.lv 0, .th O3] (B8 (List.replicate 23 .dead) [(0, .t (.sl false (a.map GAttr.row))),(3, .ref (7,0) out.length),(4, .t (.v (.int .i64 i)))]) (B9 (List.replicate 23 []) [(7,[.mem (out.map GAttr.row) 0 false])])):=by
 unfold Ok
 refine GL.partial_correctness a _ ?_
 intro F ih out i
 show Ok _ _ _
 have ih:∀(out:List (GAttr)) (i:Int),Ok (F out i) _ _:=ih
 rw[AV]
 have k0:= @O0.eq_1;have k1:= @O3.eq_1;have g0:=mR;have t0:=ih
 exact gs
theorem j7 : ∀ (a:List GAttr),Ok (Je a) Tu (dn AI Xz [.t (.sl false (a.map GAttr.row))]):=by
 intro a
 rw[A5 AI (fn:=O4) rfl (xN rfl rfl _) (lB rfl)]
 have k0:= @O4.eq_1;have f0:= @Je.eq_1;have t0:=cO
 exact gs
theorem be : (∀ (a:GNode),Ok (Hj a) V0 (dn AI Ur [.agg (((GNode.row false) a).map .t)]))∧
  (∀(a:List GNode),Ok (EZ a) Ol (dn AI N2 [.t (.sl false (a.map (GNode.row false)))]))∧
  (∀(a:List GNode) (out:List (GNode)) (i:Int),Ok (F6 a out i) Ol (ev AI YL (.loop NF) [.lv 0, .th NG] (B8 (List.replicate 23 .dead) [(0, .t (.sl false (a.map (GNode.row false)))),(3, .ref (7,0) out.length),(4, .t (.v (.int .i64 i)))]) (B9 (List.replicate 23 []) [(7,[.mem (out.map (GNode.row true)) 0 false])]))):=by
 unfold Ok
 refine Hj.mutual_partial_correctness _ _ _ ?_ ?_ ?_
 ·intro F1 ih1 a
  show Ok _ _ _
  have ih1:∀(a:List GNode),Ok (F1 a) _ _:=ih1
  rw[A5 AI (fn:=QJ) rfl (xN rfl rfl _) (lB rfl)]
  have k0:= @QJ.eq_1;have g0:=XA;have g1:=j7;have g2:=ih1
  exact gs
 ·intro F2 ih2 a
  show Ok _ _ _
  have ih2:∀(a:List GNode) (out:List (GNode)) (i:Int),Ok (F2 a out i) _ _:=ih2
  rw[A5 AI (fn:=NH) rfl (xN rfl rfl _) (lB rfl)]
  have k0:= @NH.eq_1;have t0:=ih2
  exact gs
 ·intro F0 F2 ih0 ih2 a out i
  show Ok _ _ _
  have ih0:∀(a:GNode),Ok (F0 a) _ _:=ih0
  have ih2:∀(a:List GNode) (out:List (GNode)) (i:Int),Ok (F2 a out i) _ _:=ih2
  rw[AV]
  have k0:= @NF.eq_1;have k1:= @NG.eq_1;have g0:=ih0;have t0:=ih2
  exact gs
theorem A5l (a:GNode):Ok (Hj a) V0 (dn AI Ur [.agg (((GNode.row false) a).map .t)]):=be.1 a
theorem j8 (a:List GNode):Ok (EZ a) Ol (dn AI N2 [.t (.sl false (a.map (GNode.row false)))]):=be.2.1 a
theorem uh : ∀ (a:GOp),Ok (TI a) iN (dn AI iK [.agg (((GOp.row false) a).map .t)]):=by
 intro a
 rw[A5 AI (fn:=UP) rfl (xN rfl rfl _) (lB rfl)]
 have k0:= @UP.eq_1;have f0:= @TI.eq_1;have g0:=qD;have g1:=j8;have g2:=XA
 exact gs
theorem fi (a:List GOp):∀(out:List (GOp)) (i:Int),Ok (IG a out i) WM (ev AI dq (.loop Ra) [.lv 0, .th Rb] (B8 (List.replicate 23 .dead) [(0, .t (.sl false (a.map (GOp.row false)))),(3, .ref (7,0) out.length),(4, .t (.v (.int .i64 i)))]) (B9 (List.replicate 23 []) [(7,[.mem (out.map (GOp.row true)) 0 false])])):=by
 unfold Ok
 refine IG.partial_correctness a _ ?_
 intro F ih out i
 show Ok _ _ _
 have ih:∀(out:List (GOp)) (i:Int),Ok (F out i) _ _:=ih
 rw[AV]
 have k0:= @Ra.eq_1;have k1:= @Rb.eq_1;have g0:=uh;have t0:=ih
 exact gs
theorem qE : ∀ (a:List GOp),Ok (J0 a) WM (dn AI SY [.t (.sl false (a.map (GOp.row false)))]):=by
 intro a
 rw[A5 AI (fn:=Se) rfl (xN rfl rfl _) (lB rfl)]
 have k0:= @Se.eq_1;have f0:= @J0.eq_1;have t0:=fi
 exact gs
theorem Gq : ∀ (a0:Int) (least:Int) (most:Int),Ok (DU a0 least most) iO (dn AI DT [.t (.v (.int .i64 a0)), .t (.v (.int .i64 least)), .t (.v (.int .i64 most))]):=by
 intro a0 least most
 rw[A5 AI (fn:=UT) rfl (xN rfl rfl _) (lB rfl)]
 have k0:= @UT.eq_1;have f0:= @DU.eq_1
 exact gs
theorem cP (s:ByteArray) (at1 n least:Int):∀(v1:Int) (i:Int),Ok (CG s at1 n least v1 i) IL (ev AI KO (.loop O7) [.lv 1, .th O8] (B8 (List.replicate 102 .dead) [(0, .t (.v (.string s))),(1, .t (.v (.int .i64 at1))),(8, .t (.v (.int .i64 n))),(9, .t (.v (.int .i64 least))),(10, .t (.v (.int .i64 v1))),(11, .t (.v (.int .i64 i)))]) (B9 (List.replicate 102 []) [])):=by
 unfold Ok
 refine CG.partial_correctness s at1 n least _ ?_
 intro F ih v1 i
 show Ok _ _ _
 have ih:∀(v1:Int) (i:Int),Ok (F v1 i) _ _:=ih
 rw[AV]
 have k0:= @O7.eq_1;have k1:= @O8.eq_1;have g0:=Gq;have t0:=ih
 exact gs
theorem UE : ∀ (s:ByteArray) (at1:Int) (n:Int) (least:Int) (v:Int),Ok (F7 s at1 n least v) IL (ev AI KO Gc [] (B8 (List.replicate 102 .dead) [(0, .t (.v (.string s))),(1, .t (.v (.int .i64 at1))),(8, .t (.v (.int .i64 n))),(9, .t (.v (.int .i64 least))),(10, .t (.v (.int .i64 v)))]) (B9 (List.replicate 102 []) [])):=by
 intro s at1 n least v
 have k0:= @Gc.eq_1;have f0:= @F7.eq_1;have t0:=cP
 exact gs
theorem cQ : ∀ (s:ByteArray) (at1:Int) (x:Int) (x2:Bool),Ok (GM s at1 x x2) IL (ev AI KO O5 [.lv 0, .hk [.clean []], .th Gc] (B8 (List.replicate 102 .dead) [(0, .t (.v (.string s))),(1, .t (.v (.int .i64 at1))),(7, .t (.v (.int .i64 (wr .i64 x)))),(39, .t (.v (.bool x2)))]) (B9 (List.replicate 102 []) [])):=by
 intro s at1 x x2
 have k0:= @O5.eq_1;have f0:= @GM.eq_1;have t0:=UE
 exact gs
theorem cR : ∀ (s:ByteArray) (at1:Int) (x:Int) (x1:Bool),Ok (GN s at1 x x1) IL (ev AI KO O6 [.lv 0, .hk [.clean []], .th Gc] (B8 (List.replicate 102 .dead) [(0, .t (.v (.string s))),(1, .t (.v (.int .i64 at1))),(7, .t (.v (.int .i64 (wr .i64 x)))),(30, .t (.v (.bool x1)))]) (B9 (List.replicate 102 []) [])):=by
 intro s at1 x x1
 have k0:= @O6.eq_1;have f0:= @GN.eq_1;have t0:=UE;have t1:=cQ
 exact gs
theorem Yq : ∀ (s:ByteArray) (at1:Int),Ok (MM s at1) IL (dn AI Uu [.t (.v (.string s)), .t (.v (.int .i64 at1))]):=by
 intro s at1
 rw[A5 AI (fn:=QY) rfl (xN rfl rfl _) (lB rfl)]
 have k0:= @QY.eq_1;have f0:= @MM.eq_1;have t0:=cR
 exact gs
theorem Zl (n:Int) (l:List Int):∀(i:Int),Ok (EI n l i) Ru (ev AI Wu (.loop Ls) [.lv 0, .th Lt] (B8 (List.replicate 24 .dead) [(0, .t (.v (.int .i64 n))),(1, .t (.sl false (l.map rI))),(5, .t (.v (.int .i64 i)))]) (B9 (List.replicate 24 []) [])):=by
 unfold Ok
 refine EI.partial_correctness n l _ ?_
 intro F ih i
 show Ok _ _ _
 have ih:∀(i:Int),Ok (F i) _ _:=ih
 rw[AV]
 have k0:= @Ls.eq_1;have k1:= @Lt.eq_1;have g0:=Gq;have t0:=ih
 exact gs
theorem Vn : ∀ (n:Int) (l:List Int),Ok (IH n l) Ru (dn AI RZ [.t (.v (.int .i64 n)), .t (.sl false (l.map rI))]):=by
 intro n l
 rw[A5 AI (fn:=Kq) rfl (xN rfl rfl _) (lB rfl)]
 have k0:= @Kq.eq_1;have f0:= @IH.eq_1;have t0:=Zl
 exact gs
theorem XB : ∀ (n:Int),Ok (Jf n) YM (dn AI Te [.t (.v (.int .i64 n))]):=by
 intro n
 rw[A5 AI (fn:=O9) rfl (xN rfl rfl _) (lB rfl)]
 have k0:= @O9.eq_1;have f0:= @Jf.eq_1;have g0:=Vn
 exact gs
theorem mS : ∀ (n:Int),Ok (MN n) b9 (dn AI ao [.t (.v (.int .i64 n))]):=by
 intro n
 rw[A5 AI (fn:=QZ) rfl (xN rfl rfl _) (lB rfl)]
 have k0:= @QZ.eq_1;have f0:= @MN.eq_1;have g0:=XB;have g1:=Vn
 exact gs
theorem Zm (s:ByteArray):∀(at1:Int),Ok (CO s at1) Tv (ev AI YN (.loop Lh) [.lv 0, .th Li] (B8 (List.replicate 39 .dead) [(0, .t (.v (.string s))),(3, .t (.v (.int .i64 at1)))]) (B9 (List.replicate 39 []) [])):=by
 unfold Ok
 refine CO.partial_correctness s _ ?_
 intro F ih at1
 show Ok _ _ _
 have ih:∀(at1:Int),Ok (F at1) _ _:=ih
 rw[AV]
 have k0:= @Lh.eq_1;have k1:= @Li.eq_1;have g0:=Yq;have g1:=XB;have g2:=mS;have t0:=ih
 exact gs
theorem FE : ∀ (s:ByteArray),Ok (Bu s) Tv (dn AI Cf [.t (.v (.string s))]):=by
 intro s
 rw[A5 AI (fn:=Nq) rfl (xN rfl rfl _) (lB rfl)]
 have k0:= @Nq.eq_1;have f0:= @Bu.eq_1;have g0:=Gq;have t0:=Zm
 exact gs
end TT
