import Derived.Test.YtpmnlfgdicmiiaaGreatDoorTLLa
set_option maxHeartbeats 2000000
set_option linter.unusedVariables false
set_option linter.unusedSimpArgs false
set_option linter.defProp false
set_option maxRecDepth 100000
namespace TT
open Go
open Nat (reduceAdd reduceSub reduceMul reduceLeDiff reduceLT reduceEqDiff)
theorem QH : ∀ (a0:Int) (least:Int) (most:Int),Ok (F8 a0 least most) aS (dn AF Ic [.t (.v (.int .i64 a0)), .t (.v (.int .i64 least)), .t (.v (.int .i64 most))]):=by
 intro a0 least most
 rw[A7 AF (fn:=RM) rfl (xN rfl rfl _) (lB rfl)]
 have k0:= @RM.eq_1;have f0:= @F8.eq_1
 exact gs
theorem XI (s:ByteArray) (at1:Int) (n:Int) (least:Int):∀(v1:Int) (i:Int),Ok (Aq s at1 n least v1 i) I1 (ev AF Jk (.loop MO) [.lv 1, .th MP] (BE (List.replicate 102 .dead) [(0, .t (.v (.string s))),(1, .t (.v (.int .i64 at1))),(8, .t (.v (.int .i64 n))),(9, .t (.v (.int .i64 least))),(10, .t (.v (.int .i64 v1))),(11, .t (.v (.int .i64 i)))]) (BF (List.replicate 102 []) [])):=by
 unfold Ok
 refine Aq.partial_correctness s at1 n least _ ?_
 intro F ih v1 i
 show Ok _ _ _
 have ih:∀(v1:Int) (i:Int),Ok (F v1 i) _ _:=ih
 rw[AU]
 have k0:= @MO.eq_1;have k1:= @MP.eq_1;have g0:=QH;have t0:=ih
 exact gs
theorem Qy : ∀ (s:ByteArray) (at1:Int) (n:Int) (least:Int) (v:Int),Ok (Cy s at1 n least v) I1 (ev AF Jk Fw [] (BE (List.replicate 102 .dead) [(0, .t (.v (.string s))),(1, .t (.v (.int .i64 at1))),(8, .t (.v (.int .i64 n))),(9, .t (.v (.int .i64 least))),(10, .t (.v (.int .i64 v)))]) (BF (List.replicate 102 []) [])):=by
 intro s at1 n least v
 have k0:= @Fw.eq_1;have f0:= @Cy.eq_1;have t0:=XI
 exact gs
theorem XJ : ∀ (s:ByteArray) (at1:Int) (x:Int) (x2:Bool),Ok (Df s at1 x x2) I1 (ev AF Jk MM [.lv 0, .hk [.clean []], .th Fw] (BE (List.replicate 102 .dead) [(0, .t (.v (.string s))),(1, .t (.v (.int .i64 at1))),(7, .t (.v (.int .i64 (wr .i64 x)))),(39, .t (.v (.bool x2)))]) (BF (List.replicate 102 []) [])):=by
 intro s at1 x x2
 have k0:= @MM.eq_1;have f0:= @Df.eq_1;have t0:=Qy
 exact gs
theorem XK : ∀ (s:ByteArray) (at1:Int) (x:Int) (x1:Bool),Ok (Dg s at1 x x1) I1 (ev AF Jk MN [.lv 0, .hk [.clean []], .th Fw] (BE (List.replicate 102 .dead) [(0, .t (.v (.string s))),(1, .t (.v (.int .i64 at1))),(7, .t (.v (.int .i64 (wr .i64 x)))),(30, .t (.v (.bool x1)))]) (BF (List.replicate 102 []) [])):=by
 intro s at1 x x1
 have k0:= @MN.eq_1;have f0:= @Dg.eq_1;have t0:=Qy;have t1:=XJ
 exact gs
theorem V8 : ∀ (s:ByteArray) (at1:Int),Ok (Et s at1) I1 (dn AF Rg [.t (.v (.string s)), .t (.v (.int .i64 at1))]):=by
 intro s at1
 rw[A7 AF (fn:=O4) rfl (xN rfl rfl _) (lB rfl)]
 have k0:= @O4.eq_1;have f0:= @Et.eq_1;have t0:=XK
 exact gs
theorem Vt (n:Int) (l:List Int):∀(i:Int),Ok (Ae n l i) PM (ev AF To (.loop KX) [.lv 0, .th KY] (BE (List.replicate 24 .dead) [(0, .t (.v (.int .i64 n))),(1, .t (.sl false (l.map rI))),(5, .t (.v (.int .i64 i)))]) (BF (List.replicate 24 []) [])):=by
 unfold Ok
 refine Ae.partial_correctness n l _ ?_
 intro F ih i
 show Ok _ _ _
 have ih:∀(i:Int),Ok (F i) _ _:=ih
 rw[AU]
 have k0:= @KX.eq_1;have k1:= @KY.eq_1;have g0:=QH;have t0:=ih
 exact gs
theorem Sk : ∀ (n:Int) (l:List Int),Ok (E8 n l) PM (dn AF Ov [.t (.v (.int .i64 n)), .t (.sl false (l.map rI))]):=by
 intro n l
 rw[A7 AF (fn:=KG) rfl (xN rfl rfl _) (lB rfl)]
 have k0:= @KG.eq_1;have f0:= @E8.eq_1;have t0:=Vt
 exact gs
theorem Tx : ∀ (n:Int),Ok (DV n) Uo (dn AF Qf [.t (.v (.int .i64 n))]):=by
 intro n
 rw[A7 AF (fn:=MQ) rfl (xN rfl rfl _) (lB rfl)]
 have k0:= @MQ.eq_1;have f0:= @DV.eq_1;have g0:=Sk
 exact gs
theorem dY : ∀ (n:Int),Ok (EH n) Wc (dn AF WQ [.t (.v (.int .i64 n))]):=by
 intro n
 rw[A7 AF (fn:=O5) rfl (xN rfl rfl _) (lB rfl)]
 have k0:= @O5.eq_1;have f0:= @EH.eq_1;have g0:=Tx;have g1:=Sk
 exact gs
theorem Vu (s:ByteArray):∀(at1:Int),Ok (Ab s at1) Qn (ev AF Up (.loop KU) [.lv 0, .th KV] (BE (List.replicate 39 .dead) [(0, .t (.v (.string s))),(3, .t (.v (.int .i64 at1)))]) (BF (List.replicate 39 []) [])):=by
 unfold Ok
 refine Ab.partial_correctness s _ ?_
 intro F ih at1
 show Ok _ _ _
 have ih:∀(at1:Int),Ok (F at1) _ _:=ih
 rw[AU]
 have k0:= @KU.eq_1;have k1:= @KV.eq_1;have g0:=V8;have g1:=Tx;have g2:=dY;have t0:=ih
 exact gs
theorem KM : ∀ (s:ByteArray),Ok (BQ s) Qn (dn AF Gs [.t (.v (.string s))]):=by
 intro s
 rw[A7 AF (fn:=MF) rfl (xN rfl rfl _) (lB rfl)]
 have k0:= @MF.eq_1;have f0:= @BQ.eq_1;have g0:=QH;have t0:=Vu
 exact gs
theorem X0 : ∀ (s:ByteArray),Ok (Ij s) YP (dn AF TG [.t (.v (.string s))]):=by
 intro s
 rw[A7 AF (fn:=QB) rfl (xN rfl rfl _) (lB rfl)]
 have k0:= @QB.eq_1;have f0:= @Ij.eq_1
 exact gs
theorem X1 : ∀ (s:ByteArray),Ok (DW s) YQ (dn AF TI [.t (.v (.string s))]):=by
 intro s
 rw[A7 AF (fn:=Q8) rfl (xN rfl rfl _) (lB rfl)]
 have k0:= @Q8.eq_1;have f0:= @DW.eq_1;have g0:=KM;have g1:=X0
 exact gs
theorem dZ : ∀ (n:Int),Ok (Ik n) Wd (dn AF WR [.t (.v (.int .i64 n))]):=by
 intro n
 rw[A7 AF (fn:=O7) rfl (xN rfl rfl _) (lB rfl)]
 have k0:= @O7.eq_1;have f0:= @Ik.eq_1;have g0:=QH
 exact gs
theorem XL (s:ByteArray):∀(at1:Int),Ok (BT s at1) Qo (ev AF Uq (.loop MR) [.lv 0, .th MS] (BE (List.replicate 29 .dead) [(0, .t (.v (.string s))),(3, .t (.v (.int .i64 at1)))]) (BF (List.replicate 29 []) [])):=by
 unfold Ok
 refine BT.partial_correctness s _ ?_
 intro F ih at1
 show Ok _ _ _
 have ih:∀(at1:Int),Ok (F at1) _ _:=ih
 rw[AU]
 have k0:= @MR.eq_1;have k1:= @MS.eq_1;have g0:=V8;have g1:=dZ;have t0:=ih
 exact gs
theorem b9 : ∀ (s:ByteArray),Ok (Fy s) Qo (dn AF Ui [.t (.v (.string s))]):=by
 intro s
 rw[A7 AF (fn:=MT) rfl (xN rfl rfl _) (lB rfl)]
 have k0:= @MT.eq_1;have f0:= @Fy.eq_1;have t0:=XL
 exact gs
theorem Qz : ∀ (s:ByteArray),Ok (BG s) We (dn AF Er [.t (.v (.string s))]):=by
 intro s
 rw[A7 AF (fn:=Nz) rfl (xN rfl rfl _) (lB rfl)]
 have k0:= @Nz.eq_1;have f0:= @BG.eq_1;have g0:=b9
 exact gs
theorem Yg : ∀ (d:A1),Ok (FN d) Rm (ev AF Wf NG [] (BE (List.replicate 31 .dead) [(1, .ptr (1,0) [] 0 0 1 0)]) (BF (List.replicate 31 []) [(1,[.mem [[.v (.string d.Pre), .v (.string d.Uri)]] 0 false])])):=by
 intro d
 have k0:= @NG.eq_1;have f0:= @FN.eq_1;have g0:=Qz
 exact gs
theorem da : ∀ (d:A1),Ok (Il d) Rm (dn AF WP [.agg ((A1.row d).map .t)]):=by
 intro d
 rw[A7 AF (fn:=O6) rfl (xN rfl rfl _) (lB rfl)]
 have k0:= @O6.eq_1;have f0:= @Il.eq_1;have g0:=KM;have g1:=X0;have t0:=Yg
 exact gs
theorem XM (l:List A1):∀(i:Int),Ok (BU l i) Qp (ev AF Ur (.loop MG) [.lv 0, .th MH] (BE (List.replicate 37 .dead) [(0, .t (.sl false (l.map A1.row))),(3, .t (.v (.int .i64 i)))]) (BF (List.replicate 37 []) [])):=by
 unfold Ok
 refine BU.partial_correctness l _ ?_
 intro F ih i
 show Ok _ _ _
 have ih:∀(i:Int),Ok (F i) _ _:=ih
 rw[AU]
 have k0:= @MG.eq_1;have k1:= @MH.eq_1;have g0:=da;have t0:=ih
 exact gs
theorem bA : ∀ (l:List A1),Ok (Cz l) Qp (dn AF Ug [.t (.sl false (l.map A1.row))]):=by
 intro l
 rw[A7 AF (fn:=MI) rfl (xN rfl rfl _) (lB rfl)]
 have k0:= @MI.eq_1;have f0:= @Cz.eq_1;have t0:=XM
 exact gs
theorem db : ∀ (n:A0),Ok (HG n) Wg (dn AF NT [.agg (((A0.row false) n).map .t)]):=by
 intro n
 rw[A7 AF (fn:=O0) rfl (xN rfl rfl _) (lB rfl)]
 have k0:= @O0.eq_1;have f0:= @HG.eq_1
 exact gs
theorem ZP (s:ByteArray) (t:ByteArray):∀(i:Int),Ok (CR s t i) TO (ev AF YR (.loop PJ) [.lv 0, .th PK] (BE (List.replicate 24 .dead) [(0, .t (.v (.string s))),(1, .t (.v (.string t))),(5, .t (.v (.int .i64 i)))]) (BF (List.replicate 24 []) [])):=by
 unfold Ok
 refine CR.partial_correctness s t _ ?_
 intro F ih i
 show Ok _ _ _
 have ih:∀(i:Int),Ok (F i) _ _:=ih
 rw[AU]
 have k0:= @PJ.eq_1;have k1:= @PK.eq_1;have t0:=ih
 exact gs
theorem gu : ∀ (s:ByteArray) (t:ByteArray),Ok (Dy s t) TO (dn AF La [.t (.v (.string s)), .t (.v (.string t))]):=by
 intro s t
 rw[A7 AF (fn:=Q9) rfl (xN rfl rfl _) (lB rfl)]
 have k0:= @Q9.eq_1;have f0:= @Dy.eq_1;have t0:=ZP
 exact gs
end TT
