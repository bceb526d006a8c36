import Derived.Test.YtpmnlfgdicmiiaaGreatDoorTLLe
set_option maxHeartbeats 2000000
set_option linter.unusedVariables false
set_option linter.unusedSimpArgs false
set_option linter.defProp false
set_option maxRecDepth 100000
namespace TT
open Go
open Nat (reduceAdd reduceSub reduceMul reduceLeDiff reduceLT reduceEqDiff)
theorem eE : ∀ (s:ByteArray),Ok (FX s) QE (dn AL Vy [.t (.v (.string s))]):=by
 intro s
 rw[AB AL (fn:=LJ) rfl (xN rfl rfl _) (lB rfl)]
 have k0:= @LJ.eq_1;have f0:= @FX.eq_1;have g0:=Fs;have t0:=XX
 exact gs
theorem Zm : ∀ (pre:ByteArray) (local1:ByteArray) (s:ByteArray),Ok (GM pre local1 s) SQ (ev AL XL Mu [] (BO (List.replicate 35 .dead) [(0, .t (.v (.string pre))),(1, .t (.v (.string local1))),(5, .t (.v (.string s)))]) (BP (List.replicate 35 []) [])):=by
 intro pre local1 s
 have k0:= @Mu.eq_1;have f0:= @GM.eq_1;have g0:=eE
 exact gs
theorem WF : ∀ (pre:ByteArray) (local1:ByteArray),Ok (I8 pre local1) SQ (dn AL Rp [.t (.v (.string pre)), .t (.v (.string local1))]):=by
 intro pre local1
 rw[AB AL (fn:=MX) rfl (xN rfl rfl _) (lB rfl)]
 have k0:= @MX.eq_1;have f0:= @I8.eq_1;have t0:=Zm
 exact gs
theorem Yx : ∀ (s:ByteArray),Ok (Kl s) ay (dn AL QP [.t (.v (.string s))]):=by
 intro s
 rw[AB AL (fn:=Qd) rfl (xN rfl rfl _) (lB rfl)]
 have k0:= @Qd.eq_1;have f0:= @Kl.eq_1;have g0:=PT;have g1:=bI
 exact gs
theorem XY : ∀ (kind:Int) (p:AH) (x:Bool),Ok (Gk kind p x) QF (ev AL W6 KY [.lv 0, .th Lf] (BO (List.replicate 74 .dead) [(1, .t (.v (.int .i64 kind))),(2, .ptr (2,0) [] 0 0 1 0),(6, .t (.v (.int .i64 p.Kind))),(27, .t (.v (.bool x)))]) (BP (List.replicate 74 []) [(2,[.mem [[.v (.int .i64 p.Kind), .v (.int .i64 p.N), .v (.string p.Pre), .v (.string p.Local), .v (.string p.Val)]] 0 false])])):=by
 intro kind p x
 have k0:= @KY.eq_1;have k1:= @Lf.eq_1;have f0:= @Gk.eq_1;have g0:=Hq;have g1:=WF;have g2:=Yx
 exact gs
theorem eF : ∀ (p:AH) (kind:Int),Ok (Im p kind) QF (dn AL Vz [.agg ((AH.row p).map .t), .t (.v (.int .i64 kind))]):=by
 intro p kind
 rw[AB AL (fn:=LF) rfl (xN rfl rfl _) (lB rfl)]
 have k0:= @LF.eq_1;have f0:= @Im.eq_1;have g0:=Hq;have t0:=XY
 exact gs
theorem XZ : ∀ (a0:AE) (x5:Bool) (xDeep:Bool),Ok (Ez a0 x5 xDeep) GN (ev AL Is KT [.lv 2, .th HN] (BO (List.replicate 96 .dead) [(2, .ptr (2,0) [] 0 0 1 0),(46, .t (.v (.int .i64 a0.Kind))),(56, .t (.v (.bool x5)))]) (BP (List.replicate 96 []) [(2,[.mem [[.v (.bool xDeep), .v (.int .i64 a0.Kind), .v (.string a0.Pre), .v (.string a0.Local), .sl false (a0.Preds.map AH.row)]] 0 false])])):=by
 intro a0 x5 xDeep
 have k0:= @KT.eq_1;have k1:= @HN.eq_1;have f0:= @Ez.eq_1;have g0:=Fs
 exact gs
theorem Xa : ∀ (a0:AE) (x4:Bool) (xDeep:Bool),Ok (CY a0 x4 xDeep) GN (ev AL Is KU [.lv 2, .th HN] (BO (List.replicate 96 .dead) [(2, .ptr (2,0) [] 0 0 1 0),(46, .t (.v (.int .i64 a0.Kind))),(47, .t (.v (.bool x4)))]) (BP (List.replicate 96 []) [(2,[.mem [[.v (.bool xDeep), .v (.int .i64 a0.Kind), .v (.string a0.Pre), .v (.string a0.Local), .sl false (a0.Preds.map AH.row)]] 0 false])])):=by
 intro a0 x4 xDeep
 have k0:= @KU.eq_1;have f0:= @CY.eq_1;have g0:=WF;have t0:=XZ
 exact gs
theorem Xb (xDeep:Bool) (a0:AE):∀(i:Int),Ok (DK i xDeep a0) GN (ev AL Is (.loop KS) [.lv 0, .th KV] (BO (List.replicate 96 .dead) [(2, .ptr (2,0) [] 0 0 1 0),(5, .t (.v (.int .i64 i)))]) (BP (List.replicate 96 []) [(2,[.mem [[.v (.bool xDeep), .v (.int .i64 a0.Kind), .v (.string a0.Pre), .v (.string a0.Local), .sl false (a0.Preds.map AH.row)]] 0 false])])):=by
 unfold Ok
 refine DK.partial_correctness xDeep a0 _ ?_
 intro F ih i
 show Ok _ _ _
 have ih:∀(i:Int),Ok (F i) _ _:=ih
 rw[AZ]
 have k0:= @KS.eq_1;have k1:= @KV.eq_1;have g0:=eF;have t0:=ih;have t1:=Xa
 exact gs
theorem Yy : ∀ (xDeep:Bool) (a0:AE),Ok (Ha xDeep a0) GN (ev AL Is Ld [] (BO (List.replicate 96 .dead) [(2, .ptr (2,0) [] 0 0 1 0)]) (BP (List.replicate 96 []) [(2,[.mem [[.v (.bool xDeep), .v (.int .i64 a0.Kind), .v (.string a0.Pre), .v (.string a0.Local), .sl false (a0.Preds.map AH.row)]] 0 false])])):=by
 intro xDeep a0
 have k0:= @Ld.eq_1;have f0:= @Ha.eq_1;have t0:=Xb
 exact gs
theorem eG : ∀ (a0:AE) (last:Bool),Ok (Km a0 last) GN (dn AL W4 [.agg (((AE.row false) a0).map .t), .t (.v (.bool last))]):=by
 intro a0 last
 rw[AB AL (fn:=LA) rfl (xN rfl rfl _) (lB rfl)]
 have k0:= @LA.eq_1;have f0:= @Km.eq_1;have t0:=Yy
 exact gs
theorem fW (s:B8):∀(i:Int),Ok (EG i s) Wp (ev AL dc (.loop S6) [.lv 0, .th S7] (BO (List.replicate 44 .dead) [(1, .ptr (1,0) [] 0 0 1 0),(3, .t (.v (.int .i64 i)))]) (BP (List.replicate 44 []) [(1,[.mem [[.v (.string s.Id), .sl false (s.Steps.map (AE.row false))]] 0 false])])):=by
 unfold Ok
 refine EG.partial_correctness s _ ?_
 intro F ih i
 show Ok _ _ _
 have ih:∀(i:Int),Ok (F i) _ _:=ih
 rw[AZ]
 have k0:= @S6.eq_1;have k1:= @S7.eq_1;have g0:=eG;have g1:=Yx;have t0:=ih
 exact gs
theorem p6 : ∀ (s:B8),Ok (N5 s) Wp (dn AL dG [.agg (((B8.row false) s).map .t)]):=by
 intro s
 rw[AB AL (fn:=T8) rfl (xN rfl rfl _) (lB rfl)]
 have k0:= @T8.eq_1;have f0:= @N5.eq_1;have t0:=fW
 exact gs
theorem io : ∀ (t:A0) (path:List Int) (a:A5),Ok (PH t path a) Ya (dn AL YI [.agg (((A0.row false) t).map .t), .t (.sl false (path.map rI)), .agg ((A5.row a).map .t)]):=by
 intro t path a
 rw[AB AL (fn:=O7) rfl (xN rfl rfl _) (lB rfl)]
 have k0:= @O7.eq_1;have f0:= @PH.eq_1;have g0:=Yv;have g1:=p6
 exact gs
theorem VT (s1 s2:List AH):∀(x2:Int),Ok (Cr s1 s2 x2) Lg (ev AL Sj (.loop If) [.lv 0, .th Ig] (BO (List.replicate 26 .dead) [(0, .t (.sl false (s1.map AH.row))),(1, .t (.sl false (s2.map AH.row))),(12, .t (.v (.int .i64 (AD s1)))),(13, .t (.v (.int .i64 x2)))]) (BP (List.replicate 26 []) [])):=by
 unfold Ok
 refine Cr.partial_correctness s1 s2 _ ?_
 intro F ih x2
 show Ok _ _ _
 have ih:∀(x2:Int),Ok (F x2) _ _:=ih
 rw[AZ]
 have k0:= @If.eq_1;have k1:= @Ig.eq_1;have t0:=ih
 exact gs
theorem Yz : ∀ (s1:List AH) (s2:List AH),Ok (Hc s1 s2) Lg (dn AL SZ [.t (.sl false (s1.map AH.row)), .t (.sl false (s2.map AH.row))]):=by
 intro s1 s2
 rw[AB AL (fn:=IL) rfl (xN rfl rfl _) (lB rfl)]
 have k0:= @IL.eq_1;have f0:= @Hc.eq_1;have t0:=VT
 exact gs
theorem eH : ∀ (a0:AE) (y:AE),Ok (Kn a0 y) W7 (dn AL Pp [.agg (((AE.row false) a0).map .t), .agg (((AE.row false) y).map .t)]):=by
 intro a0 y
 rw[AB AL (fn:=LB) rfl (xN rfl rfl _) (lB rfl)]
 have k0:= @LB.eq_1;have f0:= @Kn.eq_1;have g0:=Yz
 exact gs
theorem Kw (s2 s1:List AE):∀(x2:Int),Ok (An s2 s1 x2) EA (ev AL Gy (.loop Fy) [.lv 0, .th Fz] (BO (List.replicate 32 .dead) [(1, .t (.sl false (s2.map (AE.row false)))),(2, .fn Pp []),(15, .t (.sl false (s1.map (AE.row false)))),(16, .t (.v (.int .i64 (AD s1)))),(17, .t (.v (.int .i64 x2)))]) (BP (List.replicate 32 []) [])):=by
 unfold Ok
 refine An.partial_correctness s2 s1 _ ?_
 intro F ih x2
 show Ok _ _ _
 have ih:∀(x2:Int),Ok (F x2) _ _:=ih
 rw[AZ]
 have k0:= @Fy.eq_1;have k1:= @Fz.eq_1;have g0:=eH;have t0:=ih
 exact gs
theorem ND : ∀ (s1:List AE) (s2:List AE),Ok (D7 s1 s2) EA (dn AL NP [.t (.sl false (s1.map (AE.row false))), .t (.sl false (s2.map (AE.row false))), .fn Pp []]):=by
 intro s1 s2
 rw[AB AL (fn:=Fd) rfl (xN rfl rfl _) (lB rfl)]
 have k0:= @Fd.eq_1;have f0:= @D7.eq_1;have t0:=Kw
 exact gs
theorem iq : ∀ (a:B8) (b:B8),Ok (JT a b) Yb (dn AL Tp [.agg (((B8.row false) a).map .t), .agg (((B8.row false) b).map .t)]):=by
 intro a b
 rw[AB AL (fn:=O8) rfl (xN rfl rfl _) (lB rfl)]
 have k0:= @O8.eq_1;have f0:= @JT.eq_1;have g0:=ND
 exact gs
theorem lg : (∀ (n:A0),Ok (FJ n) PM (dn AL Ns [.agg (((A0.row false) n).map .t)]))∧
  (∀(out:Int) (n:A0) (x1:Int),Ok (HE out n x1) PM (ev AL Yc (.loop OX) [.lv 0, .th OY] (BO (List.replicate 23 .dead) [(3, .t (.v (.int .i64 out))),(11, .t (.sl false (n.Kids.map (A0.row false)))),(12, .t (.v (.int .i64 (AD n.Kids)))),(13, .t (.v (.int .i64 x1)))]) (BP (List.replicate 23 []) []))):=by
 unfold Ok
 refine FJ.mutual_partial_correctness _ _ ?_ ?_
 ·intro F1 ih1 n
  show Ok _ _ _
  have ih1:∀(out:Int) (n:A0) (x1:Int),Ok (F1 out n x1) _ _:=ih1
  rw[AB AL (fn:=OZ) rfl (xN rfl rfl _) (lB rfl)]
  have k0:= @OZ.eq_1;have t0:=ih1
  exact gs
 ·intro F0 F1 ih0 ih1 out n x1
  show Ok _ _ _
  have ih0:∀(n:A0),Ok (F0 n) _ _:=ih0
  have ih1:∀(out:Int) (n:A0) (x1:Int),Ok (F1 out n x1) _ _:=ih1
  rw[AZ]
  have k0:= @OX.eq_1;have k1:= @OY.eq_1;have g0:=ih0;have t0:=ih1
  exact gs
theorem ir (n:A0):Ok (FJ n) PM (dn AL Ns [.agg (((A0.row false) n).map .t)]):=lg.1 n
theorem Nb : ∀ (s:ByteArray) (suffix:ByteArray),Ok (DT s suffix) Hk (dn AL HL [.t (.v (.string s)), .t (.v (.string suffix))]):=by
 intro s suffix
 rw[AB AL (fn:=Cy) rfl (xN rfl rfl _) (lB rfl)]
 have k0:= @Cy.eq_1;have f0:= @DT.eq_1
 exact gs
theorem Z0 : ∀ (s:ByteArray) (suffix:ByteArray),Ok (Hd s suffix) Sk (dn AL Sd [.t (.v (.string s)), .t (.v (.string suffix))]):=by
 intro s suffix
 rw[AB AL (fn:=IP) rfl (xN rfl rfl _) (lB rfl)]
 have k0:= @IP.eq_1;have f0:= @Hd.eq_1;have g0:=Nb
 exact gs
theorem lh : ∀ (s:ByteArray),Ok (Uk s) az (dn AL aI [.t (.v (.string s))]):=by
 intro s
 rw[AB AL (fn:=Qy) rfl (xN rfl rfl _) (lB rfl)]
 have k0:= @Qy.eq_1;have f0:= @Uk.eq_1;have g0:=Iw;have g1:=IS;have g2:=Z0
 exact gs
end TT
