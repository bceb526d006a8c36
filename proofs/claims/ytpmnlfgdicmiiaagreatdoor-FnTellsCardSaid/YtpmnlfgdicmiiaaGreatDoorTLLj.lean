import Derived.Test.YtpmnlfgdicmiiaaGreatDoorTLLi
set_option maxHeartbeats 2000000
set_option linter.unusedVariables false
set_option linter.unusedSimpArgs false
set_option linter.defProp false
set_option maxRecDepth 100000
namespace TT
open Go
open Nat (reduceAdd reduceSub reduceMul reduceLeDiff reduceLT reduceEqDiff)
theorem WG (s1 s2:List Int):∀(x2:Int),Ok (CP s1 s2 x2) NB (ev AL UM (.loop JK) [.lv 0, .th JL] (BO (List.replicate 26 .dead) [(0, .t (.sl false (s1.map rI))),(1, .t (.sl false (s2.map rI))),(12, .t (.v (.int .i64 (AD s1)))),(13, .t (.v (.int .i64 x2)))]) (BP (List.replicate 26 []) [])):=by
 unfold Ok
 refine CP.partial_correctness s1 s2 _ ?_
 intro F ih x2
 show Ok _ _ _
 have ih:∀(x2:Int),Ok (F x2) _ _:=ih
 rw[AZ]
 have k0:= @JK.eq_1;have k1:= @JL.eq_1;have t0:=ih
 exact gs
theorem Zr : ∀ (s1:List Int) (s2:List Int),Ok (Io s1 s2) NB (dn AL Tv [.t (.sl false (s1.map rI)), .t (.sl false (s2.map rI))]):=by
 intro s1 s2
 rw[AB AL (fn:=JM) rfl (xN rfl rfl _) (lB rfl)]
 have k0:= @JM.eq_1;have f0:= @Io.eq_1;have t0:=WG
 exact gs
theorem WH : ∀ (a:List Int) (b:List Int),Ok (GE a b) XQ (dn AL MI [.t (.sl false (a.map rI)), .t (.sl false (b.map rI))]):=by
 intro a b
 rw[AB AL (fn:=MM) rfl (xN rfl rfl _) (lB rfl)]
 have k0:= @MM.eq_1;have f0:= @GE.eq_1;have g0:=Zr
 exact gs
theorem KH (s:List (List Int)):∀(k:Int),Ok (Ak s k) E1 (ev AL Gq (.loop FP) [.lv 0, .th FQ] (BO (List.replicate 66 .dead) [(0, .ref (0,0) s.length),(1, .fn MI []),(5, .t (.v (.int .i64 k)))]) (BP (List.replicate 66 []) [(0,[.mem (s.map (rL false rI)) 0 true])])):=by
 unfold Ok
 refine Ak.partial_correctness s _ ?_
 intro F ih k
 show Ok _ _ _
 have ih:∀(k:Int),Ok (F k) _ _:=ih
 rw[AZ]
 have k0:= @FP.eq_1;have k1:= @FQ.eq_1;have g0:=WH;have t0:=ih
 exact gs
theorem MG : ∀ (s:List (List Int)),Ok (B5 s) E1 (dn AL LZ [.ln (s.map (rL false rI)), .fn MI []]):=by
 intro s
 rw[AB AL (fn:=Eo) rfl (xN rfl rfl _) (lB rfl)]
 have k0:= @Eo.eq_1;have f0:= @B5.eq_1;have t0:=KH
 exact gs
theorem Xg : ∀ (f:Ah) (n:A0) (pre:ByteArray) (local1:ByteArray),Ok (N7 f n pre local1) Rb (dn AL Tt [.pp [.v (.int .i64 f.xt.Kind), .v (.string f.xt.Pre), .v (.string f.xt.Local), .v (.string f.xt.Uri), .sl false (f.xt.Decls.map A2.row), .sl false (f.xt.Attrs.map A5.row), .sl false (f.xt.Kids.map (A0.row false)), .v (.string f.xt.Text), .v (.string f.xh.Name), .sl false (f.xh.Ents.map H6.row), .sl false (f.xh.Defs.map CU.row), .sl false (f.xl.map A2.row)], .agg (((A0.row false) n).map .t), .t (.v (.string pre)), .t (.v (.string local1))]):=by
 intro f n pre local1
 rw[AB AL (fn:=JR) rfl (xN rfl rfl _) (lB rfl)]
 have k0:= @JR.eq_1;have f0:= @N7.eq_1;have g0:=SU
 exact gs
theorem Xh : ∀ (f:Ah) (n:A0) (s:AE),Ok (Gn f n s) Rc (dn AL Tr [.pp [.v (.int .i64 f.xt.Kind), .v (.string f.xt.Pre), .v (.string f.xt.Local), .v (.string f.xt.Uri), .sl false (f.xt.Decls.map A2.row), .sl false (f.xt.Attrs.map A5.row), .sl false (f.xt.Kids.map (A0.row false)), .v (.string f.xt.Text), .v (.string f.xh.Name), .sl false (f.xh.Ents.map H6.row), .sl false (f.xh.Defs.map CU.row), .sl false (f.xl.map A2.row)], .agg (((A0.row false) n).map .t), .agg (((AE.row false) s).map .t)]):=by
 intro f n s
 rw[AB AL (fn:=JQ) rfl (xN rfl rfl _) (lB rfl)]
 have k0:= @JQ.eq_1;have f0:= @Gn.eq_1;have g0:=Xg
 exact gs
theorem UX (s:AE) (f:Ah) (n:A0):∀(out2:List (Int)) (x10:Int),Ok (Bg out2 s x10 f n) Ho (ev AL Kt (.loop JN) [.lv 2, .th JO] (BO (List.replicate 59 .dead) [(3, .ptr (3,0) [] 0 0 1 0),(4, .ptr (4,0) [] 0 0 1 0),(7, .t (.sl false (out2.map rI))),(31, .t (.sl false (s.Preds.map AH.row))),(32, .t (.v (.int .i64 (AD s.Preds)))),(33, .t (.v (.int .i64 x10)))]) (BP (List.replicate 59 []) [(3,[.mem [[.pp [.v (.int .i64 f.xt.Kind), .v (.string f.xt.Pre), .v (.string f.xt.Local), .v (.string f.xt.Uri), .sl false (f.xt.Decls.map A2.row), .sl false (f.xt.Attrs.map A5.row), .sl false (f.xt.Kids.map (A0.row false)), .v (.string f.xt.Text), .v (.string f.xh.Name), .sl false (f.xh.Ents.map H6.row), .sl false (f.xh.Defs.map CU.row), .sl false (f.xl.map A2.row)]]] 0 false]),(4,[.mem [[.v (.int .i64 n.Kind), .v (.string n.Pre), .v (.string n.Local), .v (.string n.Uri), .sl false (n.Decls.map A2.row), .sl false (n.Attrs.map A5.row), .sl false (n.Kids.map (A0.row false)), .v (.string n.Text)]] 0 false])])):=by
 unfold Ok
 refine Bg.partial_correctness s f n _ ?_
 intro F ih out2 x10
 show Ok _ _ _
 have ih:∀(out2:List (Int)) (x10:Int),Ok (F out2 x10) _ _:=ih
 rw[AZ]
 have k0:= @JN.eq_1;have k1:= @JO.eq_1;have t0:=ih
 exact gs
theorem VY (n:A0) (f:Ah) (s:AE):∀(out1:List (Int)) (x6:Int),Ok (C8 out1 n x6 f s) Ho (ev AL Kt (.loop Ju) [.lv 0, .th Jv] (BO (List.replicate 59 .dead) [(3, .ptr (3,0) [] 0 0 1 0),(4, .ptr (4,0) [] 0 0 1 0),(5, .ptr (5,0) [] 0 0 1 0),(7, .ref (12,0) out1.length),(14, .t (.sl false (n.Kids.map (A0.row false)))),(15, .t (.v (.int .i64 (AD n.Kids)))),(16, .t (.v (.int .i64 x6)))]) (BP (List.replicate 59 []) [(3,[.mem [[.pp [.v (.int .i64 f.xt.Kind), .v (.string f.xt.Pre), .v (.string f.xt.Local), .v (.string f.xt.Uri), .sl false (f.xt.Decls.map A2.row), .sl false (f.xt.Attrs.map A5.row), .sl false (f.xt.Kids.map (A0.row false)), .v (.string f.xt.Text), .v (.string f.xh.Name), .sl false (f.xh.Ents.map H6.row), .sl false (f.xh.Defs.map CU.row), .sl false (f.xl.map A2.row)]]] 0 false]),(4,[.mem [[.v (.int .i64 n.Kind), .v (.string n.Pre), .v (.string n.Local), .v (.string n.Uri), .sl false (n.Decls.map A2.row), .sl false (n.Attrs.map A5.row), .sl false (n.Kids.map (A0.row false)), .v (.string n.Text)]] 0 false]),(5,[.mem [[.v (.bool s.Deep), .v (.int .i64 s.Kind), .v (.string s.Pre), .v (.string s.Local), .sl false (s.Preds.map AH.row)]] 0 false]),(12,[.mem (out1.map rI) 0 false])])):=by
 unfold Ok
 refine C8.partial_correctness n f s _ ?_
 intro F ih out1 x6
 show Ok _ _ _
 have ih:∀(out1:List (Int)) (x6:Int),Ok (F out1 x6) _ _:=ih
 rw[AZ]
 have k0:= @Ju.eq_1;have k1:= @Jv.eq_1;have g0:=Xh;have t0:=ih;have t1:=UX
 exact gs
theorem Xi : ∀ (f:Ah) (n:A0) (s:AE),Ok (BJ f n s) Ho (dn AL Tu [.pp [.v (.int .i64 f.xt.Kind), .v (.string f.xt.Pre), .v (.string f.xt.Local), .v (.string f.xt.Uri), .sl false (f.xt.Decls.map A2.row), .sl false (f.xt.Attrs.map A5.row), .sl false (f.xt.Kids.map (A0.row false)), .v (.string f.xt.Text), .v (.string f.xh.Name), .sl false (f.xh.Ents.map H6.row), .sl false (f.xh.Defs.map CU.row), .sl false (f.xl.map A2.row)], .agg (((A0.row false) n).map .t), .agg (((AE.row false) s).map .t)]):=by
 intro f n s
 rw[AB AL (fn:=JP) rfl (xN rfl rfl _) (lB rfl)]
 have k0:= @JP.eq_1;have f0:= @BJ.eq_1;have t0:=VY
 exact gs
theorem VZ (f:Ah) (from1:List (List Int)) (s:AE):(∀(out3:List (List Int)) (x11:List Int) (below1:List (List Int)) (x10:Int) (sDeep2:Bool) (r12:A0×Bool),Ok (Cb f out3 x11 below1 from1 x10 sDeep2 s r12) E4 (ev AL Fa JE [.lv 1, .th EL, .hk [.clean [10]], .th (.loop Dj), .lv 0, .th Dk] (BO (List.replicate 77 .dead) [(0, .pp [.v (.int .i64 f.xt.Kind), .v (.string f.xt.Pre), .v (.string f.xt.Local), .v (.string f.xt.Uri), .sl false (f.xt.Decls.map A2.row), .sl false (f.xt.Attrs.map A5.row), .sl false (f.xt.Kids.map (A0.row false)), .v (.string f.xt.Text), .v (.string f.xh.Name), .sl false (f.xh.Ents.map H6.row), .sl false (f.xh.Defs.map CU.row), .sl false (f.xl.map A2.row)]),(5, .ptr (5,0) [] 0 0 1 0),(7, .ref (19,0) out3.length),(9, .t (.sl false (x11.map rI))),(10, .ptr (10,0) [] 0 0 1 0),(12, .t (.sl false (below1.map (rL false rI)))),(20, .t (.sl false (from1.map (rL false rI)))),(21, .t (.v (.int .i64 (AD from1)))),(22, .t (.v (.int .i64 x10)))]) (BP (List.replicate 77 []) [(5,[.mem [[.v (.bool sDeep2), .v (.int .i64 s.Kind), .v (.string s.Pre), .v (.string s.Local), .sl false (s.Preds.map AH.row)]] 0 false]),(10,[.mem [[.v (.int .i64 r12.1.Kind), .v (.string r12.1.Pre), .v (.string r12.1.Local), .v (.string r12.1.Uri), .sl false (r12.1.Decls.map A2.row), .sl false (r12.1.Attrs.map A5.row), .sl false (r12.1.Kids.map (A0.row false)), .v (.string r12.1.Text)]] 0 false]),(19,[.mem (out3.map (rL false rI)) 0 false])])))∧
  (∀(out5:List (List Int)) (x11:List Int) (x10:Int) (below1:List (List Int)) (x16:Int) (sDeep2:Bool) (r12:A0×Bool),Ok (C2 f out5 x11 from1 x10 below1 x16 sDeep2 s r12) E4 (ev AL Fa (.loop G0) [.lv 2, .lv 1, .th EL, .hk [.clean [10]], .th (.loop Dj), .lv 0, .th Dk] (BO (List.replicate 77 .dead) [(0, .pp [.v (.int .i64 f.xt.Kind), .v (.string f.xt.Pre), .v (.string f.xt.Local), .v (.string f.xt.Uri), .sl false (f.xt.Decls.map A2.row), .sl false (f.xt.Attrs.map A5.row), .sl false (f.xt.Kids.map (A0.row false)), .v (.string f.xt.Text), .v (.string f.xh.Name), .sl false (f.xh.Ents.map H6.row), .sl false (f.xh.Defs.map CU.row), .sl false (f.xl.map A2.row)]),(5, .ptr (5,0) [] 0 0 1 0),(7, .ref (19,0) out5.length),(9, .t (.sl false (x11.map rI))),(10, .ptr (10,0) [] 0 0 1 0),(20, .t (.sl false (from1.map (rL false rI)))),(21, .t (.v (.int .i64 (AD from1)))),(22, .t (.v (.int .i64 x10))),(40, .t (.sl false (below1.map (rL false rI)))),(41, .t (.v (.int .i64 (AD below1)))),(42, .t (.v (.int .i64 x16)))]) (BP (List.replicate 77 []) [(5,[.mem [[.v (.bool sDeep2), .v (.int .i64 s.Kind), .v (.string s.Pre), .v (.string s.Local), .sl false (s.Preds.map AH.row)]] 0 false]),(10,[.mem [[.v (.int .i64 r12.1.Kind), .v (.string r12.1.Pre), .v (.string r12.1.Local), .v (.string r12.1.Uri), .sl false (r12.1.Decls.map A2.row), .sl false (r12.1.Attrs.map A5.row), .sl false (r12.1.Kids.map (A0.row false)), .v (.string r12.1.Text)]] 0 false]),(19,[.mem (out5.map (rL false rI)) 0 false])])))∧
  (∀(out3:List (List Int)) (x10:Int) (sDeep1:Bool),Ok (Cs f out3 from1 x10 sDeep1 s) E4 (ev AL Fa (.loop Dj) [.lv 0, .th Dk] (BO (List.replicate 77 .dead) [(0, .pp [.v (.int .i64 f.xt.Kind), .v (.string f.xt.Pre), .v (.string f.xt.Local), .v (.string f.xt.Uri), .sl false (f.xt.Decls.map A2.row), .sl false (f.xt.Attrs.map A5.row), .sl false (f.xt.Kids.map (A0.row false)), .v (.string f.xt.Text), .v (.string f.xh.Name), .sl false (f.xh.Ents.map H6.row), .sl false (f.xh.Defs.map CU.row), .sl false (f.xl.map A2.row)]),(5, .ptr (5,0) [] 0 0 1 0),(7, .ref (19,0) out3.length),(20, .t (.sl false (from1.map (rL false rI)))),(21, .t (.v (.int .i64 (AD from1)))),(22, .t (.v (.int .i64 x10)))]) (BP (List.replicate 77 []) [(5,[.mem [[.v (.bool sDeep1), .v (.int .i64 s.Kind), .v (.string s.Pre), .v (.string s.Local), .sl false (s.Preds.map AH.row)]] 0 false]),(19,[.mem (out3.map (rL false rI)) 0 false])])))∧
  (∀(out6:List (List Int)) (x11:List Int) (x17:List Int) (x10:Int) (below1:List (List Int)) (x16:Int) (r19:List Int) (x19:Int) (sDeep2:Bool) (r12:A0×Bool),Ok (Cc f out6 x11 x17 from1 x10 below1 x16 r19 x19 sDeep2 s r12) E4 (ev AL Fa (.loop JC) [.lv 4, .lv 3, .th JD, .hk [.clean []], .th (.loop G0), .lv 2, .lv 1, .th EL, .hk [.clean [10]], .th (.loop Dj), .lv 0, .th Dk] (BO (List.replicate 77 .dead) [(0, .pp [.v (.int .i64 f.xt.Kind), .v (.string f.xt.Pre), .v (.string f.xt.Local), .v (.string f.xt.Uri), .sl false (f.xt.Decls.map A2.row), .sl false (f.xt.Attrs.map A5.row), .sl false (f.xt.Kids.map (A0.row false)), .v (.string f.xt.Text), .v (.string f.xh.Name), .sl false (f.xh.Ents.map H6.row), .sl false (f.xh.Defs.map CU.row), .sl false (f.xl.map A2.row)]),(5, .ptr (5,0) [] 0 0 1 0),(7, .ref (19,0) out6.length),(9, .t (.sl false (x11.map rI))),(10, .ptr (10,0) [] 0 0 1 0),(14, .t (.sl false (x17.map rI))),(20, .t (.sl false (from1.map (rL false rI)))),(21, .t (.v (.int .i64 (AD from1)))),(22, .t (.v (.int .i64 x10))),(40, .t (.sl false (below1.map (rL false rI)))),(41, .t (.v (.int .i64 (AD below1)))),(42, .t (.v (.int .i64 x16))),(55, .t (.sl false (r19.map rI))),(56, .t (.v (.int .i64 (AD r19)))),(57, .t (.v (.int .i64 x19)))]) (BP (List.replicate 77 []) [(5,[.mem [[.v (.bool sDeep2), .v (.int .i64 s.Kind), .v (.string s.Pre), .v (.string s.Local), .sl false (s.Preds.map AH.row)]] 0 false]),(10,[.mem [[.v (.int .i64 r12.1.Kind), .v (.string r12.1.Pre), .v (.string r12.1.Local), .v (.string r12.1.Uri), .sl false (r12.1.Decls.map A2.row), .sl false (r12.1.Attrs.map A5.row), .sl false (r12.1.Kids.map (A0.row false)), .v (.string r12.1.Text)]] 0 false]),(19,[.mem (out6.map (rL false rI)) 0 false])]))):=by
 unfold Ok
 refine Cb.mutual_partial_correctness f from1 s _ _ _ _ ?_ ?_ ?_ ?_
 ·intro F1 ih1 out3 x11 below1 x10 sDeep2 r12
  show Ok _ _ _
  have ih1:∀(out5:List (List Int)) (x11:List Int) (x10:Int) (below1:List (List Int)) (x16:Int) (sDeep2:Bool) (r12:A0×Bool),Ok (F1 out5 x11 x10 below1 x16 sDeep2 r12) _ _:=ih1
  have k0:= @JE.eq_1;have t0:=ih1
  exact gs
 ·intro F2 F3 ih2 ih3 out5 x11 x10 below1 x16 sDeep2 r12
  show Ok _ _ _
  have ih3:∀(out6:List (List Int)) (x11:List Int) (x17:List Int) (x10:Int) (below1:List (List Int)) (x16:Int) (r19:List Int) (x19:Int) (sDeep2:Bool) (r12:A0×Bool),Ok (F3 out6 x11 x17 x10 below1 x16 r19 x19 sDeep2 r12) _ _:=ih3
  have ih2:∀(out3:List (List Int)) (x10:Int) (sDeep1:Bool),Ok (F2 out3 x10 sDeep1) _ _:=ih2
  rw[AZ]
  have k0:= @G0.eq_1;have k1:= @EL.eq_1;have g0:=Iv;have g1:=Xi;have t0:=ih3;have t1:=ih2
  exact gs
 ·intro F0 ih0 out3 x10 sDeep1
  show Ok _ _ _
  have ih0:∀(out3:List (List Int)) (x11:List Int) (below1:List (List Int)) (x10:Int) (sDeep2:Bool) (r12:A0×Bool),Ok (F0 out3 x11 below1 x10 sDeep2 r12) _ _:=ih0
  rw[AZ]
  have k0:= @Dj.eq_1;have k1:= @Dk.eq_1;have g0:=Iv;have g1:=Z4;have g2:=LX;have g3:=MG;have t0:=ih0
  exact gs
 ·intro F1 F3 ih1 ih3 out6 x11 x17 x10 below1 x16 r19 x19 sDeep2 r12
  show Ok _ _ _
  have ih3:∀(out6:List (List Int)) (x11:List Int) (x17:List Int) (x10:Int) (below1:List (List Int)) (x16:Int) (r19:List Int) (x19:Int) (sDeep2:Bool) (r12:A0×Bool),Ok (F3 out6 x11 x17 x10 below1 x16 r19 x19 sDeep2 r12) _ _:=ih3
  have ih1:∀(out5:List (List Int)) (x11:List Int) (x10:Int) (below1:List (List Int)) (x16:Int) (sDeep2:Bool) (r12:A0×Bool),Ok (F1 out5 x11 x10 below1 x16 sDeep2 r12) _ _:=ih1
  rw[AZ]
  have k0:= @JC.eq_1;have k1:= @JD.eq_1;have g0:=Re;have t0:=ih3;have t1:=ih1
  exact gs
theorem Xj : ∀ (f:Ah) (from1:List (List Int)) (s:AE),Ok (E0 f from1 s) E4 (dn AL Ts [.pp [.v (.int .i64 f.xt.Kind), .v (.string f.xt.Pre), .v (.string f.xt.Local), .v (.string f.xt.Uri), .sl false (f.xt.Decls.map A2.row), .sl false (f.xt.Attrs.map A5.row), .sl false (f.xt.Kids.map (A0.row false)), .v (.string f.xt.Text), .v (.string f.xh.Name), .sl false (f.xh.Ents.map H6.row), .sl false (f.xh.Defs.map CU.row), .sl false (f.xl.map A2.row)], .t (.sl false (from1.map (rL false rI))), .agg (((AE.row false) s).map .t)]):=by
 intro f from1 s
 rw[AB AL (fn:=JF) rfl (xN rfl rfl _) (lB rfl)]
 have k0:= @JF.eq_1;have f0:= @E0.eq_1;have t0:=fun a0 a1 a2=>(VZ a0 a1 a2).2.2.1
 exact gs
theorem US : ∀ (local1:ByteArray) (uri:ByteArray) (a:A5),Ok (Fj local1 uri a) JW (ev AL PS Ie [] (BO (List.replicate 31 .dead) [(3, .t (.v (.string local1))),(5, .ptr (5,0) [] 0 0 1 0),(9, .t (.v (.string uri)))]) (BP (List.replicate 31 []) [(5,[.mem [[.v (.string a.Pre), .v (.string a.Local), .v (.string a.Uri), .v (.string a.Val)]] 0 false])])):=by
 intro local1 uri a
 have k0:= @Ie.eq_1;have f0:= @Fj.eq_1
 exact gs
theorem WI : ∀ (f:Ah) (a:A5) (pre:ByteArray) (local1:ByteArray),Ok (Kr f a pre local1) JW (dn AL RP [.pp [.v (.int .i64 f.xt.Kind), .v (.string f.xt.Pre), .v (.string f.xt.Local), .v (.string f.xt.Uri), .sl false (f.xt.Decls.map A2.row), .sl false (f.xt.Attrs.map A5.row), .sl false (f.xt.Kids.map (A0.row false)), .v (.string f.xt.Text), .v (.string f.xh.Name), .sl false (f.xh.Ents.map H6.row), .sl false (f.xh.Defs.map CU.row), .sl false (f.xl.map A2.row)], .agg ((A5.row a).map .t), .t (.v (.string pre)), .t (.v (.string local1))]):=by
 intro f a pre local1
 rw[AB AL (fn:=HO) rfl (xN rfl rfl _) (lB rfl)]
 have k0:= @HO.eq_1;have f0:= @Kr.eq_1;have g0:=SU;have t0:=US
 exact gs
theorem UY (path:List Int) (r:A0×Bool) (s:AE):∀(out2:List (Am)) (x7:Int),Ok (DW path out2 r x7 s) Hp (ev AL Ku (.loop JH) [.lv 2, .th JI] (BO (List.replicate 77 .dead) [(1, .t (.sl false (path.map rI))),(5, .ptr (5,0) [] 0 0 1 0),(9, .ref (23,0) out2.length),(52, .t (.sl false (r.1.Decls.map A2.row))),(53, .t (.v (.int .i64 (AD r.1.Decls)))),(54, .t (.v (.int .i64 x7)))]) (BP (List.replicate 77 []) [(5,[.mem [[.v (.bool s.Deep), .v (.int .i64 s.Kind), .v (.string s.Pre), .v (.string s.Local), .sl false (s.Preds.map AH.row)]] 0 false]),(23,[.mem (out2.map (Am.row false)) 0 false])])):=by
 unfold Ok
 refine DW.partial_correctness path r s _ ?_
 intro F ih out2 x7
 show Ok _ _ _
 have ih:∀(out2:List (Am)) (x7:Int),Ok (F out2 x7) _ _:=ih
 rw[AZ]
 have k0:= @JH.eq_1;have k1:= @JI.eq_1;have t0:=ih
 exact gs
theorem UZ (f:Ah) (path:List Int) (r:A0×Bool) (s:AE):∀(out1:List (Am)) (x4:Int),Ok (Cd f path out1 r x4 s) Hp (ev AL Ku (.loop JG) [.lv 0, .th Jt] (BO (List.replicate 77 .dead) [(0, .pp [.v (.int .i64 f.xt.Kind), .v (.string f.xt.Pre), .v (.string f.xt.Local), .v (.string f.xt.Uri), .sl false (f.xt.Decls.map A2.row), .sl false (f.xt.Attrs.map A5.row), .sl false (f.xt.Kids.map (A0.row false)), .v (.string f.xt.Text), .v (.string f.xh.Name), .sl false (f.xh.Ents.map H6.row), .sl false (f.xh.Defs.map CU.row), .sl false (f.xl.map A2.row)]),(1, .t (.sl false (path.map rI))),(5, .ptr (5,0) [] 0 0 1 0),(7, .ptr (7,0) [] 0 0 1 0),(9, .ref (23,0) out1.length),(25, .t (.sl false (r.1.Attrs.map A5.row))),(26, .t (.v (.int .i64 (AD r.1.Attrs)))),(27, .t (.v (.int .i64 x4)))]) (BP (List.replicate 77 []) [(5,[.mem [[.v (.bool s.Deep), .v (.int .i64 s.Kind), .v (.string s.Pre), .v (.string s.Local), .sl false (s.Preds.map AH.row)]] 0 false]),(7,[.mem [[.v (.int .i64 r.1.Kind), .v (.string r.1.Pre), .v (.string r.1.Local), .v (.string r.1.Uri), .sl false (r.1.Decls.map A2.row), .sl false (r.1.Attrs.map A5.row), .sl false (r.1.Kids.map (A0.row false)), .v (.string r.1.Text)]] 0 false]),(23,[.mem (out1.map (Am.row false)) 0 false])])):=by
 unfold Ok
 refine Cd.partial_correctness f path r s _ ?_
 intro F ih out1 x4
 show Ok _ _ _
 have ih:∀(out1:List (Am)) (x4:Int),Ok (F out1 x4) _ _:=ih
 rw[AZ]
 have k0:= @JG.eq_1;have k1:= @Jt.eq_1;have g0:=WI;have t0:=ih;have t1:=UY
 exact gs
theorem Xk : ∀ (f:Ah) (path:List Int) (s:AE),Ok (N8 f path s) Hp (dn AL Tq [.pp [.v (.int .i64 f.xt.Kind), .v (.string f.xt.Pre), .v (.string f.xt.Local), .v (.string f.xt.Uri), .sl false (f.xt.Decls.map A2.row), .sl false (f.xt.Attrs.map A5.row), .sl false (f.xt.Kids.map (A0.row false)), .v (.string f.xt.Text), .v (.string f.xh.Name), .sl false (f.xh.Ents.map H6.row), .sl false (f.xh.Defs.map CU.row), .sl false (f.xl.map A2.row)], .t (.sl false (path.map rI)), .agg (((AE.row false) s).map .t)]):=by
 intro f path s
 rw[AB AL (fn:=JJ) rfl (xN rfl rfl _) (lB rfl)]
 have k0:= @JJ.eq_1;have f0:= @N8.eq_1;have g0:=Iv;have t0:=UZ
 exact gs
theorem fc (t:A0) (h:Dm) (l:List A2) (paths:List (List Int)) (x9:AE):∀(out2:List (Am)) (x12:Int),Ok (M6 t h l out2 paths x12 x9) NW (ev AL Rd (.loop Rr) [.lv 2, .th Rs, .th MK, .lv 1, .th ML, .hk [.clean [14]], .th (.loop Jf), .lv 0, .th Jg] (BO (List.replicate 90 .dead) [(10, .pp [.v (.int .i64 t.Kind), .v (.string t.Pre), .v (.string t.Local), .v (.string t.Uri), .sl false (t.Decls.map A2.row), .sl false (t.Attrs.map A5.row), .sl false (t.Kids.map (A0.row false)), .v (.string t.Text), .v (.string h.Name), .sl false (h.Ents.map H6.row), .sl false (h.Defs.map CU.row), .sl false (l.map A2.row)]),(12, .ref (42,0) out2.length),(14, .ptr (14,0) [] 0 0 1 0),(58, .t (.sl false (paths.map (rL false rI)))),(59, .t (.v (.int .i64 (AD paths)))),(60, .t (.v (.int .i64 x12)))]) (BP (List.replicate 90 []) [(14,[.mem [[.v (.bool x9.Deep), .v (.int .i64 x9.Kind), .v (.string x9.Pre), .v (.string x9.Local), .sl false (x9.Preds.map AH.row)]] 0 false]),(42,[.mem (out2.map (Am.row false)) 0 false])])):=by
 unfold Ok
 refine M6.partial_correctness t h l paths x9 _ ?_
 intro F ih out2 x12
 show Ok _ _ _
 have ih:∀(out2:List (Am)) (x12:Int),Ok (F out2 x12) _ _:=ih
 rw[AZ]
 have k0:= @Rr.eq_1;have k1:= @Rs.eq_1;have g0:=Xk;have t0:=ih
 exact gs
theorem fe (paths:List (List Int)):∀(out3:List (Am)) (x15:Int),Ok (IA out3 paths x15) NW (ev AL Rd (.loop Ru) [.lv 4, .th Rv] (BO (List.replicate 90 .dead) [(12, .ref (42,0) out3.length),(77, .t (.sl false (paths.map (rL false rI)))),(78, .t (.v (.int .i64 (AD paths)))),(79, .t (.v (.int .i64 x15)))]) (BP (List.replicate 90 []) [(42,[.mem (out3.map (Am.row false)) 0 false])])):=by
 unfold Ok
 refine IA.partial_correctness paths _ ?_
 intro F ih out3 x15
 show Ok _ _ _
 have ih:∀(out3:List (Am)) (x15:Int),Ok (F out3 x15) _ _:=ih
 rw[AZ]
 have k0:= @Ru.eq_1;have k1:= @Rv.eq_1;have t0:=ih
 exact gs
theorem iz (t:A0) (h:Dm) (l:List A2) (s:B8):(∀(paths:List (List Int)) (x8:Int) (x10:Bool) (x9:AE),Ok (Jn t h l paths s x8 x10 x9) NW (ev AL Rd Rt [.th MK, .lv 1, .th ML, .hk [.clean [14]], .th (.loop Jf), .lv 0, .th Jg] (BO (List.replicate 90 .dead) [(10, .pp [.v (.int .i64 t.Kind), .v (.string t.Pre), .v (.string t.Local), .v (.string t.Uri), .sl false (t.Decls.map A2.row), .sl false (t.Attrs.map A5.row), .sl false (t.Kids.map (A0.row false)), .v (.string t.Text), .v (.string h.Name), .sl false (h.Ents.map H6.row), .sl false (h.Defs.map CU.row), .sl false (l.map A2.row)]),(11, .t (.sl false (paths.map (rL false rI)))),(12, .ref (42,0) 0),(14, .ptr (14,0) [] 0 0 1 0),(44, .t (.sl false (s.Steps.map (AE.row false)))),(45, .t (.v (.int .i64 (AD s.Steps)))),(46, .t (.v (.int .i64 x8))),(57, .t (.v (.bool x10)))]) (BP (List.replicate 90 []) [(14,[.mem [[.v (.bool x9.Deep), .v (.int .i64 x9.Kind), .v (.string x9.Pre), .v (.string x9.Local), .sl false (x9.Preds.map AH.row)]] 0 false]),(42,[.mem [] 0 false])])))∧
  (∀(paths:List (List Int)) (x8:Int),Ok (EH t h l paths s x8) NW (ev AL Rd (.loop Jf) [.lv 0, .th Jg] (BO (List.replicate 90 .dead) [(10, .pp [.v (.int .i64 t.Kind), .v (.string t.Pre), .v (.string t.Local), .v (.string t.Uri), .sl false (t.Decls.map A2.row), .sl false (t.Attrs.map A5.row), .sl false (t.Kids.map (A0.row false)), .v (.string t.Text), .v (.string h.Name), .sl false (h.Ents.map H6.row), .sl false (h.Defs.map CU.row), .sl false (l.map A2.row)]),(11, .t (.sl false (paths.map (rL false rI)))),(12, .ref (42,0) 0),(44, .t (.sl false (s.Steps.map (AE.row false)))),(45, .t (.v (.int .i64 (AD s.Steps)))),(46, .t (.v (.int .i64 x8)))]) (BP (List.replicate 90 []) [(42,[.mem [] 0 false])]))):=by
 unfold Ok
 refine Jn.mutual_partial_correctness t h l s _ _ ?_ ?_
 ·intro F1 ih1 paths x8 x10 x9
  show Ok _ _ _
  have ih1:∀(paths:List (List Int)) (x8:Int),Ok (F1 paths x8) _ _:=ih1
  have k0:= @Rt.eq_1;have k1:= @ML.eq_1;have k2:= @MK.eq_1;have g0:=Xj;have t0:=fc;have t1:=ih1
  exact gs
 ·intro F0 ih0 paths x8
  show Ok _ _ _
  have ih0:∀(paths:List (List Int)) (x8:Int) (x10:Bool) (x9:AE),Ok (F0 paths x8 x10 x9) _ _:=ih0
  rw[AZ]
  have k0:= @Jf.eq_1;have k1:= @Jg.eq_1;have t0:=ih0;have t1:=fe
  exact gs
theorem tc : ∀ (t:A0) (h:Dm) (s:B8) (l:List A2),Ok (Te t h s l) NW (dn AL gq [.agg (((A0.row false) t).map .t), .agg (((Dm.row false) h).map .t), .agg (((B8.row false) s).map .t), .t (.sl false (l.map A2.row))]):=by
 intro t h s l
 rw[AB AL (fn:=Uh) rfl (xN rfl rfl _) (lB rfl)]
 have k0:= @Uh.eq_1;have f0:= @Te.eq_1;have g0:=lw;have g1:=VS;have g2:=p7;have g3:=Ws;have t0:=fun a0 a1 a2 a3=>(iz a0 a1 a2 a3).2
 exact gs
theorem Us : ∀ (s:ByteArray),Ok (Ip s) WC (dn AL IX [.t (.v (.string s))]):=by
 intro s
 rw[AB AL (fn:=L9) rfl (xN rfl rfl _) (lB rfl)]
 have k0:= @L9.eq_1;have f0:= @Ip.eq_1;have g0:=IS
 exact gs
theorem ff : ∀ (s:AE),Ok (Jo s) XR (dn AL XD [.agg (((AE.row false) s).map .t)]):=by
 intro s
 rw[AB AL (fn:=MO) rfl (xN rfl rfl _) (lB rfl)]
 have k0:= @MO.eq_1;have f0:= @Jo.eq_1;have g0:=QH
 exact gs
theorem j3 : ∀ (s:Int),Ok (strconv_Itoa s) UN (dn AL Tz [.t (.v (.int .i64 s))]):=by
 intro s r hr
 exact L5 AL.ft (xOf AL) (A1F s (e:=UN) (fun _=>rfl) hr)
theorem fh : ∀ (p:AH),Ok (Jp p) XS (dn AL XB [.agg ((AH.row p).map .t)]):=by
 intro p
 rw[AB AL (fn:=MP) rfl (xN rfl rfl _) (lB rfl)]
 have k0:= @MP.eq_1;have f0:= @Jp.eq_1;have g0:=j3;have g1:=QH;have g2:=Us
 exact gs
end TT
