import Derived.Test.YtpmnlfgdicmiiaaGreatDoorTLLg
set_option maxHeartbeats 2000000
set_option linter.unusedVariables false
set_option linter.unusedSimpArgs false
set_option linter.defProp false
set_option maxRecDepth 100000
namespace TT
open Go
open Nat (reduceAdd reduceSub reduceMul reduceLeDiff reduceLT reduceEqDiff)
theorem TV : ∀ (x3:Int) (n1:Int),Ok (Gi x3 n1) IP (ev AF Mh I7 [] (BE (List.replicate 25 .dead) [(0, .t (.v (.int .u64 x3))),(2, .t (.v (.int .i64 n1)))]) (BF (List.replicate 25 []) [])):=by
 intro x3 n1
 have k0:= @I7.eq_1;have f0:= @Gi.eq_1
 exact gs
theorem U4 : ∀ (x1:Int) (n:Int),Ok (Hg x1 n) IP (ev AF Mh Ii [] (BE (List.replicate 25 .dead) [(0, .t (.v (.int .u64 x1))),(2, .t (.v (.int .i64 n)))]) (BF (List.replicate 25 []) [])):=by
 intro x1 n
 have k0:= @Ii.eq_1;have f0:= @Hg.eq_1;have t0:=TV
 exact gs
theorem XY : ∀ (a0:Int),Ok (PL a0) IP (dn AF RH [.t (.v (.int .u64 a0))]):=by
 intro a0
 rw[A7 AF (fn:=IL) rfl (xN rfl rfl _) (lB rfl)]
 have k0:= @IL.eq_1;have f0:= @PL.eq_1;have t0:=U4
 exact gs
theorem ZY : ∀ (a0:Int),Ok (OA a0) Tu (dn AF Tl [.t (.v (.int .u64 a0))]):=by
 intro a0
 rw[A7 AF (fn:=KA) rfl (xN rfl rfl _) (lB rfl)]
 have k0:= @KA.eq_1;have f0:= @OA.eq_1;have g0:=XY
 exact gs
theorem ZZ : ∀ (a0:Int),Ok (Ji a0) Tv (dn AF Oq [.t (.v (.int .i64 a0))]):=by
 intro a0
 rw[A7 AF (fn:=KH) rfl (xN rfl rfl _) (lB rfl)]
 have k0:= @KH.eq_1;have f0:= @Ji.eq_1
 exact gs
theorem XZ : ∀ (a0:Int) (y:Int),Ok (Ht a0 y) RT (dn AF RF [.t (.v (.int .i64 a0)), .t (.v (.int .i64 y))]):=by
 intro a0 y
 rw[A7 AF (fn:=IM) rfl (xN rfl rfl _) (lB rfl)]
 have k0:= @IM.eq_1;have f0:= @Ht.eq_1;have g0:=ZZ
 exact gs
theorem S8 (s1:List Int) (s2:List Int):∀(x2:Int),Ok (BN s1 s2 x2) Ir (ev AF Oa (.loop Gy) [.lv 0, .th Gz] (BE (List.replicate 36 .dead) [(0, .t (.sl false (s1.map rI))),(1, .t (.sl false (s2.map rI))),(9, .t (.sl false (s1.map rI))),(10, .t (.v (.int .i64 (AD s1)))),(11, .t (.v (.int .i64 x2)))]) (BF (List.replicate 36 []) [])):=by
 unfold Ok
 refine BN.partial_correctness s1 s2 _ ?_
 intro F ih x2
 show Ok _ _ _
 have ih:∀(x2:Int),Ok (F x2) _ _:=ih
 rw[AU]
 have k0:= @Gy.eq_1;have k1:= @Gz.eq_1;have g0:=XZ;have t0:=ih
 exact gs
theorem U5 : ∀ (s1:List Int) (s2:List Int),Ok (Hh s1 s2) Ir (dn AF OS [.t (.sl false (s1.map rI)), .t (.sl false (s2.map rI))]):=by
 intro s1 s2
 rw[A7 AF (fn:=Fv) rfl (xN rfl rfl _) (lB rfl)]
 have k0:= @Fv.eq_1;have f0:= @Hh.eq_1;have t0:=S8
 exact gs
theorem U6 : ∀ (a:List Int) (b:List Int),Ok (FR a b) Ob (dn AF CI [.t (.sl false (a.map rI)), .t (.sl false (b.map rI))]):=by
 intro a b
 rw[A7 AF (fn:=Fu) rfl (xN rfl rfl _) (lB rfl)]
 have k0:= @Fu.eq_1;have f0:= @FR.eq_1;have g0:=U5
 exact gs
theorem Eo (a:Int) (b:Int):(∀(data3:List (List Int)) (i:Int) (j1:Int),Ok (AC data3 a b i j1) Ah (ev AF BD (.loop CM) [.lv 2, .lv 1, .th CN, .hk [.clean []], .th (.loop BM), .lv 0] (BE (List.replicate 53 .dead) [(0, .ref (0,0) data3.length),(1, .t (.v (.int .i64 a))),(2, .t (.v (.int .i64 b))),(3, .fn CI []),(8, .t (.v (.int .i64 i))),(9, .t (.v (.int .i64 j1)))]) (BF (List.replicate 53 []) [(0,[.mem (data3.map (rL false rI)) 0 true])])))∧
  (∀(data2:List (List Int)) (i:Int),Ok (AE data2 a b i) Ah (ev AF BD (.loop BM) [.lv 0] (BE (List.replicate 53 .dead) [(0, .ref (0,0) data2.length),(1, .t (.v (.int .i64 a))),(2, .t (.v (.int .i64 b))),(3, .fn CI []),(8, .t (.v (.int .i64 i)))]) (BF (List.replicate 53 []) [(0,[.mem (data2.map (rL false rI)) 0 true])]))):=by
 unfold Ok
 refine AC.mutual_partial_correctness a b _ _ ?_ ?_
 ·intro F0 F1 ih0 ih1 data3 i j1
  show Ok _ _ _
  have ih0:∀(data3:List (List Int)) (i:Int) (j1:Int),Ok (F0 data3 i j1) _ _:=ih0
  have ih1:∀(data2:List (List Int)) (i:Int),Ok (F1 data2 i) _ _:=ih1
  rw[AU]
  have k0:= @CM.eq_1;have k1:= @CN.eq_1;have g0:=U6;have t0:=ih0;have t1:=ih1
  exact gs
 ·intro F0 ih0 data2 i
  show Ok _ _ _
  have ih0:∀(data3:List (List Int)) (i:Int) (j1:Int),Ok (F0 data3 i j1) _ _:=ih0
  rw[AU]
  have k0:= @BM.eq_1;have t0:=ih0
  exact gs
theorem Fa : ∀ (data:List (List Int)) (a:Int) (b:Int),Ok (Am data a b) Ah (dn AF FE [.ln (data.map (rL false rI)), .t (.v (.int .i64 a)), .t (.v (.int .i64 b)), .fn CI []]):=by
 intro data a b
 rw[A7 AF (fn:=Bi) rfl (xN rfl rfl _) (lB rfl)]
 have k0:= @Bi.eq_1;have f0:= @Am.eq_1;have t0:=fun a0 a1=>(Eo a0 a1).2
 exact gs
theorem GU : ∀ (data:List (List Int)) (a:Int) (b:Int) (limit:Int),Ok (Au data a b limit) Bt (ev AF DZ (.loop Dl) [.lv 0] (BE (List.replicate 148 .dead) [(0, .ref (0,0) data.length),(1, .t (.v (.int .i64 a))),(2, .t (.v (.int .i64 b))),(3, .t (.v (.int .i64 limit))),(4, .fn CI []),(10, .t (.v (.bool true))),(11, .t (.v (.bool true)))]) (BF (List.replicate 148 []) [(0,[.mem (data.map (rL false rI)) 0 true])])):=by
 intro data a b limit
 rw[AU]
 have k0:= @Dl.eq_1;have f0:= @Au.eq_1;have g0:=Fa
 exact gs
theorem H9 : ∀ (data:List (List Int)) (a:Int) (b:Int) (limit:Int),Ok (B9 data a b limit) Bt (dn AF Cu [.ln (data.map (rL false rI)), .t (.v (.int .i64 a)), .t (.v (.int .i64 b)), .t (.v (.int .i64 limit)), .fn CI []]):=by
 intro data a b limit
 rw[A7 AF (fn:=Cw) rfl (xN rfl rfl _) (lB rfl)]
 have k0:= @Cw.eq_1;have f0:= @B9.eq_1;have t0:=GU
 exact gs
theorem JI : ∀ (a0:List (List Int)),Ok (B8 a0) Ef (dn AF LY [.ln (a0.map (rL false rI)), .fn CI []]):=by
 intro a0
 rw[A7 AF (fn:=Ej) rfl (xN rfl rfl _) (lB rfl)]
 have k0:= @Ej.eq_1;have f0:= @B8.eq_1;have g0:=ZY;have g1:=H9
 exact gs
theorem Sm (s1:List Int) (s2:List Int):∀(x2:Int),Ok (Bd s1 s2 x2) Kh (ev AF Qx (.loop Hd) [.lv 0, .th He] (BE (List.replicate 26 .dead) [(0, .t (.sl false (s1.map rI))),(1, .t (.sl false (s2.map rI))),(12, .t (.v (.int .i64 (AD s1)))),(13, .t (.v (.int .i64 x2)))]) (BF (List.replicate 26 []) [])):=by
 unfold Ok
 refine Bd.partial_correctness s1 s2 _ ?_
 intro F ih x2
 show Ok _ _ _
 have ih:∀(x2:Int),Ok (F x2) _ _:=ih
 rw[AU]
 have k0:= @Hd.eq_1;have k1:= @He.eq_1;have t0:=ih
 exact gs
theorem W4 : ∀ (s1:List Int) (s2:List Int),Ok (H5 s1 s2) Kh (dn AF Qe [.t (.sl false (s1.map rI)), .t (.sl false (s2.map rI))]):=by
 intro s1 s2
 rw[A7 AF (fn:=Hf) rfl (xN rfl rfl _) (lB rfl)]
 have k0:= @Hf.eq_1;have f0:= @H5.eq_1;have t0:=Sm
 exact gs
theorem Za : ∀ (a:List Int) (b:List Int),Ok (GR a b) Tw (dn AF Ou [.t (.sl false (a.map rI)), .t (.sl false (b.map rI))]):=by
 intro a b
 rw[A7 AF (fn:=KB) rfl (xN rfl rfl _) (lB rfl)]
 have k0:= @KB.eq_1;have f0:= @GR.eq_1;have g0:=W4
 exact gs
theorem IR (s:List (List Int)):∀(k:Int),Ok (AO s k) D6 (ev AF FV (.loop EF) [.lv 0, .th EG] (BE (List.replicate 66 .dead) [(0, .ref (0,0) s.length),(1, .fn Ou []),(5, .t (.v (.int .i64 k)))]) (BF (List.replicate 66 []) [(0,[.mem (s.map (rL false rI)) 0 true])])):=by
 unfold Ok
 refine AO.partial_correctness s _ ?_
 intro F ih k
 show Ok _ _ _
 have ih:∀(k:Int),Ok (F k) _ _:=ih
 rw[AU]
 have k0:= @EF.eq_1;have k1:= @EG.eq_1;have g0:=Za;have t0:=ih
 exact gs
theorem Jt : ∀ (s:List (List Int)),Ok (AR s) D6 (dn AF JK [.ln (s.map (rL false rI)), .fn Ou []]):=by
 intro s
 rw[A7 AF (fn:=Dp) rfl (xN rfl rfl _) (lB rfl)]
 have k0:= @Dp.eq_1;have f0:= @AR.eq_1;have t0:=IR
 exact gs
theorem U7 : ∀ (f:AP) (n:A0) (pre:ByteArray) (local1:ByteArray),Ok (Kd f n pre local1) Oc (dn AF Qc [.pp [.v (.int .i64 f.xt.Kind), .v (.string f.xt.Pre), .v (.string f.xt.Local), .v (.string f.xt.Uri), .sl false (f.xt.Decls.map A1.row), .sl false (f.xt.Attrs.map A3.row), .sl false (f.xt.Kids.map (A0.row false)), .v (.string f.xt.Text), .v (.string f.xh.Name), .sl false (f.xh.Ents.map Fg.row), .sl false (f.xh.Defs.map Bh.row), .sl false (f.xl.map A1.row)], .agg (((A0.row false) n).map .t), .t (.v (.string pre)), .t (.v (.string local1))]):=by
 intro f n pre local1
 rw[A7 AF (fn:=Hc) rfl (xN rfl rfl _) (lB rfl)]
 have k0:= @Hc.eq_1;have f0:= @Kd.eq_1;have g0:=PQ
 exact gs
theorem U8 : ∀ (f:AP) (n:A0) (s:AJ),Ok (FS f n s) Od (dn AF Qa [.pp [.v (.int .i64 f.xt.Kind), .v (.string f.xt.Pre), .v (.string f.xt.Local), .v (.string f.xt.Uri), .sl false (f.xt.Decls.map A1.row), .sl false (f.xt.Attrs.map A3.row), .sl false (f.xt.Kids.map (A0.row false)), .v (.string f.xt.Text), .v (.string f.xh.Name), .sl false (f.xh.Ents.map Fg.row), .sl false (f.xh.Defs.map Bh.row), .sl false (f.xl.map A1.row)], .agg (((A0.row false) n).map .t), .agg (((AJ.row false) s).map .t)]):=by
 intro f n s
 rw[A7 AF (fn:=Ha) rfl (xN rfl rfl _) (lB rfl)]
 have k0:= @Ha.eq_1;have f0:= @FS.eq_1;have g0:=U7
 exact gs
theorem RA (s:AJ) (f:AP) (n:A0):∀(out2:List (Int)) (x10:Int),Ok (BI out2 s x10 f n) GC (ev AF Is (.loop HX) [.lv 2, .th HY] (BE (List.replicate 59 .dead) [(3, .ptr (3,0) [] 0 0 1 0),(4, .ptr (4,0) [] 0 0 1 0),(7, .t (.sl false (out2.map rI))),(31, .t (.sl false (s.Preds.map AH.row))),(32, .t (.v (.int .i64 (AD s.Preds)))),(33, .t (.v (.int .i64 x10)))]) (BF (List.replicate 59 []) [(3,[.mem [[.pp [.v (.int .i64 f.xt.Kind), .v (.string f.xt.Pre), .v (.string f.xt.Local), .v (.string f.xt.Uri), .sl false (f.xt.Decls.map A1.row), .sl false (f.xt.Attrs.map A3.row), .sl false (f.xt.Kids.map (A0.row false)), .v (.string f.xt.Text), .v (.string f.xh.Name), .sl false (f.xh.Ents.map Fg.row), .sl false (f.xh.Defs.map Bh.row), .sl false (f.xl.map A1.row)]]] 0 false]),(4,[.mem [[.v (.int .i64 n.Kind), .v (.string n.Pre), .v (.string n.Local), .v (.string n.Uri), .sl false (n.Decls.map A1.row), .sl false (n.Attrs.map A3.row), .sl false (n.Kids.map (A0.row false)), .v (.string n.Text)]] 0 false])])):=by
 unfold Ok
 refine BI.partial_correctness s f n _ ?_
 intro F ih out2 x10
 show Ok _ _ _
 have ih:∀(out2:List (Int)) (x10:Int),Ok (F out2 x10) _ _:=ih
 rw[AU]
 have k0:= @HX.eq_1;have k1:= @HY.eq_1;have t0:=ih
 exact gs
theorem S9 (n:A0) (f:AP) (s:AJ):∀(out1:List (Int)) (x6:Int),Ok (BO out1 n x6 f s) GC (ev AF Is (.loop I5) [.lv 0, .th I6] (BE (List.replicate 59 .dead) [(3, .ptr (3,0) [] 0 0 1 0),(4, .ptr (4,0) [] 0 0 1 0),(5, .ptr (5,0) [] 0 0 1 0),(7, .ref (12,0) out1.length),(14, .t (.sl false (n.Kids.map (A0.row false)))),(15, .t (.v (.int .i64 (AD n.Kids)))),(16, .t (.v (.int .i64 x6)))]) (BF (List.replicate 59 []) [(3,[.mem [[.pp [.v (.int .i64 f.xt.Kind), .v (.string f.xt.Pre), .v (.string f.xt.Local), .v (.string f.xt.Uri), .sl false (f.xt.Decls.map A1.row), .sl false (f.xt.Attrs.map A3.row), .sl false (f.xt.Kids.map (A0.row false)), .v (.string f.xt.Text), .v (.string f.xh.Name), .sl false (f.xh.Ents.map Fg.row), .sl false (f.xh.Defs.map Bh.row), .sl false (f.xl.map A1.row)]]] 0 false]),(4,[.mem [[.v (.int .i64 n.Kind), .v (.string n.Pre), .v (.string n.Local), .v (.string n.Uri), .sl false (n.Decls.map A1.row), .sl false (n.Attrs.map A3.row), .sl false (n.Kids.map (A0.row false)), .v (.string n.Text)]] 0 false]),(5,[.mem [[.v (.bool s.Deep), .v (.int .i64 s.Kind), .v (.string s.Pre), .v (.string s.Local), .sl false (s.Preds.map AH.row)]] 0 false]),(12,[.mem (out1.map rI) 0 false])])):=by
 unfold Ok
 refine BO.partial_correctness n f s _ ?_
 intro F ih out1 x6
 show Ok _ _ _
 have ih:∀(out1:List (Int)) (x6:Int),Ok (F out1 x6) _ _:=ih
 rw[AU]
 have k0:= @I5.eq_1;have k1:= @I6.eq_1;have g0:=U8;have t0:=ih;have t1:=RA
 exact gs
theorem U9 : ∀ (f:AP) (n:A0) (s:AJ),Ok (Ar f n s) GC (dn AF Qd [.pp [.v (.int .i64 f.xt.Kind), .v (.string f.xt.Pre), .v (.string f.xt.Local), .v (.string f.xt.Uri), .sl false (f.xt.Decls.map A1.row), .sl false (f.xt.Attrs.map A3.row), .sl false (f.xt.Kids.map (A0.row false)), .v (.string f.xt.Text), .v (.string f.xh.Name), .sl false (f.xh.Ents.map Fg.row), .sl false (f.xh.Defs.map Bh.row), .sl false (f.xl.map A1.row)], .agg (((A0.row false) n).map .t), .agg (((AJ.row false) s).map .t)]):=by
 intro f n s
 rw[A7 AF (fn:=HZ) rfl (xN rfl rfl _) (lB rfl)]
 have k0:= @HZ.eq_1;have f0:= @Ar.eq_1;have t0:=S9
 exact gs
theorem SA (f:AP) (from1:List (List Int)) (s:AJ):(∀(out3:List (List Int)) (x11:List Int) (below1:List (List Int)) (x10:Int) (sDeep2:Bool) (r12:A0×Bool),Ok (Bn f out3 x11 below1 from1 x10 sDeep2 s r12) D9 (ev AF EN HQ [.lv 1, .th DP, .hk [.clean [10]], .th (.loop Cn), .lv 0, .th Cp] (BE (List.replicate 77 .dead) [(0, .pp [.v (.int .i64 f.xt.Kind), .v (.string f.xt.Pre), .v (.string f.xt.Local), .v (.string f.xt.Uri), .sl false (f.xt.Decls.map A1.row), .sl false (f.xt.Attrs.map A3.row), .sl false (f.xt.Kids.map (A0.row false)), .v (.string f.xt.Text), .v (.string f.xh.Name), .sl false (f.xh.Ents.map Fg.row), .sl false (f.xh.Defs.map Bh.row), .sl false (f.xl.map A1.row)]),(5, .ptr (5,0) [] 0 0 1 0),(7, .ref (19,0) out3.length),(9, .t (.sl false (x11.map rI))),(10, .ptr (10,0) [] 0 0 1 0),(12, .t (.sl false (below1.map (rL false rI)))),(20, .t (.sl false (from1.map (rL false rI)))),(21, .t (.v (.int .i64 (AD from1)))),(22, .t (.v (.int .i64 x10)))]) (BF (List.replicate 77 []) [(5,[.mem [[.v (.bool sDeep2), .v (.int .i64 s.Kind), .v (.string s.Pre), .v (.string s.Local), .sl false (s.Preds.map AH.row)]] 0 false]),(10,[.mem [[.v (.int .i64 r12.1.Kind), .v (.string r12.1.Pre), .v (.string r12.1.Local), .v (.string r12.1.Uri), .sl false (r12.1.Decls.map A1.row), .sl false (r12.1.Attrs.map A3.row), .sl false (r12.1.Kids.map (A0.row false)), .v (.string r12.1.Text)]] 0 false]),(19,[.mem (out3.map (rL false rI)) 0 false])])))∧
  (∀(out5:List (List Int)) (x11:List Int) (x10:Int) (below1:List (List Int)) (x16:Int) (sDeep2:Bool) (r12:A0×Bool),Ok (BJ f out5 x11 from1 x10 below1 x16 sDeep2 s r12) D9 (ev AF EN (.loop Ei) [.lv 2, .lv 1, .th DP, .hk [.clean [10]], .th (.loop Cn), .lv 0, .th Cp] (BE (List.replicate 77 .dead) [(0, .pp [.v (.int .i64 f.xt.Kind), .v (.string f.xt.Pre), .v (.string f.xt.Local), .v (.string f.xt.Uri), .sl false (f.xt.Decls.map A1.row), .sl false (f.xt.Attrs.map A3.row), .sl false (f.xt.Kids.map (A0.row false)), .v (.string f.xt.Text), .v (.string f.xh.Name), .sl false (f.xh.Ents.map Fg.row), .sl false (f.xh.Defs.map Bh.row), .sl false (f.xl.map A1.row)]),(5, .ptr (5,0) [] 0 0 1 0),(7, .ref (19,0) out5.length),(9, .t (.sl false (x11.map rI))),(10, .ptr (10,0) [] 0 0 1 0),(20, .t (.sl false (from1.map (rL false rI)))),(21, .t (.v (.int .i64 (AD from1)))),(22, .t (.v (.int .i64 x10))),(40, .t (.sl false (below1.map (rL false rI)))),(41, .t (.v (.int .i64 (AD below1)))),(42, .t (.v (.int .i64 x16)))]) (BF (List.replicate 77 []) [(5,[.mem [[.v (.bool sDeep2), .v (.int .i64 s.Kind), .v (.string s.Pre), .v (.string s.Local), .sl false (s.Preds.map AH.row)]] 0 false]),(10,[.mem [[.v (.int .i64 r12.1.Kind), .v (.string r12.1.Pre), .v (.string r12.1.Local), .v (.string r12.1.Uri), .sl false (r12.1.Decls.map A1.row), .sl false (r12.1.Attrs.map A3.row), .sl false (r12.1.Kids.map (A0.row false)), .v (.string r12.1.Text)]] 0 false]),(19,[.mem (out5.map (rL false rI)) 0 false])])))∧
  (∀(out3:List (List Int)) (x10:Int) (sDeep1:Bool),Ok (C4 f out3 from1 x10 sDeep1 s) D9 (ev AF EN (.loop Cn) [.lv 0, .th Cp] (BE (List.replicate 77 .dead) [(0, .pp [.v (.int .i64 f.xt.Kind), .v (.string f.xt.Pre), .v (.string f.xt.Local), .v (.string f.xt.Uri), .sl false (f.xt.Decls.map A1.row), .sl false (f.xt.Attrs.map A3.row), .sl false (f.xt.Kids.map (A0.row false)), .v (.string f.xt.Text), .v (.string f.xh.Name), .sl false (f.xh.Ents.map Fg.row), .sl false (f.xh.Defs.map Bh.row), .sl false (f.xl.map A1.row)]),(5, .ptr (5,0) [] 0 0 1 0),(7, .ref (19,0) out3.length),(20, .t (.sl false (from1.map (rL false rI)))),(21, .t (.v (.int .i64 (AD from1)))),(22, .t (.v (.int .i64 x10)))]) (BF (List.replicate 77 []) [(5,[.mem [[.v (.bool sDeep1), .v (.int .i64 s.Kind), .v (.string s.Pre), .v (.string s.Local), .sl false (s.Preds.map AH.row)]] 0 false]),(19,[.mem (out3.map (rL false rI)) 0 false])])))∧
  (∀(out6:List (List Int)) (x11:List Int) (x17:List Int) (x10:Int) (below1:List (List Int)) (x16:Int) (r19:List Int) (x19:Int) (sDeep2:Bool) (r12:A0×Bool),Ok (Bo f out6 x11 x17 from1 x10 below1 x16 r19 x19 sDeep2 s r12) D9 (ev AF EN (.loop HO) [.lv 4, .lv 3, .th HP, .hk [.clean []], .th (.loop Ei), .lv 2, .lv 1, .th DP, .hk [.clean [10]], .th (.loop Cn), .lv 0, .th Cp] (BE (List.replicate 77 .dead) [(0, .pp [.v (.int .i64 f.xt.Kind), .v (.string f.xt.Pre), .v (.string f.xt.Local), .v (.string f.xt.Uri), .sl false (f.xt.Decls.map A1.row), .sl false (f.xt.Attrs.map A3.row), .sl false (f.xt.Kids.map (A0.row false)), .v (.string f.xt.Text), .v (.string f.xh.Name), .sl false (f.xh.Ents.map Fg.row), .sl false (f.xh.Defs.map Bh.row), .sl false (f.xl.map A1.row)]),(5, .ptr (5,0) [] 0 0 1 0),(7, .ref (19,0) out6.length),(9, .t (.sl false (x11.map rI))),(10, .ptr (10,0) [] 0 0 1 0),(14, .t (.sl false (x17.map rI))),(20, .t (.sl false (from1.map (rL false rI)))),(21, .t (.v (.int .i64 (AD from1)))),(22, .t (.v (.int .i64 x10))),(40, .t (.sl false (below1.map (rL false rI)))),(41, .t (.v (.int .i64 (AD below1)))),(42, .t (.v (.int .i64 x16))),(55, .t (.sl false (r19.map rI))),(56, .t (.v (.int .i64 (AD r19)))),(57, .t (.v (.int .i64 x19)))]) (BF (List.replicate 77 []) [(5,[.mem [[.v (.bool sDeep2), .v (.int .i64 s.Kind), .v (.string s.Pre), .v (.string s.Local), .sl false (s.Preds.map AH.row)]] 0 false]),(10,[.mem [[.v (.int .i64 r12.1.Kind), .v (.string r12.1.Pre), .v (.string r12.1.Local), .v (.string r12.1.Uri), .sl false (r12.1.Decls.map A1.row), .sl false (r12.1.Attrs.map A3.row), .sl false (r12.1.Kids.map (A0.row false)), .v (.string r12.1.Text)]] 0 false]),(19,[.mem (out6.map (rL false rI)) 0 false])]))):=by
 unfold Ok
 refine Bn.mutual_partial_correctness f from1 s _ _ _ _ ?_ ?_ ?_ ?_
 ·intro F1 ih1 out3 x11 below1 x10 sDeep2 r12
  show Ok _ _ _
  have ih1:∀(out5:List (List Int)) (x11:List Int) (x10:Int) (below1:List (List Int)) (x16:Int) (sDeep2:Bool) (r12:A0×Bool),Ok (F1 out5 x11 x10 below1 x16 sDeep2 r12) _ _:=ih1
  have k0:= @HQ.eq_1;have t0:=ih1
  exact gs
 ·intro F2 F3 ih2 ih3 out5 x11 x10 below1 x16 sDeep2 r12
  show Ok _ _ _
  have ih3:∀(out6:List (List Int)) (x11:List Int) (x17:List Int) (x10:Int) (below1:List (List Int)) (x16:Int) (r19:List Int) (x19:Int) (sDeep2:Bool) (r12:A0×Bool),Ok (F3 out6 x11 x17 x10 below1 x16 r19 x19 sDeep2 r12) _ _:=ih3
  have ih2:∀(out3:List (List Int)) (x10:Int) (sDeep1:Bool),Ok (F2 out3 x10 sDeep1) _ _:=ih2
  rw[AU]
  have k0:= @Ei.eq_1;have k1:= @DP.eq_1;have g0:=Mk;have g1:=U9;have t0:=ih3;have t1:=ih2
  exact gs
 ·intro F0 ih0 out3 x10 sDeep1
  show Ok _ _ _
  have ih0:∀(out3:List (List Int)) (x11:List Int) (below1:List (List Int)) (x10:Int) (sDeep2:Bool) (r12:A0×Bool),Ok (F0 out3 x11 below1 x10 sDeep2 r12) _ _:=ih0
  rw[AU]
  have k0:= @Cn.eq_1;have k1:= @Cp.eq_1;have g0:=Mk;have g1:=R2;have g2:=JI;have g3:=Jt;have t0:=ih0
  exact gs
 ·intro F1 F3 ih1 ih3 out6 x11 x17 x10 below1 x16 r19 x19 sDeep2 r12
  show Ok _ _ _
  have ih3:∀(out6:List (List Int)) (x11:List Int) (x17:List Int) (x10:Int) (below1:List (List Int)) (x16:Int) (r19:List Int) (x19:Int) (sDeep2:Bool) (r12:A0×Bool),Ok (F3 out6 x11 x17 x10 below1 x16 r19 x19 sDeep2 r12) _ _:=ih3
  have ih1:∀(out5:List (List Int)) (x11:List Int) (x10:Int) (below1:List (List Int)) (x16:Int) (sDeep2:Bool) (r12:A0×Bool),Ok (F1 out5 x11 x10 below1 x16 sDeep2 r12) _ _:=ih1
  rw[AU]
  have k0:= @HO.eq_1;have k1:= @HP.eq_1;have g0:=Of;have t0:=ih3;have t1:=ih1
  exact gs
end TT
