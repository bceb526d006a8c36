import Derived.Test.YtpmnlfgdicmiiaaGreatDoorTLLh
set_option maxHeartbeats 2000000
set_option linter.unusedVariables false
set_option linter.unusedSimpArgs false
set_option linter.defProp false
set_option maxRecDepth 100000
namespace TT
open Go
open Nat (reduceAdd reduceSub reduceMul reduceLeDiff reduceLT reduceEqDiff)
theorem UA : ∀ (f:AP) (from1:List (List Int)) (s:AJ),Ok (E0 f from1 s) D9 (dn AF Qb [.pp [.v (.int .i64 f.xt.Kind), .v (.string f.xt.Pre), .v (.string f.xt.Local), .v (.string f.xt.Uri), .sl false (f.xt.Decls.map A1.row), .sl false (f.xt.Attrs.map A3.row), .sl false (f.xt.Kids.map (A0.row false)), .v (.string f.xt.Text), .v (.string f.xh.Name), .sl false (f.xh.Ents.map Fg.row), .sl false (f.xh.Defs.map Bh.row), .sl false (f.xl.map A1.row)], .t (.sl false (from1.map (rL false rI))), .agg (((AJ.row false) s).map .t)]):=by
 intro f from1 s
 rw[A7 AF (fn:=HR) rfl (xN rfl rfl _) (lB rfl)]
 have k0:= @HR.eq_1;have f0:= @E0.eq_1;have t0:=fun a0 a1 a2=>(SA a0 a1 a2).2.2.1
 exact gs
theorem R4 : ∀ (local1:ByteArray) (uri:ByteArray) (a:A3),Ok (EX local1 uri a) Hi (ev AF Mi Gx [] (BE (List.replicate 31 .dead) [(3, .t (.v (.string local1))),(5, .ptr (5,0) [] 0 0 1 0),(9, .t (.v (.string uri)))]) (BF (List.replicate 31 []) [(5,[.mem [[.v (.string a.Pre), .v (.string a.Local), .v (.string a.Uri), .v (.string a.Val)]] 0 false])])):=by
 intro local1 uri a
 have k0:= @Gx.eq_1;have f0:= @EX.eq_1
 exact gs
theorem Sp : ∀ (f:AP) (a:A3) (pre:ByteArray) (local1:ByteArray),Ok (Iq f a pre local1) Hi (dn AF OR [.pp [.v (.int .i64 f.xt.Kind), .v (.string f.xt.Pre), .v (.string f.xt.Local), .v (.string f.xt.Uri), .sl false (f.xt.Decls.map A1.row), .sl false (f.xt.Attrs.map A3.row), .sl false (f.xt.Kids.map (A0.row false)), .v (.string f.xt.Text), .v (.string f.xh.Name), .sl false (f.xh.Ents.map Fg.row), .sl false (f.xh.Defs.map Bh.row), .sl false (f.xl.map A1.row)], .agg ((A3.row a).map .t), .t (.v (.string pre)), .t (.v (.string local1))]):=by
 intro f a pre local1
 rw[A7 AF (fn:=Ft) rfl (xN rfl rfl _) (lB rfl)]
 have k0:= @Ft.eq_1;have f0:= @Iq.eq_1;have g0:=PQ;have t0:=R4
 exact gs
theorem RB (path:List Int) (r:A0×Bool) (s:AJ):∀(out2:List (AS)) (x7:Int),Ok (Ca path out2 r x7 s) GD (ev AF It (.loop HU) [.lv 2, .th HV] (BE (List.replicate 77 .dead) [(1, .t (.sl false (path.map rI))),(5, .ptr (5,0) [] 0 0 1 0),(9, .ref (23,0) out2.length),(52, .t (.sl false (r.1.Decls.map A1.row))),(53, .t (.v (.int .i64 (AD r.1.Decls)))),(54, .t (.v (.int .i64 x7)))]) (BF (List.replicate 77 []) [(5,[.mem [[.v (.bool s.Deep), .v (.int .i64 s.Kind), .v (.string s.Pre), .v (.string s.Local), .sl false (s.Preds.map AH.row)]] 0 false]),(23,[.mem (out2.map (AS.row false)) 0 false])])):=by
 unfold Ok
 refine Ca.partial_correctness path r s _ ?_
 intro F ih out2 x7
 show Ok _ _ _
 have ih:∀(out2:List (AS)) (x7:Int),Ok (F out2 x7) _ _:=ih
 rw[AU]
 have k0:= @HU.eq_1;have k1:= @HV.eq_1;have t0:=ih
 exact gs
theorem RC (f:AP) (path:List Int) (r:A0×Bool) (s:AJ):∀(out1:List (AS)) (x4:Int),Ok (Bq f path out1 r x4 s) GD (ev AF It (.loop HS) [.lv 0, .th I4] (BE (List.replicate 77 .dead) [(0, .pp [.v (.int .i64 f.xt.Kind), .v (.string f.xt.Pre), .v (.string f.xt.Local), .v (.string f.xt.Uri), .sl false (f.xt.Decls.map A1.row), .sl false (f.xt.Attrs.map A3.row), .sl false (f.xt.Kids.map (A0.row false)), .v (.string f.xt.Text), .v (.string f.xh.Name), .sl false (f.xh.Ents.map Fg.row), .sl false (f.xh.Defs.map Bh.row), .sl false (f.xl.map A1.row)]),(1, .t (.sl false (path.map rI))),(5, .ptr (5,0) [] 0 0 1 0),(7, .ptr (7,0) [] 0 0 1 0),(9, .ref (23,0) out1.length),(25, .t (.sl false (r.1.Attrs.map A3.row))),(26, .t (.v (.int .i64 (AD r.1.Attrs)))),(27, .t (.v (.int .i64 x4)))]) (BF (List.replicate 77 []) [(5,[.mem [[.v (.bool s.Deep), .v (.int .i64 s.Kind), .v (.string s.Pre), .v (.string s.Local), .sl false (s.Preds.map AH.row)]] 0 false]),(7,[.mem [[.v (.int .i64 r.1.Kind), .v (.string r.1.Pre), .v (.string r.1.Local), .v (.string r.1.Uri), .sl false (r.1.Decls.map A1.row), .sl false (r.1.Attrs.map A3.row), .sl false (r.1.Kids.map (A0.row false)), .v (.string r.1.Text)]] 0 false]),(23,[.mem (out1.map (AS.row false)) 0 false])])):=by
 unfold Ok
 refine Bq.partial_correctness f path r s _ ?_
 intro F ih out1 x4
 show Ok _ _ _
 have ih:∀(out1:List (AS)) (x4:Int),Ok (F out1 x4) _ _:=ih
 rw[AU]
 have k0:= @HS.eq_1;have k1:= @I4.eq_1;have g0:=Sp;have t0:=ih;have t1:=RB
 exact gs
theorem UB : ∀ (f:AP) (path:List Int) (s:AJ),Ok (Ke f path s) GD (dn AF QZ [.pp [.v (.int .i64 f.xt.Kind), .v (.string f.xt.Pre), .v (.string f.xt.Local), .v (.string f.xt.Uri), .sl false (f.xt.Decls.map A1.row), .sl false (f.xt.Attrs.map A3.row), .sl false (f.xt.Kids.map (A0.row false)), .v (.string f.xt.Text), .v (.string f.xh.Name), .sl false (f.xh.Ents.map Fg.row), .sl false (f.xh.Defs.map Bh.row), .sl false (f.xl.map A1.row)], .t (.sl false (path.map rI)), .agg (((AJ.row false) s).map .t)]):=by
 intro f path s
 rw[A7 AF (fn:=HW) rfl (xN rfl rfl _) (lB rfl)]
 have k0:= @HW.eq_1;have f0:= @Ke.eq_1;have g0:=Mk;have t0:=RC
 exact gs
theorem Zb (t:A0) (h:D2) (l:List A1) (paths:List (List Int)) (x9:AJ):∀(out2:List (AS)) (x12:Int),Ok (Jj t h l out2 paths x12 x9) L4 (ev AF Oe (.loop Ow) [.lv 2, .th Ox, .th Jz, .lv 1, .th K0, .hk [.clean [14]], .th (.loop Hq), .lv 0, .th Hr] (BE (List.replicate 90 .dead) [(10, .pp [.v (.int .i64 t.Kind), .v (.string t.Pre), .v (.string t.Local), .v (.string t.Uri), .sl false (t.Decls.map A1.row), .sl false (t.Attrs.map A3.row), .sl false (t.Kids.map (A0.row false)), .v (.string t.Text), .v (.string h.Name), .sl false (h.Ents.map Fg.row), .sl false (h.Defs.map Bh.row), .sl false (l.map A1.row)]),(12, .ref (42,0) out2.length),(14, .ptr (14,0) [] 0 0 1 0),(58, .t (.sl false (paths.map (rL false rI)))),(59, .t (.v (.int .i64 (AD paths)))),(60, .t (.v (.int .i64 x12)))]) (BF (List.replicate 90 []) [(14,[.mem [[.v (.bool x9.Deep), .v (.int .i64 x9.Kind), .v (.string x9.Pre), .v (.string x9.Local), .sl false (x9.Preds.map AH.row)]] 0 false]),(42,[.mem (out2.map (AS.row false)) 0 false])])):=by
 unfold Ok
 refine Jj.partial_correctness t h l paths x9 _ ?_
 intro F ih out2 x12
 show Ok _ _ _
 have ih:∀(out2:List (AS)) (x12:Int),Ok (F out2 x12) _ _:=ih
 rw[AU]
 have k0:= @Ow.eq_1;have k1:= @Ox.eq_1;have g0:=UB;have t0:=ih
 exact gs
theorem Zc (paths:List (List Int)):∀(out3:List (AS)) (x15:Int),Ok (GS out3 paths x15) L4 (ev AF Oe (.loop Oz) [.lv 4, .th P0] (BE (List.replicate 90 .dead) [(12, .ref (42,0) out3.length),(77, .t (.sl false (paths.map (rL false rI)))),(78, .t (.v (.int .i64 (AD paths)))),(79, .t (.v (.int .i64 x15)))]) (BF (List.replicate 90 []) [(42,[.mem (out3.map (AS.row false)) 0 false])])):=by
 unfold Ok
 refine GS.partial_correctness paths _ ?_
 intro F ih out3 x15
 show Ok _ _ _
 have ih:∀(out3:List (AS)) (x15:Int),Ok (F out3 x15) _ _:=ih
 rw[AU]
 have k0:= @Oz.eq_1;have k1:= @P0.eq_1;have t0:=ih
 exact gs
theorem bK (t:A0) (h:D2) (l:List A1) (s:Eh):(∀(paths:List (List Int)) (x8:Int) (x10:Bool) (x9:AJ),Ok (Hz t h l paths s x8 x10 x9) L4 (ev AF Oe Oy [.th Jz, .lv 1, .th K0, .hk [.clean [14]], .th (.loop Hq), .lv 0, .th Hr] (BE (List.replicate 90 .dead) [(10, .pp [.v (.int .i64 t.Kind), .v (.string t.Pre), .v (.string t.Local), .v (.string t.Uri), .sl false (t.Decls.map A1.row), .sl false (t.Attrs.map A3.row), .sl false (t.Kids.map (A0.row false)), .v (.string t.Text), .v (.string h.Name), .sl false (h.Ents.map Fg.row), .sl false (h.Defs.map Bh.row), .sl false (l.map A1.row)]),(11, .t (.sl false (paths.map (rL false rI)))),(12, .ref (42,0) 0),(14, .ptr (14,0) [] 0 0 1 0),(44, .t (.sl false (s.Steps.map (AJ.row false)))),(45, .t (.v (.int .i64 (AD s.Steps)))),(46, .t (.v (.int .i64 x8))),(57, .t (.v (.bool x10)))]) (BF (List.replicate 90 []) [(14,[.mem [[.v (.bool x9.Deep), .v (.int .i64 x9.Kind), .v (.string x9.Pre), .v (.string x9.Local), .sl false (x9.Preds.map AH.row)]] 0 false]),(42,[.mem [] 0 false])])))∧
  (∀(paths:List (List Int)) (x8:Int),Ok (DK t h l paths s x8) L4 (ev AF Oe (.loop Hq) [.lv 0, .th Hr] (BE (List.replicate 90 .dead) [(10, .pp [.v (.int .i64 t.Kind), .v (.string t.Pre), .v (.string t.Local), .v (.string t.Uri), .sl false (t.Decls.map A1.row), .sl false (t.Attrs.map A3.row), .sl false (t.Kids.map (A0.row false)), .v (.string t.Text), .v (.string h.Name), .sl false (h.Ents.map Fg.row), .sl false (h.Defs.map Bh.row), .sl false (l.map A1.row)]),(11, .t (.sl false (paths.map (rL false rI)))),(12, .ref (42,0) 0),(44, .t (.sl false (s.Steps.map (AJ.row false)))),(45, .t (.v (.int .i64 (AD s.Steps)))),(46, .t (.v (.int .i64 x8)))]) (BF (List.replicate 90 []) [(42,[.mem [] 0 false])]))):=by
 unfold Ok
 refine Hz.mutual_partial_correctness t h l s _ _ ?_ ?_
 ·intro F1 ih1 paths x8 x10 x9
  show Ok _ _ _
  have ih1:∀(paths:List (List Int)) (x8:Int),Ok (F1 paths x8) _ _:=ih1
  have k0:= @Oy.eq_1;have k1:= @K0.eq_1;have k2:= @Jz.eq_1;have g0:=UA;have t0:=Zb;have t1:=ih1
  exact gs
 ·intro F0 ih0 paths x8
  show Ok _ _ _
  have ih0:∀(paths:List (List Int)) (x8:Int) (x10:Bool) (x9:AJ),Ok (F0 paths x8 x10 x9) _ _:=ih0
  rw[AU]
  have k0:= @Hq.eq_1;have k1:= @Hr.eq_1;have t0:=ih0;have t1:=Zc
  exact gs
theorem mE : ∀ (t:A0) (h:D2) (s:Eh) (l:List A1),Ok (NJ t h s l) L4 (dn AF aR [.agg (((A0.row false) t).map .t), .agg (((D2.row false) h).map .t), .agg (((Eh.row false) s).map .t), .t (.sl false (l.map A1.row))]):=by
 intro t h s l
 rw[A7 AF (fn:=RJ) rfl (xN rfl rfl _) (lB rfl)]
 have k0:= @RJ.eq_1;have f0:= @NJ.eq_1;have g0:=eB;have g1:=hJ;have g2:=hZ;have g3:=TU;have t0:=fun a0 a1 a2 a3=>(bK a0 a1 a2 a3).2
 exact gs
theorem Ys (r1:A0):∀(n:Int) (i:Int),Ok (Cs n i r1) TS (ev AF Yd (.loop Mz) [.lv 0, .th N0] (BE (List.replicate 42 .dead) [(3, .ptr (3,0) [] 0 0 1 0),(4, .t (.v (.int .i64 n))),(5, .t (.v (.int .i64 i)))]) (BF (List.replicate 42 []) [(3,[.mem [[.v (.int .i64 r1.Kind), .v (.string r1.Pre), .v (.string r1.Local), .v (.string r1.Uri), .sl false (r1.Decls.map A1.row), .sl false (r1.Attrs.map A3.row), .sl false (r1.Kids.map (A0.row false)), .v (.string r1.Text)]] 0 false])])):=by
 unfold Ok
 refine Cs.partial_correctness r1 _ ?_
 intro F ih n i
 show Ok _ _ _
 have ih:∀(n:Int) (i:Int),Ok (F n i) _ _:=ih
 rw[AU]
 have k0:= @Mz.eq_1;have k1:= @N0.eq_1;have g0:=mE;have g1:=R2;have t0:=ih
 exact gs
theorem laws_FnAll_ok : ∀ (code:List Int),Ok (TL code) TS (dn AF lj [.t (.sl false (code.map (rK .u8)))]):=by
 intro code
 rw[A7 AF (fn:=Pr) rfl (xN rfl rfl _) (lB rfl)]
 have k0:= @Pr.eq_1;have f0:= @TL.eq_1;have g0:=oi;have g1:=ZS;have t0:=Ys
 exact gs
end TT
