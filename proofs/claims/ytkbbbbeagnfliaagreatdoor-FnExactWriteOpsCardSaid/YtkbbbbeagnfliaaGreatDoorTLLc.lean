import Derived.Test.YtkbbbbeagnfliaaGreatDoorTLLb
set_option maxHeartbeats 2000000
set_option linter.unusedVariables false
set_option linter.unusedSimpArgs false
set_option linter.defProp false
set_option maxRecDepth 100000
namespace TT
open Go
open Nat (reduceAdd reduceSub reduceMul reduceLeDiff reduceLT reduceEqDiff)
theorem XM (s:ByteArray):∀(i:Int),Ok (BK s i) Px (ev AI Vi (.loop Iu) [.lv 0, .th Iv] (B8 (List.replicate 39 .dead) [(0, .t (.v (.string s))),(5, .t (.v (.int .i64 i)))]) (B9 (List.replicate 39 []) [])):=by
 unfold Ok
 refine BK.partial_correctness s _ ?_
 intro F ih i
 show Ok _ _ _
 have ih:∀(i:Int),Ok (F i) _ _:=ih
 rw[AV]
 have k0:= @Iu.eq_1;have k1:= @Iv.eq_1;have g0:=FE;have t0:=ih
 exact gs
theorem eM : ∀ (s:ByteArray),Ok (Bx s) Px (dn AI Ve [.t (.v (.string s))]):=by
 intro s
 rw[A5 AI (fn:=JY) rfl (xN rfl rfl _) (lB rfl)]
 have k0:= @JY.eq_1;have f0:= @Bx.eq_1;have g0:=FE;have t0:=XM
 exact gs
theorem Zn : ∀ (pre:ByteArray) (local1:ByteArray) (s:ByteArray),Ok (Bb pre local1 s) Rv (ev AI Wv LP [] (B8 (List.replicate 35 .dead) [(0, .t (.v (.string pre))),(1, .t (.v (.string local1))),(5, .t (.v (.string s)))]) (B9 (List.replicate 35 []) [])):=by
 intro pre local1 s
 have k0:= @LP.eq_1;have f0:= @Bb.eq_1;have g0:=eM
 exact gs
theorem Db : ∀ (pre:ByteArray) (local1:ByteArray),Ok (Az pre local1) Rv (dn AI CF [.t (.v (.string pre)), .t (.v (.string local1))]):=by
 intro pre local1
 rw[A5 AI (fn:=Kd) rfl (xN rfl rfl _) (lB rfl)]
 have k0:= @Kd.eq_1;have f0:= @Az.eq_1;have t0:=Zn
 exact gs
theorem mT : ∀ (n:Int),Ok (RD n) bA (dn AI ap [.t (.v (.int .i64 n))]):=by
 intro n
 rw[A5 AI (fn:=Qj) rfl (xN rfl rfl _) (lB rfl)]
 have k0:= @Qj.eq_1;have f0:= @RD.eq_1;have g0:=Gq
 exact gs
theorem cS (s:ByteArray):∀(at1:Int),Ok (Dz s at1) Tw (ev AI YO (.loop OA) [.lv 0, .th OB] (B8 (List.replicate 29 .dead) [(0, .t (.v (.string s))),(3, .t (.v (.int .i64 at1)))]) (B9 (List.replicate 29 []) [])):=by
 unfold Ok
 refine Dz.partial_correctness s _ ?_
 intro F ih at1
 show Ok _ _ _
 have ih:∀(at1:Int),Ok (F at1) _ _:=ih
 rw[AV]
 have k0:= @OA.eq_1;have k1:= @OB.eq_1;have g0:=Yq;have g1:=mT;have t0:=ih
 exact gs
theorem j9 : ∀ (s:ByteArray),Ok (Od s) Tw (dn AI Y8 [.t (.v (.string s))]):=by
 intro s
 rw[A5 AI (fn:=OC) rfl (xN rfl rfl _) (lB rfl)]
 have k0:= @OC.eq_1;have f0:= @Od.eq_1;have t0:=cS
 exact gs
theorem P5 : ∀ (s:ByteArray),Ok (Ck s) bB (dn AI EX [.t (.v (.string s))]):=by
 intro s
 rw[A5 AI (fn:=QN) rfl (xN rfl rfl _) (lB rfl)]
 have k0:= @QN.eq_1;have f0:= @Ck.eq_1;have g0:=j9
 exact gs
theorem fj (s t:ByteArray):∀(i:Int),Ok (Ea s t i) WN (ev AI dt (.loop Ro) [.lv 0, .th Rp] (B8 (List.replicate 24 .dead) [(0, .t (.v (.string s))),(1, .t (.v (.string t))),(5, .t (.v (.int .i64 i)))]) (B9 (List.replicate 24 []) [])):=by
 unfold Ok
 refine Ea.partial_correctness s t _ ?_
 intro F ih i
 show Ok _ _ _
 have ih:∀(i:Int),Ok (F i) _ _:=ih
 rw[AV]
 have k0:= @Ro.eq_1;have k1:= @Rp.eq_1;have t0:=ih
 exact gs
theorem VF : ∀ (s:ByteArray) (t:ByteArray),Ok (G0 s t) WN (dn AI GZ [.t (.v (.string s)), .t (.v (.string t))]):=by
 intro s t
 rw[A5 AI (fn:=Ss) rfl (xN rfl rfl _) (lB rfl)]
 have k0:= @Ss.eq_1;have f0:= @G0.eq_1;have t0:=fj
 exact gs
theorem Yr : ∀ (s:ByteArray),Ok (J1 s) bC (dn AI Q8 [.t (.v (.string s))]):=by
 intro s
 rw[A5 AI (fn:=QL) rfl (xN rfl rfl _) (lB rfl)]
 have k0:= @QL.eq_1;have f0:= @J1.eq_1;have g0:=P5;have g1:=VF
 exact gs
theorem XN : ∀ (kind:Int) (p:GPred) (x:Bool),Ok (G1 kind p x) Py (ev AI Vj Iy [.lv 0, .th K4] (B8 (List.replicate 74 .dead) [(1, .t (.v (.int .i64 kind))),(2, .ptr (2,0) [] 0 0 1 0),(6, .t (.v (.int .i64 p.Kind))),(27, .t (.v (.bool x)))]) (B9 (List.replicate 74 []) [(2,[.mem [[.v (.int .i64 p.Kind), .v (.int .i64 p.N), .v (.string p.Pre), .v (.string p.Local), .v (.string p.Val)]] 0 false])])):=by
 intro kind p x
 have k0:= @Iy.eq_1;have k1:= @K4.eq_1;have f0:= @G1.eq_1;have g0:=Gq;have g1:=Db;have g2:=Yr
 exact gs
theorem eN : ∀ (p:GPred) (kind:Int),Ok (HW p kind) Py (dn AI Vf [.agg ((GPred.row p).map .t), .t (.v (.int .i64 kind))]):=by
 intro p kind
 rw[A5 AI (fn:=Jb) rfl (xN rfl rfl _) (lB rfl)]
 have k0:= @Jb.eq_1;have f0:= @HW.eq_1;have g0:=Gq;have t0:=XN
 exact gs
theorem XO : ∀ (a0:GStp) (x5:Bool) (xDeep:Bool),Ok (EJ a0 x5 xDeep) Fk (ev AI Ha Ir [.lv 2, .th Gb] (B8 (List.replicate 96 .dead) [(2, .ptr (2,0) [] 0 0 1 0),(46, .t (.v (.int .i64 a0.Kind))),(56, .t (.v (.bool x5)))]) (B9 (List.replicate 96 []) [(2,[.mem [[.v (.bool xDeep), .v (.int .i64 a0.Kind), .v (.string a0.Pre), .v (.string a0.Local), .sl false (a0.Preds.map GPred.row)]] 0 false])])):=by
 intro a0 x5 xDeep
 have k0:= @Ir.eq_1;have k1:= @Gb.eq_1;have f0:= @EJ.eq_1;have g0:=FE
 exact gs
theorem XP : ∀ (a0:GStp) (x4:Bool) (xDeep:Bool),Ok (CB a0 x4 xDeep) Fk (ev AI Ha Is [.lv 2, .th Gb] (B8 (List.replicate 96 .dead) [(2, .ptr (2,0) [] 0 0 1 0),(46, .t (.v (.int .i64 a0.Kind))),(47, .t (.v (.bool x4)))]) (B9 (List.replicate 96 []) [(2,[.mem [[.v (.bool xDeep), .v (.int .i64 a0.Kind), .v (.string a0.Pre), .v (.string a0.Local), .sl false (a0.Preds.map GPred.row)]] 0 false])])):=by
 intro a0 x4 xDeep
 have k0:= @Is.eq_1;have f0:= @CB.eq_1;have g0:=Db;have t0:=XO
 exact gs
theorem XQ (xDeep:Bool) (a0:GStp):∀(i:Int),Ok (Cl i xDeep a0) Fk (ev AI Ha (.loop Iq) [.lv 0, .th It] (B8 (List.replicate 96 .dead) [(2, .ptr (2,0) [] 0 0 1 0),(5, .t (.v (.int .i64 i)))]) (B9 (List.replicate 96 []) [(2,[.mem [[.v (.bool xDeep), .v (.int .i64 a0.Kind), .v (.string a0.Pre), .v (.string a0.Local), .sl false (a0.Preds.map GPred.row)]] 0 false])])):=by
 unfold Ok
 refine Cl.partial_correctness xDeep a0 _ ?_
 intro F ih i
 show Ok _ _ _
 have ih:∀(i:Int),Ok (F i) _ _:=ih
 rw[AV]
 have k0:= @Iq.eq_1;have k1:= @It.eq_1;have g0:=eN;have t0:=ih;have t1:=XP
 exact gs
theorem Ys : ∀ (xDeep:Bool) (a0:GStp),Ok (Ge xDeep a0) Fk (ev AI Ha K3 [] (B8 (List.replicate 96 .dead) [(2, .ptr (2,0) [] 0 0 1 0)]) (B9 (List.replicate 96 []) [(2,[.mem [[.v (.bool xDeep), .v (.int .i64 a0.Kind), .v (.string a0.Pre), .v (.string a0.Local), .sl false (a0.Preds.map GPred.row)]] 0 false])])):=by
 intro xDeep a0
 have k0:= @K3.eq_1;have f0:= @Ge.eq_1;have t0:=XQ
 exact gs
theorem eO : ∀ (a0:GStp) (last:Bool),Ok (J2 a0 last) Fk (dn AI Vg [.agg (((GStp.row false) a0).map .t), .t (.v (.bool last))]):=by
 intro a0 last
 rw[A5 AI (fn:=JV) rfl (xN rfl rfl _) (lB rfl)]
 have k0:= @JV.eq_1;have f0:= @J2.eq_1;have t0:=Ys
 exact gs
theorem fk (s:GSel):∀(i:Int),Ok (Gz i s) WO (ev AI du (.loop Ri) [.lv 0, .th Rj] (B8 (List.replicate 44 .dead) [(1, .ptr (1,0) [] 0 0 1 0),(3, .t (.v (.int .i64 i)))]) (B9 (List.replicate 44 []) [(1,[.mem [[.v (.string s.Id), .sl false (s.Steps.map (GStp.row false))]] 0 false])])):=by
 unfold Ok
 refine Gz.partial_correctness s _ ?_
 intro F ih i
 show Ok _ _ _
 have ih:∀(i:Int),Ok (F i) _ _:=ih
 rw[AV]
 have k0:= @Ri.eq_1;have k1:= @Rj.eq_1;have g0:=eO;have g1:=Yr;have t0:=ih
 exact gs
theorem bg : ∀ (s:GSel),Ok (Pu s) WO (dn AI WI [.agg (((GSel.row false) s).map .t)]):=by
 intro s
 rw[A5 AI (fn:=Sj) rfl (xN rfl rfl _) (lB rfl)]
 have k0:= @Sj.eq_1;have f0:= @Pu.eq_1;have t0:=fk
 exact gs
theorem VG : ∀ (s:ByteArray),Ok (Lw s) dv (dn AI SZ [.t (.v (.string s))]):=by
 intro s
 rw[A5 AI (fn:=Sk) rfl (xN rfl rfl _) (lB rfl)]
 have k0:= @Sk.eq_1;have f0:= @Lw.eq_1
 exact gs
theorem eP : ∀ (d:GDecl),Ok (J3 d) V1 (ev AI bD Pc [] (B8 (List.replicate 31 .dead) [(1, .ptr (1,0) [] 0 0 1 0)]) (B9 (List.replicate 31 []) [(1,[.mem [[.v (.string d.Pre), .v (.string d.Uri)]] 0 false])])):=by
 intro d
 have k0:= @Pc.eq_1;have f0:= @J3.eq_1;have g0:=P5
 exact gs
theorem Yt : ∀ (d:GDecl),Ok (MO d) V1 (dn AI Us [.agg ((GDecl.row d).map .t)]):=by
 intro d
 rw[A5 AI (fn:=QE) rfl (xN rfl rfl _) (lB rfl)]
 have k0:= @QE.eq_1;have f0:= @MO.eq_1;have g0:=FE;have g1:=VG;have t0:=eP
 exact gs
theorem mU : (∀ (n:GNode),Ok (Dp n) Om (dn AI Im [.agg (((GNode.row false) n).map .t)]))∧
  (∀(k:Int) (i:Int) (n:GNode),Ok (GO k i n) Om (ev AI YP (.loop NL) [.lv 0, .th NM] (B8 (List.replicate 25 .dead) [(1, .ptr (1,0) [] 0 0 1 0),(3, .t (.v (.int .i64 k))),(4, .t (.v (.int .i64 i)))]) (B9 (List.replicate 25 []) [(1,[.mem [[.v (.int .i64 n.Kind), .v (.string n.Pre), .v (.string n.Local), .v (.string n.Uri), .sl false (n.Decls.map GDecl.row), .sl false (n.Attrs.map GAttr.row), .sl false (n.Kids.map (GNode.row false)), .v (.string n.Text)]] 0 false])]))):=by
 unfold Ok
 refine Dp.mutual_partial_correctness _ _ ?_ ?_
 ·intro F1 ih1 n
  show Ok _ _ _
  have ih1:∀(k:Int) (i:Int) (n:GNode),Ok (F1 k i n) _ _:=ih1
  rw[A5 AI (fn:=NN) rfl (xN rfl rfl _) (lB rfl)]
  have k0:= @NN.eq_1;have t0:=ih1
  exact gs
 ·intro F0 F1 ih0 ih1 k i n
  show Ok _ _ _
  have ih0:∀(n:GNode),Ok (F0 n) _ _:=ih0
  have ih1:∀(k:Int) (i:Int) (n:GNode),Ok (F1 k i n) _ _:=ih1
  rw[AV]
  have k0:= @NL.eq_1;have k1:= @NM.eq_1;have g0:=ih0;have t0:=ih1
  exact gs
theorem XC (n:GNode):Ok (Dp n) Om (dn AI Im [.agg (((GNode.row false) n).map .t)]):=mU.1 n
end TT
