import Derived.Test.YtkbbbbeagnfliaaGreatDoorTLLc
set_option maxHeartbeats 2000000
set_option linter.unusedVariables false
set_option linter.unusedSimpArgs false
set_option linter.defProp false
set_option maxRecDepth 100000
namespace TT
open Go
open Nat (reduceAdd reduceSub reduceMul reduceLeDiff reduceLT reduceEqDiff)
theorem bh : ∀ (s:ByteArray),Ok (I1 s) dw (dn AI WK [.t (.v (.string s))]):=by
 intro s
 rw[A5 AI (fn:=Sz) rfl (xN rfl rfl _) (lB rfl)]
 have k0:= @Sz.eq_1;have f0:= @I1.eq_1;have g0:=FE;have g1:=VG
 exact gs
theorem cT (l:List GDecl):∀(i:Int),Ok (E0 l i) Tx (ev AI YQ (.loop OR) [.lv 0, .th OS] (B8 (List.replicate 37 .dead) [(0, .t (.sl false (l.map GDecl.row))),(3, .t (.v (.int .i64 i)))]) (B9 (List.replicate 37 []) [])):=by
 unfold Ok
 refine E0.partial_correctness l _ ?_
 intro F ih i
 show Ok _ _ _
 have ih:∀(i:Int),Ok (F i) _ _:=ih
 rw[AV]
 have k0:= @OR.eq_1;have k1:= @OS.eq_1;have g0:=Yt;have t0:=ih
 exact gs
theorem jA : ∀ (l:List GDecl),Ok (I2 l) Tx (dn AI Y2 [.t (.sl false (l.map GDecl.row))]):=by
 intro l
 rw[A5 AI (fn:=OT) rfl (xN rfl rfl _) (lB rfl)]
 have k0:= @OT.eq_1;have f0:= @I2.eq_1;have t0:=cT
 exact gs
theorem mV : ∀ (n:GNode),Ok (MP n) bE (dn AI Q9 [.agg (((GNode.row false) n).map .t)]):=by
 intro n
 rw[A5 AI (fn:=Qi) rfl (xN rfl rfl _) (lB rfl)]
 have k0:= @Qi.eq_1;have f0:= @MP.eq_1
 exact gs
theorem qF : ∀ (s:ByteArray),Ok (Tk s) dz (dn AI dj [.t (.v (.string s))]):=by
 intro s
 rw[A5 AI (fn:=T0) rfl (xN rfl rfl _) (lB rfl)]
 have k0:= @T0.eq_1;have f0:= @Tk.eq_1
 exact gs
theorem jB : ∀ (n:Int),Ok (Jg n) YR (dn AI Y4 [.t (.v (.int .i64 n))]):=by
 intro n
 rw[A5 AI (fn:=OU) rfl (xN rfl rfl _) (lB rfl)]
 have k0:= @OU.eq_1;have f0:= @Jg.eq_1
 exact gs
theorem Zo : ∀ (a:GAttr),Ok (HX a) Rw (ev AI Ww Lr [] (B8 (List.replicate 46 .dead) [(1, .ptr (1,0) [] 0 0 1 0)]) (B9 (List.replicate 46 []) [(1,[.mem [[.v (.string a.Pre), .v (.string a.Local), .v (.string a.Uri), .v (.string a.Val)]] 0 false])])):=by
 intro a
 have k0:= @Lr.eq_1;have f0:= @HX.eq_1;have g0:=P5
 exact gs
theorem fl : ∀ (a:GAttr),Ok (II a) Rw (dn AI Wq [.agg ((GAttr.row a).map .t)]):=by
 intro a
 rw[A5 AI (fn:=Kp) rfl (xN rfl rfl _) (lB rfl)]
 have k0:= @Kp.eq_1;have f0:= @II.eq_1;have g0:=bh;have g1:=FE;have t0:=Zo
 exact gs
theorem Yu : ∀ (a:GAttr) (b:GAttr),Ok (Gf a b) bF (dn AI Uw [.agg ((GAttr.row a).map .t), .agg ((GAttr.row b).map .t)]):=by
 intro a b
 rw[A5 AI (fn:=QP) rfl (xN rfl rfl _) (lB rfl)]
 have k0:= @QP.eq_1;have f0:= @Gf.eq_1
 exact gs
theorem eQ (n:GNode):∀(i:Int),Ok (Ei i n) T7 (ev AI WP (.loop Ph) [.lv 1, .th Pj, .lv 0, .th Ko] (B8 (List.replicate 195 .dead) [(1, .ptr (1,0) [] 0 0 1 0),(3, .t (.v (.int .i64 i)))]) (B9 (List.replicate 195 []) [(1,[.mem [[.v (.int .i64 n.Kind), .v (.string n.Pre), .v (.string n.Local), .v (.string n.Uri), .sl false (n.Decls.map GDecl.row), .sl false (n.Attrs.map GAttr.row), .sl false (n.Kids.map (GNode.row false)), .v (.string n.Text)]] 0 false])])):=by
 unfold Ok
 refine Ei.partial_correctness n _ ?_
 intro F ih i
 show Ok _ _ _
 have ih:∀(i:Int),Ok (F i) _ _:=ih
 rw[AV]
 have k0:= @Ph.eq_1;have k1:= @Pj.eq_1;have g0:=fl;have g1:=Yu;have t0:=ih
 exact gs
theorem fm : ∀ (n:GNode),Ok (IJ n) T7 (ev AI WP Rs [.lv 0, .th Ko] (B8 (List.replicate 195 .dead) [(1, .ptr (1,0) [] 0 0 1 0)]) (B9 (List.replicate 195 []) [(1,[.mem [[.v (.int .i64 n.Kind), .v (.string n.Pre), .v (.string n.Local), .v (.string n.Uri), .sl false (n.Decls.map GDecl.row), .sl false (n.Attrs.map GAttr.row), .sl false (n.Kids.map (GNode.row false)), .v (.string n.Text)]] 0 false])])):=by
 intro n
 have k0:= @Rs.eq_1;have f0:= @IJ.eq_1;have t0:=eQ
 exact gs
theorem qG : ∀ (n:GNode),Ok (G2 n) T7 (dn AI di [.agg (((GNode.row false) n).map .t)]):=by
 intro n
 rw[A5 AI (fn:=Sw) rfl (xN rfl rfl _) (lB rfl)]
 have k0:= @Sw.eq_1;have k1:= @Ko.eq_1;have f0:= @G2.eq_1;have g0:=bh;have g1:=FE;have g2:=P5;have g3:=jA;have g4:=mV;have g5:=VF;have g6:=qF;have g7:=jB;have t0:=fm
 exact gs
theorem qH : (∀ (l:List GNode) (deep:Int),Ok (DV l deep) KP (dn AI KH [.t (.sl false (l.map (GNode.row false))), .t (.v (.int .i64 deep))]))∧
  (∀(l:List GNode) (deep:Int) (i:Int),Ok (G3 l deep i) KP (ev AI V2 (.loop JW) [.lv 0, .th JX] (B8 (List.replicate 53 .dead) [(0, .t (.sl false (l.map (GNode.row false)))),(1, .t (.v (.int .i64 deep))),(5, .t (.v (.int .i64 i)))]) (B9 (List.replicate 53 []) [])))∧
  (∀(l:List GNode) (deep:Int) (i:Int) (x2:GNode),Ok (GP l deep i x2) KP (ev AI V2 No [.lv 1, .th Np, .hk [.clean [6]], .th (.loop JW), .lv 0, .th JX] (B8 (List.replicate 53 .dead) [(0, .t (.sl false (l.map (GNode.row false)))),(1, .t (.v (.int .i64 deep))),(5, .t (.v (.int .i64 i))),(6, .ptr (6,0) [] 0 0 1 0)]) (B9 (List.replicate 53 []) [(6,[.mem [[.v (.int .i64 x2.Kind), .v (.string x2.Pre), .v (.string x2.Local), .v (.string x2.Uri), .sl false (x2.Decls.map GDecl.row), .sl false (x2.Attrs.map GAttr.row), .sl false (x2.Kids.map (GNode.row false)), .v (.string x2.Text)]] 0 false])]))):=by
 unfold Ok
 refine DV.mutual_partial_correctness _ _ _ ?_ ?_ ?_
 ·intro F1 ih1 l deep
  show Ok _ _ _
  have ih1:∀(l:List GNode) (deep:Int) (i:Int),Ok (F1 l deep i) _ _:=ih1
  rw[A5 AI (fn:=QM) rfl (xN rfl rfl _) (lB rfl)]
  have k0:= @QM.eq_1;have t0:=ih1
  exact gs
 ·intro F2 ih2 l deep i
  show Ok _ _ _
  have ih2:∀(l:List GNode) (deep:Int) (i:Int) (x2:GNode),Ok (F2 l deep i x2) _ _:=ih2
  rw[AV]
  have k0:= @JW.eq_1;have k1:= @JX.eq_1;have g0:=qG;have t0:=ih2
  exact gs
 ·intro F0 F1 ih0 ih1 l deep i x2
  show Ok _ _ _
  have ih0:∀(l:List GNode) (deep:Int),Ok (F0 l deep) _ _:=ih0
  have ih1:∀(l:List GNode) (deep:Int) (i:Int),Ok (F1 l deep i) _ _:=ih1
  have k0:= @No.eq_1;have k1:= @Np.eq_1;have g0:=ih0;have t0:=ih1
  exact gs
theorem Yv (l:List GNode) (deep:Int):Ok (DV l deep) KP (dn AI KH [.t (.sl false (l.map (GNode.row false))), .t (.v (.int .i64 deep))]):=qH.1 l deep
theorem eR (n:GNode):(∀(k2:Int) (i:Int),Ok (GQ k2 i n) R1 (ev AI V3 NO [.lv 1, .th NP, .hk [.clean []], .th (.loop IU), .lv 0, .th IV] (B8 (List.replicate 76 .dead) [(1, .ptr (1,0) [] 0 0 1 0),(3, .t (.v (.int .i64 k2))),(4, .t (.v (.int .i64 i)))]) (B9 (List.replicate 76 []) [(1,[.mem [[.v (.int .i64 n.Kind), .v (.string n.Pre), .v (.string n.Local), .v (.string n.Uri), .sl false (n.Decls.map GDecl.row), .sl false (n.Attrs.map GAttr.row), .sl false (n.Kids.map (GNode.row false)), .v (.string n.Text)]] 0 false])])))∧
  (∀(k1:Int) (i:Int),Ok (F8 k1 i n) R1 (ev AI V3 (.loop IU) [.lv 0, .th IV] (B8 (List.replicate 76 .dead) [(1, .ptr (1,0) [] 0 0 1 0),(3, .t (.v (.int .i64 k1))),(4, .t (.v (.int .i64 i)))]) (B9 (List.replicate 76 []) [(1,[.mem [[.v (.int .i64 n.Kind), .v (.string n.Pre), .v (.string n.Local), .v (.string n.Uri), .sl false (n.Decls.map GDecl.row), .sl false (n.Attrs.map GAttr.row), .sl false (n.Kids.map (GNode.row false)), .v (.string n.Text)]] 0 false])]))):=by
 unfold Ok
 refine GQ.mutual_partial_correctness n _ _ ?_ ?_
 ·intro F1 ih1 k2 i
  show Ok _ _ _
  have ih1:∀(k1:Int) (i:Int),Ok (F1 k1 i) _ _:=ih1
  have k0:= @NO.eq_1;have k1:= @NP.eq_1;have t0:=ih1
  exact gs
 ·intro F0 ih0 k1 i
  show Ok _ _ _
  have ih0:∀(k2:Int) (i:Int),Ok (F0 k2 i) _ _:=ih0
  rw[AV]
  have k0:= @IU.eq_1;have k1:= @IV.eq_1;have g0:=Yv;have t0:=ih0
  exact gs
theorem Yw : ∀ (n:GNode),Ok (J4 n) R1 (dn AI Ut [.agg (((GNode.row false) n).map .t)]):=by
 intro n
 rw[A5 AI (fn:=QC) rfl (xN rfl rfl _) (lB rfl)]
 have k0:= @QC.eq_1;have f0:= @J4.eq_1;have g0:=XC;have g1:=Yv;have t0:=fun a0=>(eR a0).2
 exact gs
theorem qI : ∀ (l:List GDecl) (more:List GDecl),Ok (Tl l more) e9 (dn AI dh [.t (.sl false (l.map GDecl.row)), .t (.sl false (more.map GDecl.row))]):=by
 intro l more
 rw[A5 AI (fn:=Sq) rfl (xN rfl rfl _) (lB rfl)]
 have k0:= @Sq.eq_1;have f0:= @Tl.eq_1
 exact gs
theorem cU (l:List GDecl) (pre:ByteArray):∀(i:Int),Ok (F9 l pre i) Ty (ev AI YS (.loop NW) [.lv 0, .th NX] (B8 (List.replicate 28 .dead) [(0, .t (.sl false (l.map GDecl.row))),(1, .t (.v (.string pre))),(6, .t (.v (.int .i64 i)))]) (B9 (List.replicate 28 []) [])):=by
 unfold Ok
 refine F9.partial_correctness l pre _ ?_
 intro F ih i
 show Ok _ _ _
 have ih:∀(i:Int),Ok (F i) _ _:=ih
 rw[AV]
 have k0:= @NW.eq_1;have k1:= @NX.eq_1;have t0:=ih
 exact gs
theorem SA : ∀ (l:List GDecl) (pre:ByteArray),Ok (FP l pre) Ty (dn AI N4 [.t (.sl false (l.map GDecl.row)), .t (.v (.string pre))]):=by
 intro l pre
 rw[A5 AI (fn:=NY) rfl (xN rfl rfl _) (lB rfl)]
 have k0:= @NY.eq_1;have f0:= @FP.eq_1;have t0:=cU
 exact gs
theorem qJ : (∀ (n:GNode) (l:List GDecl),Ok (Ej n l) IM (dn AI KG [.agg (((GNode.row false) n).map .t), .t (.sl false (l.map GDecl.row))]))∧
  (∀(r:List GDecl) (n:GNode),Ok (J5 r n) IM (ev AI R2 Pb [] (B8 (List.replicate 88 .dead) [(2, .ptr (2,0) [] 0 0 1 0),(5, .ref (15,0) r.length)]) (B9 (List.replicate 88 []) [(2,[.mem [[.v (.int .i64 n.Kind), .v (.string n.Pre), .v (.string n.Local), .v (.string n.Uri), .sl false (n.Decls.map GDecl.row), .sl false (n.Attrs.map GAttr.row), .sl false (n.Kids.map (GNode.row false)), .v (.string n.Text)]] 0 false]),(15,[.mem (r.map GDecl.row) 0 false])])))∧
  (∀(r:List GDecl) (i1:Int) (n:GNode),Ok (FB r i1 n) IM (ev AI R2 (.loop NQ) [.lv 0, .th NT] (B8 (List.replicate 88 .dead) [(2, .ptr (2,0) [] 0 0 1 0),(5, .ref (15,0) r.length),(8, .t (.v (.int .i64 i1)))]) (B9 (List.replicate 88 []) [(2,[.mem [[.v (.int .i64 n.Kind), .v (.string n.Pre), .v (.string n.Local), .v (.string n.Uri), .sl false (n.Decls.map GDecl.row), .sl false (n.Attrs.map GAttr.row), .sl false (n.Kids.map (GNode.row false)), .v (.string n.Text)]] 0 false]),(15,[.mem (r.map GDecl.row) 0 false])])))∧
  (∀(r:List GDecl) (i2:Int) (n:GNode),Ok (FA r i2 n) IM (ev AI R2 (.loop NR) [.lv 2, .th NS] (B8 (List.replicate 88 .dead) [(2, .ptr (2,0) [] 0 0 1 0),(5, .ref (15,0) r.length),(11, .t (.v (.int .i64 i2)))]) (B9 (List.replicate 88 []) [(2,[.mem [[.v (.int .i64 n.Kind), .v (.string n.Pre), .v (.string n.Local), .v (.string n.Uri), .sl false (n.Decls.map GDecl.row), .sl false (n.Attrs.map GAttr.row), .sl false (n.Kids.map (GNode.row false)), .v (.string n.Text)]] 0 false]),(15,[.mem (r.map GDecl.row) 0 false])]))):=by
 unfold Ok
 refine Ej.mutual_partial_correctness _ _ _ _ ?_ ?_ ?_ ?_
 ·intro F1 ih1 n l
  show Ok _ _ _
  have ih1:∀(r:List GDecl) (n:GNode),Ok (F1 r n) _ _:=ih1
  rw[A5 AI (fn:=QD) rfl (xN rfl rfl _) (lB rfl)]
  have k0:= @QD.eq_1;have g0:=qI;have g1:=SA;have t0:=ih1
  exact gs
 ·intro F2 ih2 r n
  show Ok _ _ _
  have ih2:∀(r:List GDecl) (i1:Int) (n:GNode),Ok (F2 r i1 n) _ _:=ih2
  have k0:= @Pb.eq_1;have t0:=ih2
  exact gs
 ·intro F2 F3 ih2 ih3 r i1 n
  show Ok _ _ _
  have ih2:∀(r:List GDecl) (i1:Int) (n:GNode),Ok (F2 r i1 n) _ _:=ih2
  have ih3:∀(r:List GDecl) (i2:Int) (n:GNode),Ok (F3 r i2 n) _ _:=ih3
  rw[AV]
  have k0:= @NQ.eq_1;have k1:= @NT.eq_1;have g0:=SA;have t0:=ih2;have t1:=ih3
  exact gs
 ·intro F0 F3 ih0 ih3 r i2 n
  show Ok _ _ _
  have ih0:∀(n:GNode) (l:List GDecl),Ok (F0 n l) _ _:=ih0
  have ih3:∀(r:List GDecl) (i2:Int) (n:GNode),Ok (F3 r i2 n) _ _:=ih3
  rw[AV]
  have k0:= @NR.eq_1;have k1:= @NS.eq_1;have g0:=ih0;have t0:=ih3
  exact gs
theorem Yx (n:GNode) (l:List GDecl):Ok (Ej n l) IM (dn AI KG [.agg (((GNode.row false) n).map .t), .t (.sl false (l.map GDecl.row))]):=qJ.1 n l
theorem eS : ∀ (o:GOp),Ok (J6 o) Mb (ev AI RH Pa [.lv 6, .th Rf] (B8 (List.replicate 236 .dead) [(1, .ptr (1,0) [] 0 0 1 0)]) (B9 (List.replicate 236 []) [(1,[.mem [[.v (.int .i64 o.Kind), .v (.string o.Sel.Id), .sl false (o.Sel.Steps.map (GStp.row false)), .v (.int .i64 o.Pos), .v (.int .i64 o.Typ), .v (.string o.Pre), .v (.string o.Local), .v (.int .i64 o.Ws), .sl false (o.Kids.map (GNode.row false)), .sl false (o.Decls.map GDecl.row)]] 0 false])])):=by
 intro o
 have k0:= @Pa.eq_1;have f0:= @J6.eq_1;have g0:=VG
 exact gs
theorem fo (o:GOp):∀(n1:Int) (i2:Int),Ok (Bg n1 i2 o) Mb (ev AI RH (.loop Re) [.lv 4, .th Rg] (B8 (List.replicate 236 .dead) [(1, .ptr (1,0) [] 0 0 1 0),(5, .t (.v (.int .i64 n1))),(6, .t (.v (.int .i64 i2)))]) (B9 (List.replicate 236 []) [(1,[.mem [[.v (.int .i64 o.Kind), .v (.string o.Sel.Id), .sl false (o.Sel.Steps.map (GStp.row false)), .v (.int .i64 o.Pos), .v (.int .i64 o.Typ), .v (.string o.Pre), .v (.string o.Local), .v (.int .i64 o.Ws), .sl false (o.Kids.map (GNode.row false)), .sl false (o.Decls.map GDecl.row)]] 0 false])])):=by
 unfold Ok
 refine Bg.partial_correctness o _ ?_
 intro F ih n1 i2
 show Ok _ _ _
 have ih:∀(n1:Int) (i2:Int),Ok (F n1 i2) _ _:=ih
 rw[AV]
 have k0:= @Re.eq_1;have k1:= @Rg.eq_1;have k2:= @Rf.eq_1;have g0:=XC;have g1:=Yw;have g2:=Yx;have g3:=Gq;have g4:=Db;have t0:=ih;have t1:=eS
 exact gs
theorem jC (o:GOp):(∀(i1:Int) (k1:Int),Ok (FU i1 k1 o) Mb (ev AI RH (.loop Rc) [.lv 2, .lv 1, .th Rd, .hk [.clean []], .th (.loop Kb), .lv 0, .th Kc] (B8 (List.replicate 236 .dead) [(1, .ptr (1,0) [] 0 0 1 0),(3, .t (.v (.int .i64 i1))),(4, .t (.v (.int .i64 k1)))]) (B9 (List.replicate 236 []) [(1,[.mem [[.v (.int .i64 o.Kind), .v (.string o.Sel.Id), .sl false (o.Sel.Steps.map (GStp.row false)), .v (.int .i64 o.Pos), .v (.int .i64 o.Typ), .v (.string o.Pre), .v (.string o.Local), .v (.int .i64 o.Ws), .sl false (o.Kids.map (GNode.row false)), .sl false (o.Decls.map GDecl.row)]] 0 false])])))∧
  (∀(i1:Int),Ok (FV i1 o) Mb (ev AI RH (.loop Kb) [.lv 0, .th Kc] (B8 (List.replicate 236 .dead) [(1, .ptr (1,0) [] 0 0 1 0),(3, .t (.v (.int .i64 i1)))]) (B9 (List.replicate 236 []) [(1,[.mem [[.v (.int .i64 o.Kind), .v (.string o.Sel.Id), .sl false (o.Sel.Steps.map (GStp.row false)), .v (.int .i64 o.Pos), .v (.int .i64 o.Typ), .v (.string o.Pre), .v (.string o.Local), .v (.int .i64 o.Ws), .sl false (o.Kids.map (GNode.row false)), .sl false (o.Decls.map GDecl.row)]] 0 false])]))):=by
 unfold Ok
 refine FU.mutual_partial_correctness o _ _ ?_ ?_
 ·intro F0 F1 ih0 ih1 i1 k1
  show Ok _ _ _
  have ih0:∀(i1:Int) (k1:Int),Ok (F0 i1 k1) _ _:=ih0
  have ih1:∀(i1:Int),Ok (F1 i1) _ _:=ih1
  rw[AV]
  have k0:= @Rc.eq_1;have k1:= @Rd.eq_1;have t0:=ih0;have t1:=ih1
  exact gs
 ·intro F0 ih0 i1
  show Ok _ _ _
  have ih0:∀(i1:Int) (k1:Int),Ok (F0 i1 k1) _ _:=ih0
  rw[AV]
  have k0:= @Kb.eq_1;have k1:= @Kc.eq_1;have g0:=Yt;have t0:=ih0;have t1:=fo
  exact gs
theorem ui : ∀ (o:GOp),Ok (Vh o) Mb (dn AI iL [.agg (((GOp.row false) o).map .t)]):=by
 intro o
 rw[A5 AI (fn:=UQ) rfl (xN rfl rfl _) (lB rfl)]
 have k0:= @UQ.eq_1;have f0:= @Vh.eq_1;have g0:=Gq;have g1:=bg;have t0:=fun a0=>(jC a0).2
 exact gs
end TT
