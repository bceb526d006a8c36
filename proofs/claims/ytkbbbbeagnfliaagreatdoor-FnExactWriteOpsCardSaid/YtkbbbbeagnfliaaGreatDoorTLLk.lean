import Derived.Test.YtkbbbbeagnfliaaGreatDoorTLLj
set_option maxHeartbeats 2000000
set_option linter.unusedVariables false
set_option linter.unusedSimpArgs false
set_option linter.defProp false
set_option maxRecDepth 100000
namespace TT
open Go
open Nat (reduceAdd reduceSub reduceMul reduceLeDiff reduceLT reduceEqDiff)
theorem XJ : ∀ (s:ByteArray),Ok (I6 s) Yk (dn AI TV [.t (.v (.string s))]):=by
 intro s
 rw[A5 AI (fn:=Ng) rfl (xN rfl rfl _) (lB rfl)]
 have k0:= @Ng.eq_1;have f0:= @I6.eq_1;have g0:=XI;have g1:=PI
 exact gs
theorem gH : ∀ (d:GDecl),Ok (IK d) X7 (dn AI Wi [.agg ((GDecl.row d).map .t)]):=by
 intro d
 rw[A5 AI (fn:=Km) rfl (xN rfl rfl _) (lB rfl)]
 have k0:= @Km.eq_1;have f0:= @IK.eq_1;have g0:=XJ
 exact gs
theorem aB (kids r15:ByteArray) (n:GNode):∀(out5:ByteArray) (x120:Int),Ok (CR kids r15 out5 n x120) Hd (ev AI P0 (.loop LI) [.lv 5, .th LJ] (B8 (List.replicate 112 .dead) [(1, .ptr (1,0) [] 0 0 1 0),(3, .t (.v (.string kids))),(6, .t (.v (.string r15))),(7, .t (.v (.string out5))),(77, .t (.sl false (n.Attrs.map GAttr.row))),(78, .t (.v (.int .i64 (AF n.Attrs)))),(79, .t (.v (.int .i64 x120)))]) (B9 (List.replicate 112 []) [(1,[.mem [[.v (.int .i64 n.Kind), .v (.string n.Pre), .v (.string n.Local), .v (.string n.Uri), .sl false (n.Decls.map GDecl.row), .sl false (n.Attrs.map GAttr.row), .sl false (n.Kids.map (GNode.row false)), .v (.string n.Text)]] 0 false])])):=by
 unfold Ok
 refine CR.partial_correctness kids r15 n _ ?_
 intro F ih out5 x120
 show Ok _ _ _
 have ih:∀(out5:ByteArray) (x120:Int),Ok (F out5 x120) _ _:=ih
 rw[AV]
 have k0:= @LI.eq_1;have k1:= @LJ.eq_1;have g0:=Fl;have g1:=XJ;have t0:=ih
 exact gs
theorem aC (kids r15:ByteArray) (n:GNode):∀(out4:ByteArray) (x105:Int),Ok (EN kids r15 out4 n x105) Hd (ev AI P0 (.loop LH) [.lv 3, .th LK] (B8 (List.replicate 112 .dead) [(1, .ptr (1,0) [] 0 0 1 0),(3, .t (.v (.string kids))),(6, .t (.v (.string r15))),(7, .t (.v (.string out4))),(65, .t (.sl false (n.Decls.map GDecl.row))),(66, .t (.v (.int .i64 (AF n.Decls)))),(67, .t (.v (.int .i64 x105)))]) (B9 (List.replicate 112 []) [(1,[.mem [[.v (.int .i64 n.Kind), .v (.string n.Pre), .v (.string n.Local), .v (.string n.Uri), .sl false (n.Decls.map GDecl.row), .sl false (n.Attrs.map GAttr.row), .sl false (n.Kids.map (GNode.row false)), .v (.string n.Text)]] 0 false])])):=by
 unfold Ok
 refine EN.partial_correctness kids r15 n _ ?_
 intro F ih out4 x105
 show Ok _ _ _
 have ih:∀(out4:ByteArray) (x105:Int),Ok (F out4 x105) _ _:=ih
 rw[AV]
 have k0:= @LH.eq_1;have k1:= @LK.eq_1;have g0:=gH;have t0:=ih;have t1:=aB
 exact gs
theorem mw : (∀ (n:GNode),Ok (Ed n) Hd (dn AI My [.agg (((GNode.row false) n).map .t)]))∧
  (∀(kids:ByteArray) (n:GNode) (x66:Int),Ok (E6 kids n x66) Hd (ev AI P0 (.loop NA) [.lv 0, .th NB] (B8 (List.replicate 112 .dead) [(1, .ptr (1,0) [] 0 0 1 0),(3, .t (.v (.string kids))),(13, .t (.sl false (n.Kids.map (GNode.row false)))),(14, .t (.v (.int .i64 (AF n.Kids)))),(15, .t (.v (.int .i64 x66)))]) (B9 (List.replicate 112 []) [(1,[.mem [[.v (.int .i64 n.Kind), .v (.string n.Pre), .v (.string n.Local), .v (.string n.Uri), .sl false (n.Decls.map GDecl.row), .sl false (n.Attrs.map GAttr.row), .sl false (n.Kids.map (GNode.row false)), .v (.string n.Text)]] 0 false])]))):=by
 unfold Ok
 refine Ed.mutual_partial_correctness _ _ ?_ ?_
 ·intro F1 ih1 n
  show Ok _ _ _
  have ih1:∀(kids:ByteArray) (n:GNode) (x66:Int),Ok (F1 kids n x66) _ _:=ih1
  rw[A5 AI (fn:=NC) rfl (xN rfl rfl _) (lB rfl)]
  have k0:= @NC.eq_1;have t0:=ih1
  exact gs
 ·intro F0 F1 ih0 ih1 kids n x66
  show Ok _ _ _
  have ih0:∀(n:GNode),Ok (F0 n) _ _:=ih0
  have ih1:∀(kids:ByteArray) (n:GNode) (x66:Int),Ok (F1 kids n x66) _ _:=ih1
  rw[AV]
  have k0:= @NA.eq_1;have k1:= @NB.eq_1;have g0:=ih0;have g1:=XI;have g2:=Fl;have t0:=ih1;have t1:=aC
  exact gs
theorem jS (n:GNode):Ok (Ed n) Hd (dn AI My [.agg (((GNode.row false) n).map .t)]):=mw.1 n
theorem Z8 (l:List GOp):∀(x1:Int) (rootKids:List (GNode)),Ok (Ds l x1 rootKids) S9 (ev AI X8 (.loop Jy) [.lv 0, .th Jz] (B8 (List.replicate 53 .dead) [(3, .ptr (3,0) [] 0 0 1 0),(12, .t (.sl false (l.map (GOp.row false)))),(13, .t (.v (.int .i64 (AF l)))),(14, .t (.v (.int .i64 x1)))]) (B9 (List.replicate 53 []) [(3,[.mem [[.v (.int .i64 1), .v (.string (⟨#[]⟩)), .v (.string (⟨#[100,105,102,102]⟩)), .v (.string (⟨#[]⟩)), .sl true [], .sl true [], .sl true (rootKids.map (GNode.row true)), .v (.string (⟨#[]⟩))]] 0 false])])):=by
 unfold Ok
 refine Ds.partial_correctness l _ ?_
 intro F ih x1 rootKids
 show Ok _ _ _
 have ih:∀(x1:Int) (rootKids:List (GNode)),Ok (F x1 rootKids) _ _:=ih
 rw[AV]
 have k0:= @Jy.eq_1;have k1:= @Jz.eq_1;have g0:=uj;have g1:=XH;have g2:=ef;have g3:=mu;have g4:=jS;have t0:=ih
 exact gs
theorem gI : ∀ (l:List GOp),Ok (KN l) S9 (dn AI Wh [.t (.sl false (l.map (GOp.row false)))]):=by
 intro l
 rw[A5 AI (fn:=Ka) rfl (xN rfl rfl _) (lB rfl)]
 have k0:= @Ka.eq_1;have f0:= @KN.eq_1;have t0:=Z8
 exact gs
theorem my : ∀ (a:GPred) (b:GPred),Ok (MX a b) bY (dn AI aY [.agg ((GPred.row a).map .t), .agg ((GPred.row b).map .t)]):=by
 intro a b
 rw[A5 AI (fn:=Qu) rfl (xN rfl rfl _) (lB rfl)]
 have k0:= @Qu.eq_1;have f0:= @MX.eq_1
 exact gs
theorem aD (a b:List GPred):∀(i:Int),Ok (Fg a b i) UA (ev AI Yl (.loop Lu) [.lv 0, .th Lv] (B8 (List.replicate 27 .dead) [(0, .t (.sl false (a.map GPred.row))),(1, .t (.sl false (b.map GPred.row))),(5, .t (.v (.int .i64 i)))]) (B9 (List.replicate 27 []) [])):=by
 unfold Ok
 refine Fg.partial_correctness a b _ ?_
 intro F ih i
 show Ok _ _ _
 have ih:∀(i:Int),Ok (F i) _ _:=ih
 rw[AV]
 have k0:= @Lu.eq_1;have k1:= @Lv.eq_1;have g0:=my;have t0:=ih
 exact gs
theorem jT : ∀ (a:List GPred) (b:List GPred),Ok (Jo a b) UA (dn AI Xu [.t (.sl false (a.map GPred.row)), .t (.sl false (b.map GPred.row))]):=by
 intro a b
 rw[A5 AI (fn:=OZ) rfl (xN rfl rfl _) (lB rfl)]
 have k0:= @OZ.eq_1;have f0:= @Jo.eq_1;have t0:=aD
 exact gs
theorem mz : ∀ (a:GStp) (b:GStp),Ok (MY a b) bZ (dn AI aZ [.agg (((GStp.row false) a).map .t), .agg (((GStp.row false) b).map .t)]):=by
 intro a b
 rw[A5 AI (fn:=Qf) rfl (xN rfl rfl _) (lB rfl)]
 have k0:= @Qf.eq_1;have f0:= @MY.eq_1;have g0:=jT
 exact gs
theorem aE (a b:List GStp):∀(i:Int),Ok (Fh a b i) UB (ev AI Ym (.loop Lj) [.lv 0, .th Lk] (B8 (List.replicate 27 .dead) [(0, .t (.sl false (a.map (GStp.row false)))),(1, .t (.sl false (b.map (GStp.row false)))),(5, .t (.v (.int .i64 i)))]) (B9 (List.replicate 27 []) [])):=by
 unfold Ok
 refine Fh.partial_correctness a b _ ?_
 intro F ih i
 show Ok _ _ _
 have ih:∀(i:Int),Ok (F i) _ _:=ih
 rw[AV]
 have k0:= @Lj.eq_1;have k1:= @Lk.eq_1;have g0:=mz;have t0:=ih
 exact gs
theorem jU : ∀ (a:List GStp) (b:List GStp),Ok (Jp a b) UB (dn AI Xv [.t (.sl false (a.map (GStp.row false))), .t (.sl false (b.map (GStp.row false)))]):=by
 intro a b
 rw[A5 AI (fn:=Ny) rfl (xN rfl rfl _) (lB rfl)]
 have k0:= @Ny.eq_1;have f0:= @Jp.eq_1;have t0:=aE
 exact gs
theorem qL : ∀ (a:GSel) (b:GSel),Ok (Tm a b) eJ (dn AI da [.agg (((GSel.row false) a).map .t), .agg (((GSel.row false) b).map .t)]):=by
 intro a b
 rw[A5 AI (fn:=Sp) rfl (xN rfl rfl _) (lB rfl)]
 have k0:= @Sp.eq_1;have f0:= @Tm.eq_1;have g0:=jU
 exact gs
theorem n8 : ∀ (a:GDecl) (b:GDecl),Ok (MZ a b) ba (dn AI aX [.agg ((GDecl.row a).map .t), .agg ((GDecl.row b).map .t)]):=by
 intro a b
 rw[A5 AI (fn:=QV) rfl (xN rfl rfl _) (lB rfl)]
 have k0:= @QV.eq_1;have f0:= @MZ.eq_1
 exact gs
theorem aF (a b:List GDecl):∀(i:Int),Ok (Fi a b i) UC (ev AI Yn (.loop Lc) [.lv 0, .th Ld] (B8 (List.replicate 27 .dead) [(0, .t (.sl false (a.map GDecl.row))),(1, .t (.sl false (b.map GDecl.row))),(5, .t (.v (.int .i64 i)))]) (B9 (List.replicate 27 []) [])):=by
 unfold Ok
 refine Fi.partial_correctness a b _ ?_
 intro F ih i
 show Ok _ _ _
 have ih:∀(i:Int),Ok (F i) _ _:=ih
 rw[AV]
 have k0:= @Lc.eq_1;have k1:= @Ld.eq_1;have g0:=n8;have t0:=ih
 exact gs
theorem XK : ∀ (a:List GDecl) (b:List GDecl),Ok (I7 a b) UC (dn AI Ta [.t (.sl false (a.map GDecl.row)), .t (.sl false (b.map GDecl.row))]):=by
 intro a b
 rw[A5 AI (fn:=Nj) rfl (xN rfl rfl _) (lB rfl)]
 have k0:= @Nj.eq_1;have f0:= @I7.eq_1;have t0:=aF
 exact gs
theorem n9 : ∀ (a:GAttr) (b:GAttr),Ok (Ma a b) bc (dn AI aW [.agg ((GAttr.row a).map .t), .agg ((GAttr.row b).map .t)]):=by
 intro a b
 rw[A5 AI (fn:=Qq) rfl (xN rfl rfl _) (lB rfl)]
 have k0:= @Qq.eq_1;have f0:= @Ma.eq_1
 exact gs
theorem aG (a b:List GAttr):∀(i:Int),Ok (Fj a b i) UD (ev AI Yo (.loop Ln) [.lv 0, .th Lo] (B8 (List.replicate 27 .dead) [(0, .t (.sl false (a.map GAttr.row))),(1, .t (.sl false (b.map GAttr.row))),(5, .t (.v (.int .i64 i)))]) (B9 (List.replicate 27 []) [])):=by
 unfold Ok
 refine Fj.partial_correctness a b _ ?_
 intro F ih i
 show Ok _ _ _
 have ih:∀(i:Int),Ok (F i) _ _:=ih
 rw[AV]
 have k0:= @Ln.eq_1;have k1:= @Lo.eq_1;have g0:=n9;have t0:=ih
 exact gs
theorem jV : ∀ (a:List GAttr) (b:List GAttr),Ok (Jq a b) UD (dn AI Xt [.t (.sl false (a.map GAttr.row)), .t (.sl false (b.map GAttr.row))]):=by
 intro a b
 rw[A5 AI (fn:=OM) rfl (xN rfl rfl _) (lB rfl)]
 have k0:= @OM.eq_1;have f0:= @Jq.eq_1;have t0:=aG
 exact gs
theorem bm : (∀ (a:GNode) (b:GNode),Ok (Hn a b) VE (dn AI Up [.agg (((GNode.row false) a).map .t), .agg (((GNode.row false) b).map .t)]))∧
  (∀(a:List GNode) (b:List GNode),Ok (Ee a b) P2 (dn AI Mz [.t (.sl false (a.map (GNode.row false))), .t (.sl false (b.map (GNode.row false)))]))∧
  (∀(a:List GNode) (b:List GNode) (i:Int),Ok (EO a b i) P2 (ev AI Yp (.loop La) [.lv 0, .th Lb] (B8 (List.replicate 27 .dead) [(0, .t (.sl false (a.map (GNode.row false)))),(1, .t (.sl false (b.map (GNode.row false)))),(5, .t (.v (.int .i64 i)))]) (B9 (List.replicate 27 []) []))):=by
 unfold Ok
 refine Hn.mutual_partial_correctness _ _ _ ?_ ?_ ?_
 ·intro F1 ih1 a b
  show Ok _ _ _
  have ih1:∀(a:List GNode) (b:List GNode),Ok (F1 a b) _ _:=ih1
  rw[A5 AI (fn:=QU) rfl (xN rfl rfl _) (lB rfl)]
  have k0:= @QU.eq_1;have g0:=XK;have g1:=jV;have g2:=ih1
  exact gs
 ·intro F2 ih2 a b
  show Ok _ _ _
  have ih2:∀(a:List GNode) (b:List GNode) (i:Int),Ok (F2 a b i) _ _:=ih2
  rw[A5 AI (fn:=Ni) rfl (xN rfl rfl _) (lB rfl)]
  have k0:= @Ni.eq_1;have t0:=ih2
  exact gs
 ·intro F0 F2 ih0 ih2 a b i
  show Ok _ _ _
  have ih0:∀(a:GNode) (b:GNode),Ok (F0 a b) _ _:=ih0
  have ih2:∀(a:List GNode) (b:List GNode) (i:Int),Ok (F2 a b i) _ _:=ih2
  rw[AV]
  have k0:= @La.eq_1;have k1:= @Lb.eq_1;have g0:=ih0;have t0:=ih2
  exact gs
theorem A5n (a b:GNode):Ok (Hn a b) VE (dn AI Up [.agg (((GNode.row false) a).map .t), .agg (((GNode.row false) b).map .t)]):=bm.1 a b
theorem jW (a b:List GNode):Ok (Ee a b) P2 (dn AI Mz [.t (.sl false (a.map (GNode.row false))), .t (.sl false (b.map (GNode.row false)))]):=bm.2.1 a b
theorem uk : ∀ (a:GOp) (b:GOp),Ok (TJ a b) iQ (dn AI iI [.agg (((GOp.row false) a).map .t), .agg (((GOp.row false) b).map .t)]):=by
 intro a b
 rw[A5 AI (fn:=US) rfl (xN rfl rfl _) (lB rfl)]
 have k0:= @US.eq_1;have f0:= @TJ.eq_1;have g0:=qL;have g1:=jW;have g2:=XK
 exact gs
end TT
