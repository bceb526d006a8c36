import Derived.Test.YtkbbbbeagnfliaaGreatDoorTLLg
set_option maxHeartbeats 2000000
set_option linter.unusedVariables false
set_option linter.unusedSimpArgs false
set_option linter.defProp false
set_option maxRecDepth 100000
namespace TT
open Go
open Nat (reduceAdd reduceSub reduceMul reduceLeDiff reduceLT reduceEqDiff)
theorem M2 (s:List GDecl):∀(x1:Int),Ok (An s x1) EP (ev AI Hb (.loop Cg) [.lv 0, .th Ch] (B8 (List.replicate 19 .dead) [(0, .t (.sl false (s.map GDecl.row))),(1, .fn Q4 []),(7, .t (.v (.int .i64 (AF s)))),(8, .t (.v (.int .i64 x1)))]) (B9 (List.replicate 19 []) [])):=by
 unfold Ok
 refine An.partial_correctness s _ ?_
 intro F ih x1
 show Ok _ _ _
 have ih:∀(x1:Int),Ok (F x1) _ _:=ih
 rw[AV]
 have k0:= @Cg.eq_1;have k1:= @Ch.eq_1;have g0:=mg;have t0:=ih
 exact gs
theorem PD : ∀ (s:List GDecl),Ok (CJ s) EP (dn AI HR [.t (.sl false (s.map GDecl.row)), .fn Q4 []]):=by
 intro s
 rw[A5 AI (fn:=Ca) rfl (xN rfl rfl _) (lB rfl)]
 have k0:= @Ca.eq_1;have f0:= @CJ.eq_1;have t0:=M2
 exact gs
theorem M3 : ∀ (s:List GDecl),Ok (Bn s) GD (dn AI Dl [.t (.sl false (s.map GDecl.row)), .fn Q4 []]):=by
 intro s
 rw[A5 AI (fn:=Bw) rfl (xN rfl rfl _) (lB rfl)]
 have k0:= @Bw.eq_1;have f0:= @Bn.eq_1;have g0:=PD
 exact gs
theorem mh : (∀ (n:GNode),Ok (Ec n) Ov (dn AI Ij [.agg (((GNode.row false) n).map .t)]))∧
  (∀(out:Int) (n:GNode) (x1:Int),Ok (GR out n x1) Ov (ev AI Ya (.loop Nv) [.lv 0, .th Nw] (B8 (List.replicate 23 .dead) [(3, .t (.v (.int .i64 out))),(11, .t (.sl false (n.Kids.map (GNode.row false)))),(12, .t (.v (.int .i64 (AF n.Kids)))),(13, .t (.v (.int .i64 x1)))]) (B9 (List.replicate 23 []) []))):=by
 unfold Ok
 refine Ec.mutual_partial_correctness _ _ ?_ ?_
 ·intro F1 ih1 n
  show Ok _ _ _
  have ih1:∀(out:Int) (n:GNode) (x1:Int),Ok (F1 out n x1) _ _:=ih1
  rw[A5 AI (fn:=Nx) rfl (xN rfl rfl _) (lB rfl)]
  have k0:= @Nx.eq_1;have t0:=ih1
  exact gs
 ·intro F0 F1 ih0 ih1 out n x1
  show Ok _ _ _
  have ih0:∀(n:GNode),Ok (F0 n) _ _:=ih0
  have ih1:∀(out:Int) (n:GNode) (x1:Int),Ok (F1 out n x1) _ _:=ih1
  rw[AV]
  have k0:= @Nv.eq_1;have k1:= @Nw.eq_1;have g0:=ih0;have t0:=ih1
  exact gs
theorem XG (n:GNode):Ok (Ec n) Ov (dn AI Ij [.agg (((GNode.row false) n).map .t)]):=mh.1 n
theorem Mk : ∀ (s:ByteArray) (suffix:ByteArray),Ok (D0 s suffix) Gn (dn AI GY [.t (.v (.string s)), .t (.v (.string suffix))]):=by
 intro s suffix
 rw[A5 AI (fn:=CV) rfl (xN rfl rfl _) (lB rfl)]
 have k0:= @CV.eq_1;have f0:= @D0.eq_1
 exact gs
theorem Z1 : ∀ (s:ByteArray) (suffix:ByteArray),Ok (Gg s suffix) SH (dn AI SE [.t (.v (.string s)), .t (.v (.string suffix))]):=by
 intro s suffix
 rw[A5 AI (fn:=HJ) rfl (xN rfl rfl _) (lB rfl)]
 have k0:= @HJ.eq_1;have f0:= @Gg.eq_1;have g0:=Mk
 exact gs
theorem mi : ∀ (s:ByteArray),Ok (UV s) bP (dn AI aR [.t (.v (.string s))]):=by
 intro s
 rw[A5 AI (fn:=Qn) rfl (xN rfl rfl _) (lB rfl)]
 have k0:= @Qn.eq_1;have f0:= @UV.eq_1;have g0:=He;have g1:=HL;have g2:=Z1
 exact gs
theorem Z2 : ∀ (s:ByteArray) (t:ByteArray),Ok (strings_EqualFold s t) K5 (dn AI Jt [.t (.v (.string s)), .t (.v (.string t))]):=by
 intro s t r hr
 exact Ms AI.ft (xOf AI) (A25 s t (e:=K5) (fun _=>rfl) hr)
theorem jL : ∀ (n:Int),Ok (Jk n) Yb (dn AI Xo [.t (.v (.int .i64 n))]):=by
 intro n
 rw[A5 AI (fn:=Oa) rfl (xN rfl rfl _) (lB rfl)]
 have k0:= @Oa.eq_1;have f0:= @Jk.eq_1
 exact gs
theorem mj : ∀ (local1:ByteArray) (s:ByteArray),Ok (UW local1 s) bQ (dn AI aU [.t (.v (.string local1)), .t (.v (.string s))]):=by
 intro local1 s
 rw[A5 AI (fn:=Qo) rfl (xN rfl rfl _) (lB rfl)]
 have k0:= @Qo.eq_1;have f0:= @UW.eq_1;have g0:=FF;have g1:=Z2;have g2:=He;have g3:=HL;have g4:=jL
 exact gs
theorem eX : ∀ (n:GNode),Ok (JE n) V7 (ev AI bR Po [] (B8 (List.replicate 63 .dead) [(1, .ptr (1,0) [] 0 0 1 0)]) (B9 (List.replicate 63 []) [(1,[.mem [[.v (.int .i64 n.Kind), .v (.string n.Pre), .v (.string n.Local), .v (.string n.Uri), .sl false (n.Decls.map GDecl.row), .sl false (n.Attrs.map GAttr.row), .sl false (n.Kids.map (GNode.row false)), .v (.string n.Text)]] 0 false])])):=by
 intro n
 have k0:= @Po.eq_1;have f0:= @JE.eq_1;have g0:=He;have g1:=mi;have g2:=mj
 exact gs
theorem ml : ∀ (n:GNode),Ok (JF n) V7 (dn AI aQ [.agg (((GNode.row false) n).map .t)]):=by
 intro n
 rw[A5 AI (fn:=Qe) rfl (xN rfl rfl _) (lB rfl)]
 have k0:= @Qe.eq_1;have f0:= @JF.eq_1;have t0:=eX
 exact gs
theorem cj (l:List GDecl):∀(x2:Int),Ok (E4 l x2) U5 (ev AI Yc (.loop OG) [.lv 0, .th OH] (B8 (List.replicate 34 .dead) [(0, .t (.sl false (l.map GDecl.row))),(5, .t (.sl false (l.map GDecl.row))),(6, .t (.v (.int .i64 (AF l)))),(7, .t (.v (.int .i64 x2)))]) (B9 (List.replicate 34 []) [])):=by
 unfold Ok
 refine E4.partial_correctness l _ ?_
 intro F ih x2
 show Ok _ _ _
 have ih:∀(x2:Int),Ok (F x2) _ _:=ih
 rw[AV]
 have k0:= @OG.eq_1;have k1:= @OH.eq_1;have g0:=Z0;have t0:=ih
 exact gs
theorem jM : ∀ (l:List GDecl),Ok (T5 l) U5 (dn AI Xn [.t (.sl false (l.map GDecl.row))]):=by
 intro l
 rw[A5 AI (fn:=OI) rfl (xN rfl rfl _) (lB rfl)]
 have k0:= @OI.eq_1;have f0:= @T5.eq_1;have t0:=cj
 exact gs
theorem mn : ∀ (a:GAttr),Ok (JG a) bS (dn AI aP [.agg ((GAttr.row a).map .t)]):=by
 intro a
 rw[A5 AI (fn:=Qp) rfl (xN rfl rfl _) (lB rfl)]
 have k0:= @Qp.eq_1;have f0:= @JG.eq_1;have g0:=VI;have g1:=VJ;have g2:=FF;have g3:=He
 exact gs
theorem UH : ∀ (s:ByteArray) (t:ByteArray),Ok (strings_Compare s t) Ox (dn AI Ga [.t (.v (.string s)), .t (.v (.string t))]):=by
 intro s t r hr
 exact Ms AI.ft (xOf AI) (tQ s t (e:=Ox) (fun _=>rfl) hr)
theorem Z3 : ∀ (a:GAttr) (b:GAttr),Ok (Gh a b) SI (dn AI SD [.agg ((GAttr.row a).map .t), .agg ((GAttr.row b).map .t)]):=by
 intro a b
 rw[A5 AI (fn:=HH) rfl (xN rfl rfl _) (lB rfl)]
 have k0:= @HH.eq_1;have f0:= @Gh.eq_1;have g0:=UH
 exact gs
theorem cm (l:List GAttr):∀(x2:Int),Ok (E5 l x2) U6 (ev AI Yd (.loop OJ) [.lv 0, .th OK] (B8 (List.replicate 33 .dead) [(0, .t (.sl false (l.map GAttr.row))),(5, .t (.sl false (l.map GAttr.row))),(6, .t (.v (.int .i64 (AF l)))),(7, .t (.v (.int .i64 x2)))]) (B9 (List.replicate 33 []) [])):=by
 unfold Ok
 refine E5.partial_correctness l _ ?_
 intro F ih x2
 show Ok _ _ _
 have ih:∀(x2:Int),Ok (F x2) _ _:=ih
 rw[AV]
 have k0:= @OJ.eq_1;have k1:= @OK.eq_1;have g0:=mn;have g1:=Z3;have t0:=ih
 exact gs
theorem jN : ∀ (l:List GAttr),Ok (Oi l) U6 (dn AI Xp [.t (.sl false (l.map GAttr.row))]):=by
 intro l
 rw[A5 AI (fn:=OL) rfl (xN rfl rfl _) (lB rfl)]
 have k0:= @OL.eq_1;have f0:= @Oi.eq_1;have t0:=cm
 exact gs
theorem XR (l:List GNode):∀(x2:Int),Ok (Bh l x2) Oy (ev AI UY (.loop Iw) [.lv 0, .th Ix] (B8 (List.replicate 29 .dead) [(0, .t (.sl false (l.map (GNode.row false)))),(5, .t (.sl false (l.map (GNode.row false)))),(6, .t (.v (.int .i64 (AF l)))),(7, .t (.v (.int .i64 x2)))]) (B9 (List.replicate 29 []) [])):=by
 unfold Ok
 refine Bh.partial_correctness l _ ?_
 intro F ih x2
 show Ok _ _ _
 have ih:∀(x2:Int),Ok (F x2) _ _:=ih
 rw[AV]
 have k0:= @Iw.eq_1;have k1:= @Ix.eq_1;have t0:=ih
 exact gs
theorem UI : ∀ (l:List GNode),Ok (FC l) Oy (dn AI Mx [.t (.sl false (l.map (GNode.row false)))]):=by
 intro l
 rw[A5 AI (fn:=IZ) rfl (xN rfl rfl _) (lB rfl)]
 have k0:= @IZ.eq_1;have f0:= @FC.eq_1;have t0:=XR
 exact gs
theorem KV : (∀ (n:GNode) (deep:Int),Ok (FX n deep) V8 (dn AI Q5 [.agg (((GNode.row false) n).map .t), .t (.v (.int .i64 deep))]))∧
  (∀(s:List GNode) (fc0:Int),Ok (CM s fc0) DH (dn AI Fs [.t (.sl false (s.map (GNode.row false))), .fn Dy [.lp [.v (.int .i64 fc0)] 0]]))∧
  (∀(s:List GNode) (fc0:Int),Ok (D1 s fc0) CX (dn AI HU [.t (.sl false (s.map (GNode.row false))), .fn Dy [.lp [.v (.int .i64 fc0)] 0]]))∧
  (∀(s:List GNode) (x1:Int) (f:Int),Ok (B4 s x1 f) CX (ev AI Gp (.loop Fy) [.lv 0, .th Fz] (B8 (List.replicate 19 .dead) [(0, .t (.sl false (s.map (GNode.row false)))),(1, .fn Dy [.ptr (1,0) [] 0 0 1 0]),(7, .t (.v (.int .i64 (AF s)))),(8, .t (.v (.int .i64 x1)))]) (B9 (List.replicate 19 []) [(1,[.mem [[.v (.int .i64 f)]] 0 true])])))∧
  (∀(k:GNode) (a1:Int),Ok (Qx k a1) S6 (dn AI Dy [.agg (((GNode.row false) k).map .t), .lp [.v (.int .i64 a1)] 0]))∧
  (∀(n:GNode) (deep:Int),Ok (Cm n deep) V9 (dn AI Q7 [.agg (((GNode.row false) n).map .t), .t (.v (.int .i64 deep))])):=by
 unfold Ok
 refine FX.mutual_partial_correctness _ _ _ _ _ _ ?_ ?_ ?_ ?_ ?_ ?_
 ·intro F1 ih1 n deep
  show Ok _ _ _
  have ih1:∀(s:List GNode) (fc0:Int),Ok (F1 s fc0) _ _:=ih1
  rw[A5 AI (fn:=QT) rfl (xN rfl rfl _) (lB rfl)]
  have k0:= @QT.eq_1;have g0:=UI;have g1:=ih1
  exact gs
 ·intro F2 ih2 s fc0
  show Ok _ _ _
  have ih2:∀(s:List GNode) (fc0:Int),Ok (F2 s fc0) _ _:=ih2
  rw[A5 AI (fn:=Dn) rfl (xN rfl rfl _) (lB rfl)]
  have k0:= @Dn.eq_1;have g0:=ih2
  exact gs
 ·intro F3 ih3 s fc0
  show Ok _ _ _
  have ih3:∀(s:List GNode) (x1:Int) (f:Int),Ok (F3 s x1 f) _ _:=ih3
  rw[A5 AI (fn:=Eu) rfl (xN rfl rfl _) (lB rfl)]
  have k0:= @Eu.eq_1;have t0:=ih3
  exact gs
 ·intro F3 F4 ih3 ih4 s x1 f
  show Ok _ _ _
  have ih4:∀(k:GNode) (a1:Int),Ok (F4 k a1) _ _:=ih4
  have ih3:∀(s:List GNode) (x1:Int) (f:Int),Ok (F3 s x1 f) _ _:=ih3
  rw[AV]
  have k0:= @Fy.eq_1;have k1:= @Fz.eq_1;have g0:=ih4;have t0:=ih3
  exact gs
 ·intro F5 ih5 k a1
  show Ok _ _ _
  have ih5:∀(n:GNode) (deep:Int),Ok (F5 n deep) _ _:=ih5
  rw[A5 AI (fn:=Ks) rfl (xN rfl rfl _) (lB rfl)]
  have k0:= @Ks.eq_1;have g0:=ih5
  exact gs
 ·intro F0 ih0 n deep
  show Ok _ _ _
  have ih0:∀(n:GNode) (deep:Int),Ok (F0 n deep) _ _:=ih0
  rw[A5 AI (fn:=QR) rfl (xN rfl rfl _) (lB rfl)]
  have k0:= @QR.eq_1;have g0:=ml;have g1:=VI;have g2:=VJ;have g3:=FF;have g4:=jM;have g5:=jN;have g6:=ih0
  exact gs
theorem mo (n:GNode) (deep:Int):Ok (FX n deep) V8 (dn AI Q5 [.agg (((GNode.row false) n).map .t), .t (.v (.int .i64 deep))]):=KV.1 n deep
theorem Zx (s:List GNode) (fc0:Int):Ok (CM s fc0) DH (dn AI Fs [.t (.sl false (s.map (GNode.row false))), .fn Dy [.lp [.v (.int .i64 fc0)] 0]]):=KV.2.1 s fc0
end TT
