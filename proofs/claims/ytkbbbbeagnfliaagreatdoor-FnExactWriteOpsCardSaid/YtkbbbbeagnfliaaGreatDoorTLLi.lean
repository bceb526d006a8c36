import Derived.Test.YtkbbbbeagnfliaaGreatDoorTLLh
set_option maxHeartbeats 2000000
set_option linter.unusedVariables false
set_option linter.unusedSimpArgs false
set_option linter.defProp false
set_option maxRecDepth 100000
namespace TT
open Go
open Nat (reduceAdd reduceSub reduceMul reduceLeDiff reduceLT reduceEqDiff)
theorem dC (s:List GNode) (fc0:Int):Ok (D1 s fc0) CX (dn AI HU [.t (.sl false (s.map (GNode.row false))), .fn Dy [.lp [.v (.int .i64 fc0)] 0]]):=KV.2.2.1 s fc0
theorem A2H (k:GNode) (a1:Int):Ok (Qx k a1) S6 (dn AI Dy [.agg (((GNode.row false) k).map .t), .lp [.v (.int .i64 a1)] 0]):=KV.2.2.2.2.1 k a1
theorem mp (n:GNode) (deep:Int):Ok (Cm n deep) V9 (dn AI Q7 [.agg (((GNode.row false) n).map .t), .t (.v (.int .i64 deep))]):=KV.2.2.2.2.2 n deep
theorem eY (kind:Int) (l:List GNode):∀(n:Int) (x1:Int),Ok (El kind n l x1) VA (ev AI bT (.loop Pf) [.lv 0, .th Pg] (B8 (List.replicate 22 .dead) [(1, .t (.v (.int .i64 kind))),(5, .t (.v (.int .i64 n))),(8, .t (.sl false (l.map (GNode.row false)))),(9, .t (.v (.int .i64 (AF l)))),(10, .t (.v (.int .i64 x1)))]) (B9 (List.replicate 22 []) [])):=by
 unfold Ok
 refine El.partial_correctness kind l _ ?_
 intro F ih n x1
 show Ok _ _ _
 have ih:∀(n:Int) (x1:Int),Ok (F n x1) _ _:=ih
 rw[AV]
 have k0:= @Pf.eq_1;have k1:= @Pg.eq_1;have t0:=ih
 exact gs
theorem mq : ∀ (l:List GNode) (kind:Int),Ok (MT l kind) VA (dn AI Uo [.t (.sl false (l.map (GNode.row false))), .t (.v (.int .i64 kind))]):=by
 intro l kind
 rw[A5 AI (fn:=QS) rfl (xN rfl rfl _) (lB rfl)]
 have k0:= @QS.eq_1;have f0:= @MT.eq_1;have t0:=eY
 exact gs
theorem cn : ∀ (bare:Bool) (n:GNode),Ok (Cn bare n) VB (ev AI bU Nf [] (B8 (List.replicate 59 .dead) [(1, .ptr (1,0) [] 0 0 1 0),(3, .t (.v (.bool bare)))]) (B9 (List.replicate 59 []) [(1,[.mem [[.v (.int .i64 n.Kind), .v (.string n.Pre), .v (.string n.Local), .v (.string n.Uri), .sl false (n.Decls.map GDecl.row), .sl false (n.Attrs.map GAttr.row), .sl false (n.Kids.map (GNode.row false)), .v (.string n.Text)]] 0 false])])):=by
 intro bare n
 have k0:= @Nf.eq_1;have f0:= @Cn.eq_1;have g0:=mq;have g1:=mo
 exact gs
theorem Z4 : ∀ (n:GNode),Ok (Hm n) VB (dn AI Um [.agg (((GNode.row false) n).map .t)]):=by
 intro n
 rw[A5 AI (fn:=QG) rfl (xN rfl rfl _) (lB rfl)]
 have k0:= @QG.eq_1;have f0:= @Hm.eq_1;have g0:=XG;have g1:=mp;have t0:=cn
 exact gs
theorem Z5 : ∀ (n:GNode) (l:List (GDecl)),Ok (RG n l) bV (dn AI Q3 [.agg (((GNode.row false) n).map .t), .t (.sl false (l.map GDecl.row))]):=by
 intro n l r hr
 refine Ms AI.ft (xOf AI) ?_
 have hp:∀k:List (GDecl),GV (k.map GDecl.row)=some (k.map fun x=>(x.Pre,x.Uri)):=fun k=>by
  induction k with
  |nil=>rfl
  |cons x k ih=>show(GV (k.map GDecl.row)).map _=_;rw[ih];rfl
 show lh [.agg (((GNode.row false) n).map .t), .t (.sl false (l.map GDecl.row))]=some ⟨[.t (.v (.bool r))],[]⟩
 have hr':RC ((GNode.row false) n) (l.map fun x=>(x.Pre,x.Uri))=some r:=hr
 rw[lh,A26,hp]
 simp only[hr',Option.map_some]
theorem Zy (o:GOp):∀(many:Int) (x1:Int),Ok (DZ many o x1) S7 (ev AI X1 (.loop LX) [.lv 0, .th LY] (B8 (List.replicate 40 .dead) [(1, .ptr (1,0) [] 0 0 1 0),(3, .t (.v (.int .i64 many))),(7, .t (.sl false (o.Kids.map (GNode.row false)))),(8, .t (.v (.int .i64 (AF o.Kids)))),(9, .t (.v (.int .i64 x1)))]) (B9 (List.replicate 40 []) [(1,[.mem [[.v (.int .i64 o.Kind), .v (.string o.Sel.Id), .sl false (o.Sel.Steps.map (GStp.row false)), .v (.int .i64 o.Pos), .v (.int .i64 o.Typ), .v (.string o.Pre), .v (.string o.Local), .v (.int .i64 o.Ws), .sl false (o.Kids.map (GNode.row false)), .sl false (o.Decls.map GDecl.row)]] 0 false])])):=by
 unfold Ok
 refine DZ.partial_correctness o _ ?_
 intro F ih many x1
 show Ok _ _ _
 have ih:∀(many:Int) (x1:Int),Ok (F many x1) _ _:=ih
 rw[AV]
 have k0:= @LX.eq_1;have k1:= @LY.eq_1;have g0:=XG;have g1:=Z4;have g2:=Z5;have g3:=UI;have t0:=ih
 exact gs
theorem gB : ∀ (o:GOp),Ok (Qy o) S7 (dn AI Wj [.agg (((GOp.row false) o).map .t)]):=by
 intro o
 rw[A5 AI (fn:=Kh) rfl (xN rfl rfl _) (lB rfl)]
 have k0:= @Kh.eq_1;have f0:= @Qy.eq_1;have t0:=Zy
 exact gs
theorem mr : ∀ (s:ByteArray) (t:ByteArray),Ok (strings_Cut s t) VC (dn AI Ux [.t (.v (.string s)), .t (.v (.string t))]):=by
 intro s t r hr
 exact Ms AI.ft (xOf AI) (A5S s t (e:=VC) (fun _=>rfl) hr)
theorem eZ : ∀ (s:ByteArray),Ok (DG s) Vk (dn AI Vc [.t (.v (.string s))]):=by
 intro s
 rw[A5 AI (fn:=Ja) rfl (xN rfl rfl _) (lB rfl)]
 have k0:= @Ja.eq_1;have f0:= @DG.eq_1;have g0:=FF;have g1:=mr
 exact gs
theorem Zz : ∀ (pre:ByteArray) (local1:ByteArray) (s:ByteArray),Ok (Da pre local1 s) S8 (ev AI X2 LZ [] (B8 (List.replicate 35 .dead) [(0, .t (.v (.string pre))),(1, .t (.v (.string local1))),(5, .t (.v (.string s)))]) (B9 (List.replicate 35 []) [])):=by
 intro pre local1 s
 have k0:= @LZ.eq_1;have f0:= @Da.eq_1;have g0:=eZ
 exact gs
theorem Fl : ∀ (pre:ByteArray) (local1:ByteArray),Ok (BX pre local1) S8 (dn AI DJ [.t (.v (.string pre)), .t (.v (.string local1))]):=by
 intro pre local1
 rw[A5 AI (fn:=Kl) rfl (xN rfl rfl _) (lB rfl)]
 have k0:= @Kl.eq_1;have f0:= @BX.eq_1;have t0:=Zz
 exact gs
theorem ed : ∀ (o:GOp),Ok (G6 o) VD (ev AI bW Pe [] (B8 (List.replicate 53 .dead) [(1, .ptr (1,0) [] 0 0 1 0)]) (B9 (List.replicate 53 []) [(1,[.mem [[.v (.int .i64 o.Kind), .v (.string o.Sel.Id), .sl false (o.Sel.Steps.map (GStp.row false)), .v (.int .i64 o.Pos), .v (.int .i64 o.Typ), .v (.string o.Pre), .v (.string o.Local), .v (.int .i64 o.Ws), .sl false (o.Kids.map (GNode.row false)), .sl false (o.Decls.map GDecl.row)]] 0 false])])):=by
 intro o
 have k0:= @Pe.eq_1;have f0:= @G6.eq_1;have g0:=RI
 exact gs
theorem mt : ∀ (o:GOp),Ok (MU o) VD (dn AI aV [.agg (((GOp.row false) o).map .t)]):=by
 intro o
 rw[A5 AI (fn:=QF) rfl (xN rfl rfl _) (lB rfl)]
 have k0:= @QF.eq_1;have f0:= @MU.eq_1;have g0:=Fl;have t0:=ed
 exact gs
theorem gC : ∀ (bare:Bool) (o:GOp),Ok (CQ bare o) Ye (ev AI iP Rh [] (B8 (List.replicate 93 .dead) [(1, .ptr (1,0) [] 0 0 1 0),(3, .t (.v (.bool bare)))]) (B9 (List.replicate 93 []) [(1,[.mem [[.v (.int .i64 o.Kind), .v (.string o.Sel.Id), .sl false (o.Sel.Steps.map (GStp.row false)), .v (.int .i64 o.Pos), .v (.int .i64 o.Typ), .v (.string o.Pre), .v (.string o.Local), .v (.int .i64 o.Ws), .sl false (o.Kids.map (GNode.row false)), .sl false (o.Decls.map GDecl.row)]] 0 false])])):=by
 intro bare o
 have k0:= @Rh.eq_1;have f0:= @CQ.eq_1;have g0:=UF;have g1:=mt
 exact gs
theorem uj : ∀ (o:GOp),Ok (MV o) Ye (dn AI iH [.agg (((GOp.row false) o).map .t)]):=by
 intro o
 rw[A5 AI (fn:=UR) rfl (xN rfl rfl _) (lB rfl)]
 have k0:= @UR.eq_1;have f0:= @MV.eq_1;have g0:=bl;have g1:=gA;have g2:=M3;have g3:=gB;have t0:=gC
 exact gs
theorem Ua : ∀ (s:ByteArray),Ok (Em s) Vl (dn AI HQ [.t (.v (.string s))]):=by
 intro s
 rw[A5 AI (fn:=JU) rfl (xN rfl rfl _) (lB rfl)]
 have k0:= @JU.eq_1;have f0:= @Em.eq_1;have g0:=HL
 exact gs
theorem gD : ∀ (s:GStp),Ok (KL s) X3 (dn AI Wm [.agg (((GStp.row false) s).map .t)]):=by
 intro s
 rw[A5 AI (fn:=Ki) rfl (xN rfl rfl _) (lB rfl)]
 have k0:= @Ki.eq_1;have f0:= @KL.eq_1;have g0:=Fl
 exact gs
theorem jO : ∀ (s:Int),Ok (strconv_Itoa s) U7 (dn AI Tg [.t (.v (.int .i64 s))]):=by
 intro s r hr
 exact Ms AI.ft (xOf AI) (A24 s (e:=U7) (fun _=>rfl) hr)
theorem gE : ∀ (p:GPred),Ok (KM p) X4 (dn AI Wl [.agg ((GPred.row p).map .t)]):=by
 intro p
 rw[A5 AI (fn:=Kj) rfl (xN rfl rfl _) (lB rfl)]
 have k0:= @Kj.eq_1;have f0:= @KM.eq_1;have g0:=jO;have g1:=Fl;have g2:=Ua
 exact gs
theorem cr (s:GSel):(∀(out4:ByteArray) (x12:Int) (xDeep1:Bool) (x13:GStp),Ok (D2 out4 s x12 xDeep1 x13) Hc (ev AI JJ LF [.lv 1, .th Hu, .hk [.clean []], .th (.loop Fu), .lv 0, .th Fv] (B8 (List.replicate 63 .dead) [(1, .ptr (1,0) [] 0 0 1 0),(3, .t (.v (.string out4))),(5, .ptr (5,0) [] 0 0 1 0),(20, .t (.sl false (s.Steps.map (GStp.row false)))),(21, .t (.v (.int .i64 (AF s.Steps)))),(22, .t (.v (.int .i64 x12)))]) (B9 (List.replicate 63 []) [(1,[.mem [[.v (.string s.Id), .sl false (s.Steps.map (GStp.row false))]] 0 false]),(5,[.mem [[.v (.bool xDeep1), .v (.int .i64 x13.Kind), .v (.string x13.Pre), .v (.string x13.Local), .sl false (x13.Preds.map GPred.row)]] 0 false])])))∧
  (∀(out5:ByteArray) (x12:Int) (x13:GStp) (x20:Int),Ok (EL out5 s x12 x13 x20) Hc (ev AI JJ (.loop LD) [.lv 3, .lv 1, .th Hu, .hk [.clean []], .th (.loop Fu), .lv 0, .th Fv] (B8 (List.replicate 63 .dead) [(1, .ptr (1,0) [] 0 0 1 0),(3, .t (.v (.string out5))),(20, .t (.sl false (s.Steps.map (GStp.row false)))),(21, .t (.v (.int .i64 (AF s.Steps)))),(22, .t (.v (.int .i64 x12))),(47, .t (.sl false (x13.Preds.map GPred.row))),(48, .t (.v (.int .i64 (AF x13.Preds)))),(49, .t (.v (.int .i64 x20)))]) (B9 (List.replicate 63 []) [(1,[.mem [[.v (.string s.Id), .sl false (s.Steps.map (GStp.row false))]] 0 false])])))∧
  (∀(out3:ByteArray) (x12:Int),Ok (D3 out3 s x12) Hc (ev AI JJ (.loop Fu) [.lv 0, .th Fv] (B8 (List.replicate 63 .dead) [(1, .ptr (1,0) [] 0 0 1 0),(3, .t (.v (.string out3))),(20, .t (.sl false (s.Steps.map (GStp.row false)))),(21, .t (.v (.int .i64 (AF s.Steps)))),(22, .t (.v (.int .i64 x12)))]) (B9 (List.replicate 63 []) [(1,[.mem [[.v (.string s.Id), .sl false (s.Steps.map (GStp.row false))]] 0 false])]))):=by
 unfold Ok
 refine D2.mutual_partial_correctness s _ _ _ ?_ ?_ ?_
 ·intro F1 ih1 out4 x12 xDeep1 x13
  show Ok _ _ _
  have ih1:∀(out5:ByteArray) (x12:Int) (x13:GStp) (x20:Int),Ok (F1 out5 x12 x13 x20) _ _:=ih1
  have k0:= @LF.eq_1;have g0:=gD;have t0:=ih1
  exact gs
 ·intro F1 F2 ih1 ih2 out5 x12 x13 x20
  show Ok _ _ _
  have ih1:∀(out5:ByteArray) (x12:Int) (x13:GStp) (x20:Int),Ok (F1 out5 x12 x13 x20) _ _:=ih1
  have ih2:∀(out3:ByteArray) (x12:Int),Ok (F2 out3 x12) _ _:=ih2
  rw[AV]
  have k0:= @LD.eq_1;have k1:= @Hu.eq_1;have g0:=gE;have t0:=ih1;have t1:=ih2
  exact gs
 ·intro F0 ih0 out3 x12
  show Ok _ _ _
  have ih0:∀(out4:ByteArray) (x12:Int) (xDeep1:Bool) (x13:GStp),Ok (F0 out4 x12 xDeep1 x13) _ _:=ih0
  rw[AV]
  have k0:= @Fu.eq_1;have k1:= @Fv.eq_1;have t0:=ih0
  exact gs
theorem a7 : ∀ (out:ByteArray) (s:GSel),Ok (Ff out s) Hc (ev AI JJ LG [] (B8 (List.replicate 63 .dead) [(1, .ptr (1,0) [] 0 0 1 0),(3, .t (.v (.string out)))]) (B9 (List.replicate 63 []) [(1,[.mem [[.v (.string s.Id), .sl false (s.Steps.map (GStp.row false))]] 0 false])])):=by
 intro out s
 have k0:= @LG.eq_1;have f0:= @Ff.eq_1;have t0:=fun a0=>(cr a0).2.2
 exact gs
theorem XH : ∀ (s:GSel),Ok (I4 s) Hc (dn AI TY [.agg (((GSel.row false) s).map .t)]):=by
 intro s
 rw[A5 AI (fn:=N9) rfl (xN rfl rfl _) (lB rfl)]
 have k0:= @N9.eq_1;have f0:= @I4.eq_1;have g0:=bl;have g1:=Ua;have t0:=a7
 exact gs
end TT
