import Derived.Test.YtkbbbbeagnfliaaGreatDoorTLLe
set_option maxHeartbeats 2000000
set_option linter.unusedVariables false
set_option linter.unusedSimpArgs false
set_option linter.defProp false
set_option maxRecDepth 100000
namespace TT
open Go
open Nat (reduceAdd reduceSub reduceMul reduceLeDiff reduceLT reduceEqDiff)
theorem Zv (s r14:ByteArray) (n:GNode):∀(t5:ByteArray) (i6:Int),Ok (Ct s r14 t5 i6 n) G7 (ev AI JI (.loop LA) [.lv 5, .th LB] (B8 (List.replicate 136 .dead) [(1, .ptr (1,0) [] 0 0 1 0),(3, .t (.v (.string s))),(5, .t (.v (.string r14))),(6, .t (.v (.string t5))),(10, .t (.v (.int .i64 i6)))]) (B9 (List.replicate 136 []) [(1,[.mem [[.v (.int .i64 n.Kind), .v (.string n.Pre), .v (.string n.Local), .v (.string n.Uri), .sl false (n.Decls.map GDecl.row), .sl false (n.Attrs.map GAttr.row), .sl false (n.Kids.map (GNode.row false)), .v (.string n.Text)]] 0 false])])):=by
 unfold Ok
 refine Ct.partial_correctness s r14 n _ ?_
 intro F ih t5 i6
 show Ok _ _ _
 have ih:∀(t5:ByteArray) (i6:Int),Ok (F t5 i6) _ _:=ih
 rw[AV]
 have k0:= @LA.eq_1;have k1:= @LB.eq_1;have g0:=Db;have g1:=XE;have t0:=ih
 exact gs
theorem cX (s r14:ByteArray) (n:GNode):(∀(t4:ByteArray) (i5:Int) (x112:ByteArray) (x110:GDecl),Ok (Cu s r14 t4 i5 x112 n x110) G7 (ev AI JI L8 [.lv 4, .th L9, .hk [.clean [8]], .th (.loop Hs), .lv 3, .th Ht] (B8 (List.replicate 136 .dead) [(1, .ptr (1,0) [] 0 0 1 0),(3, .t (.v (.string s))),(5, .t (.v (.string r14))),(6, .t (.v (.string t4))),(7, .t (.v (.int .i64 i5))),(8, .ptr (8,0) [] 0 0 1 0),(9, .t (.v (.string x112)))]) (B9 (List.replicate 136 []) [(1,[.mem [[.v (.int .i64 n.Kind), .v (.string n.Pre), .v (.string n.Local), .v (.string n.Uri), .sl false (n.Decls.map GDecl.row), .sl false (n.Attrs.map GAttr.row), .sl false (n.Kids.map (GNode.row false)), .v (.string n.Text)]] 0 false]),(8,[.mem [[.v (.string x110.Pre), .v (.string x110.Uri)]] 0 false])])))∧
  (∀(t4:ByteArray) (i5:Int),Ok (DX s r14 t4 i5 n) G7 (ev AI JI (.loop Hs) [.lv 3, .th Ht] (B8 (List.replicate 136 .dead) [(1, .ptr (1,0) [] 0 0 1 0),(3, .t (.v (.string s))),(5, .t (.v (.string r14))),(6, .t (.v (.string t4))),(7, .t (.v (.int .i64 i5)))]) (B9 (List.replicate 136 []) [(1,[.mem [[.v (.int .i64 n.Kind), .v (.string n.Pre), .v (.string n.Local), .v (.string n.Uri), .sl false (n.Decls.map GDecl.row), .sl false (n.Attrs.map GAttr.row), .sl false (n.Kids.map (GNode.row false)), .v (.string n.Text)]] 0 false])]))):=by
 unfold Ok
 refine Cu.mutual_partial_correctness s r14 n _ _ ?_ ?_
 ·intro F1 ih1 t4 i5 x112 x110
  show Ok _ _ _
  have ih1:∀(t4:ByteArray) (i5:Int),Ok (F1 t4 i5) _ _:=ih1
  have k0:= @L8.eq_1;have k1:= @L9.eq_1;have g0:=XE;have t0:=ih1
  exact gs
 ·intro F0 ih0 t4 i5
  show Ok _ _ _
  have ih0:∀(t4:ByteArray) (i5:Int) (x112:ByteArray) (x110:GDecl),Ok (F0 t4 i5 x112 x110) _ _:=ih0
  rw[AV]
  have k0:= @Hs.eq_1;have k1:= @Ht.eq_1;have t0:=ih0;have t1:=Zv
  exact gs
theorem mY : (∀ (n:GNode),Ok (Dq n) G7 (dn AI In [.agg (((GNode.row false) n).map .t)]))∧
  (∀(s:ByteArray) (i3:Int) (n:GNode),Ok (CP s i3 n) G7 (ev AI JI (.loop L7) [.lv 1, .th LC] (B8 (List.replicate 136 .dead) [(1, .ptr (1,0) [] 0 0 1 0),(3, .t (.v (.string s))),(4, .t (.v (.int .i64 i3)))]) (B9 (List.replicate 136 []) [(1,[.mem [[.v (.int .i64 n.Kind), .v (.string n.Pre), .v (.string n.Local), .v (.string n.Uri), .sl false (n.Decls.map GDecl.row), .sl false (n.Attrs.map GAttr.row), .sl false (n.Kids.map (GNode.row false)), .v (.string n.Text)]] 0 false])]))):=by
 unfold Ok
 refine Dq.mutual_partial_correctness _ _ ?_ ?_
 ·intro F1 ih1 n
  show Ok _ _ _
  have ih1:∀(s:ByteArray) (i3:Int) (n:GNode),Ok (F1 s i3 n) _ _:=ih1
  rw[A5 AI (fn:=N8) rfl (xN rfl rfl _) (lB rfl)]
  have k0:= @N8.eq_1;have g0:=jH;have t0:=ih1
  exact gs
 ·intro F0 F1 ih0 ih1 s i3 n
  show Ok _ _ _
  have ih0:∀(n:GNode),Ok (F0 n) _ _:=ih0
  have ih1:∀(s:ByteArray) (i3:Int) (n:GNode),Ok (F1 s i3 n) _ _:=ih1
  rw[AV]
  have k0:= @L7.eq_1;have k1:= @LC.eq_1;have g0:=ih0;have g1:=Db;have t0:=ih1;have t1:=fun a0 a1 a2=>(cX a0 a1 a2).2
  exact gs
theorem jI (n:GNode):Ok (Dq n) G7 (dn AI In [.agg (((GNode.row false) n).map .t)]):=mY.1 n
theorem Yy (l:List GOp):∀(i:Int) (rKids:List (GNode)),Ok (Dr l i rKids) Ry (ev AI Wy (.loop Jv) [.lv 0, .th Jw] (B8 (List.replicate 66 .dead) [(0, .t (.sl false (l.map (GOp.row false)))),(3, .ptr (3,0) [] 0 0 1 0),(4, .t (.v (.int .i64 i)))]) (B9 (List.replicate 66 []) [(3,[.mem [[.v (.int .i64 1), .v (.string (⟨#[]⟩)), .v (.string (⟨#[100,105,102,102]⟩)), .v (.string (⟨#[]⟩)), .sl true [], .sl true [], .sl true (rKids.map (GNode.row true)), .v (.string (⟨#[]⟩))]] 0 false])])):=by
 unfold Ok
 refine Dr.partial_correctness l _ ?_
 intro F ih i rKids
 show Ok _ _ _
 have ih:∀(i:Int) (rKids:List (GNode)),Ok (F i rKids) _ _:=ih
 rw[AV]
 have k0:= @Jv.eq_1;have k1:= @Jw.eq_1;have g0:=ui;have g1:=XD;have g2:=jG;have g3:=mX;have g4:=jI;have t0:=ih
 exact gs
theorem fu : ∀ (l:List GOp),Ok (KJ l) Ry (dn AI Wp [.t (.sl false (l.map (GOp.row false)))]):=by
 intro l
 rw[A5 AI (fn:=KZ) rfl (xN rfl rfl _) (lB rfl)]
 have k0:= @KZ.eq_1;have f0:= @KJ.eq_1;have t0:=Yy
 exact gs
theorem UF : ∀ (n:Int) (lo:Int) (hi:Int),Ok (I3 n lo hi) rt (dn AI PT [.t (.v (.int .i64 n)), .t (.v (.int .i64 lo)), .t (.v (.int .i64 hi))]):=by
 intro n lo hi
 rw[A5 AI (fn:=ZV) rfl (xN rfl rfl _) (lB rfl)]
 have k0:= @ZV.eq_1;have f0:= @I3.eq_1
 exact gs
theorem M1 : ∀ (s:ByteArray),Ok (E8 s) Dg (dn AI De [.t (.v (.string s))]):=by
 intro s r hr
 exact Ms AI.ft (xOf AI) (wm s (e:=Dg) (fun _=>rfl) hr)
theorem Yz : ∀ (s:ByteArray) (at1:Int),Ok (MR s at1) bI (dn AI Un [.t (.v (.string s)), .t (.v (.int .i64 at1))]):=by
 intro s at1
 rw[A5 AI (fn:=Qk) rfl (xN rfl rfl _) (lB rfl)]
 have k0:= @Qk.eq_1;have f0:= @MR.eq_1;have g0:=UF;have g1:=M1
 exact gs
theorem jJ : ∀ (r:AE) (a1:Int),Ok (T4 r a1) YW (dn AI Ik [.agg ((AE.row r).map .t), .lp [.v (.int .i64 a1)] 0]):=by
 intro r a1
 rw[A5 AI (fn:=Oc) rfl (xN rfl rfl _) (lB rfl)]
 have k0:= @Oc.eq_1;have f0:= @T4.eq_1;have g0:=UF
 exact gs
theorem K6 (s:List AE):∀(x1:Int) (f:Int),Ok (As s x1 f) Dt (ev AI Gk (.loop FM) [.lv 0, .th FN] (B8 (List.replicate 19 .dead) [(0, .t (.sl false (s.map AE.row))),(1, .fn Ik [.ptr (1,0) [] 0 0 1 0]),(7, .t (.v (.int .i64 (AF s)))),(8, .t (.v (.int .i64 x1)))]) (B9 (List.replicate 19 []) [(1,[.mem [[.v (.int .i64 f)]] 0 true])])):=by
 unfold Ok
 refine As.partial_correctness s _ ?_
 intro F ih x1 f
 show Ok _ _ _
 have ih:∀(x1:Int) (f:Int),Ok (F x1 f) _ _:=ih
 rw[AV]
 have k0:= @FM.eq_1;have k1:= @FN.eq_1;have g0:=jJ;have t0:=ih
 exact gs
theorem Mh : ∀ (s:List AE) (fc0:Int),Ok (Cw s fc0) Dt (dn AI KE [.t (.sl false (s.map AE.row)), .fn Ik [.lp [.v (.int .i64 fc0)] 0]]):=by
 intro s fc0
 rw[A5 AI (fn:=EY) rfl (xN rfl rfl _) (lB rfl)]
 have k0:= @EY.eq_1;have f0:= @Cw.eq_1;have t0:=K6
 exact gs
theorem K7 : ∀ (s:List AE) (fc0:Int),Ok (CL s fc0) FY (dn AI IT [.t (.sl false (s.map AE.row)), .fn Ik [.lp [.v (.int .i64 fc0)] 0]]):=by
 intro s fc0
 rw[A5 AI (fn:=Dd) rfl (xN rfl rfl _) (lB rfl)]
 have k0:= @Dd.eq_1;have f0:= @CL.eq_1;have g0:=Mh
 exact gs
theorem VH : ∀ (n:Int) (ranges:List AE),Ok (Lx n ranges) eC (dn AI SU [.t (.v (.int .i64 n)), .t (.sl false (ranges.map AE.row))]):=by
 intro n ranges
 rw[A5 AI (fn:=T3) rfl (xN rfl rfl _) (lB rfl)]
 have k0:= @T3.eq_1;have f0:= @Lx.eq_1;have g0:=K7
 exact gs
theorem XF : ∀ (n:Int),Ok (Jj n) YX (dn AI TX [.t (.v (.int .i64 n))]):=by
 intro n
 rw[A5 AI (fn:=OV) rfl (xN rfl rfl _) (lB rfl)]
 have k0:= @OV.eq_1;have f0:= @Jj.eq_1;have g0:=VH
 exact gs
theorem mZ : ∀ (n:Int),Ok (MS n) bJ (dn AI aM [.t (.v (.int .i64 n))]):=by
 intro n
 rw[A5 AI (fn:=Ql) rfl (xN rfl rfl _) (lB rfl)]
 have k0:= @Ql.eq_1;have f0:= @MS.eq_1;have g0:=XF;have g1:=VH
 exact gs
theorem cY (s:ByteArray):∀(at1:Int),Ok (DM s at1) U3 (ev AI YY (.loop OD) [.lv 0, .th OE] (B8 (List.replicate 38 .dead) [(0, .t (.v (.string s))),(3, .t (.v (.int .i64 at1)))]) (B9 (List.replicate 38 []) [])):=by
 unfold Ok
 refine DM.partial_correctness s _ ?_
 intro F ih at1
 show Ok _ _ _
 have ih:∀(at1:Int),Ok (F at1) _ _:=ih
 rw[AV]
 have k0:= @OD.eq_1;have k1:= @OE.eq_1;have g0:=Yz;have g1:=XF;have g2:=mZ;have g3:=UF;have t0:=ih
 exact gs
theorem FF : ∀ (s:ByteArray),Ok (BT s) U3 (dn AI CE [.t (.v (.string s))]):=by
 intro s
 rw[A5 AI (fn:=OF) rfl (xN rfl rfl _) (lB rfl)]
 have k0:= @OF.eq_1;have f0:= @BT.eq_1;have t0:=cY
 exact gs
theorem UG : ∀ (pre:ByteArray) (local1:ByteArray),Ok (J9 pre local1) bK (dn AI Q6 [.t (.v (.string pre)), .t (.v (.string local1))]):=by
 intro pre local1
 rw[A5 AI (fn:=Qb) rfl (xN rfl rfl _) (lB rfl)]
 have k0:= @Qb.eq_1;have f0:= @J9.eq_1;have g0:=FF
 exact gs
theorem ma : ∀ (n:Int),Ok (RF n) bL (dn AI aN [.t (.v (.int .i64 n))]):=by
 intro n
 rw[A5 AI (fn:=Qt) rfl (xN rfl rfl _) (lB rfl)]
 have k0:= @Qt.eq_1;have f0:= @RF.eq_1;have g0:=VH
 exact gs
theorem cZ (s:ByteArray):∀(at1:Int),Ok (E1 s at1) U4 (ev AI YZ (.loop OW) [.lv 0, .th OX] (B8 (List.replicate 26 .dead) [(0, .t (.v (.string s))),(3, .t (.v (.int .i64 at1)))]) (B9 (List.replicate 26 []) [])):=by
 unfold Ok
 refine E1.partial_correctness s _ ?_
 intro F ih at1
 show Ok _ _ _
 have ih:∀(at1:Int),Ok (F at1) _ _:=ih
 rw[AV]
 have k0:= @OW.eq_1;have k1:= @OX.eq_1;have g0:=Yz;have g1:=ma;have t0:=ih
 exact gs
theorem jK : ∀ (s:ByteArray),Ok (Oh s) U4 (dn AI Xr [.t (.v (.string s))]):=by
 intro s
 rw[A5 AI (fn:=OY) rfl (xN rfl rfl _) (lB rfl)]
 have k0:= @OY.eq_1;have f0:= @Oh.eq_1;have t0:=cZ
 exact gs
theorem He : ∀ (s:ByteArray),Ok (Ek s) bM (dn AI Gy [.t (.v (.string s))]):=by
 intro s
 rw[A5 AI (fn:=Qc) rfl (xN rfl rfl _) (lB rfl)]
 have k0:= @Qc.eq_1;have f0:= @Ek.eq_1;have g0:=jK
 exact gs
theorem HL : ∀ (s:ByteArray) (t:ByteArray),Ok (strings_Contains s t) Lz (dn AI C9 [.t (.v (.string s)), .t (.v (.string t))]):=by
 intro s t r hr
 exact Ms AI.ft (xOf AI) (pI s t (e:=Lz) (fun _=>rfl) hr)
theorem bj : ∀ (s:ByteArray),Ok (Ly s) eD (dn AI SX [.t (.v (.string s))]):=by
 intro s
 rw[A5 AI (fn:=Sv) rfl (xN rfl rfl _) (lB rfl)]
 have k0:= @Sv.eq_1;have f0:= @Ly.eq_1;have g0:=He;have g1:=HL
 exact gs
end TT
