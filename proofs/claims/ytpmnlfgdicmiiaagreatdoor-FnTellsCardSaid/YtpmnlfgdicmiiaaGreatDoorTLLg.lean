import Derived.Test.YtpmnlfgdicmiiaaGreatDoorTLLf
set_option maxHeartbeats 2000000
set_option linter.unusedVariables false
set_option linter.unusedSimpArgs false
set_option linter.defProp false
set_option maxRecDepth 100000
namespace TT
open Go
open Nat (reduceAdd reduceSub reduceMul reduceLeDiff reduceLT reduceEqDiff)
theorem Z1 : ∀ (s:ByteArray) (t:ByteArray),Ok (strings_EqualFold s t) Lh (dn AL Lc [.t (.v (.string s)), .t (.v (.string t))]):=by
 intro s t r hr
 exact L5 AL.ft (xOf AL) (A1G s t (e:=Lh) (fun _=>rfl) hr)
theorem it : ∀ (n:Int),Ok (LO n) Yd (dn AL YA [.t (.v (.int .i64 n))]):=by
 intro n
 rw[AB AL (fn:=PC) rfl (xN rfl rfl _) (lB rfl)]
 have k0:= @PC.eq_1;have f0:= @LO.eq_1
 exact gs
theorem li : ∀ (local1:ByteArray) (s:ByteArray),Ok (Ul local1 s) b6 (dn AL aL [.t (.v (.string local1)), .t (.v (.string s))]):=by
 intro local1 s
 rw[AB AL (fn:=Qz) rfl (xN rfl rfl _) (lB rfl)]
 have k0:= @Qz.eq_1;have f0:= @Ul.eq_1;have g0:=Ft;have g1:=Z1;have g2:=Iw;have g3:=IS;have g4:=it
 exact gs
theorem eI : ∀ (n:A0),Ok (Gl n) VM (ev AL b7 Q3 [] (BO (List.replicate 63 .dead) [(1, .ptr (1,0) [] 0 0 1 0)]) (BP (List.replicate 63 []) [(1,[.mem [[.v (.int .i64 n.Kind), .v (.string n.Pre), .v (.string n.Local), .v (.string n.Uri), .sl false (n.Decls.map A2.row), .sl false (n.Attrs.map A5.row), .sl false (n.Kids.map (A0.row false)), .v (.string n.Text)]] 0 false])])):=by
 intro n
 have k0:= @Q3.eq_1;have f0:= @Gl.eq_1;have g0:=Iw;have g1:=lh;have g2:=li
 exact gs
theorem lj : ∀ (n:A0),Ok (He n) VM (dn AL aH [.agg (((A0.row false) n).map .t)]):=by
 intro n
 rw[AB AL (fn:=Qv) rfl (xN rfl rfl _) (lB rfl)]
 have k0:= @Qv.eq_1;have f0:= @He.eq_1;have t0:=eI
 exact gs
theorem Nc : ∀ (s:ByteArray) (prefix1:ByteArray),Ok (DU s prefix1) Hl (dn AL HK [.t (.v (.string s)), .t (.v (.string prefix1))]):=by
 intro s prefix1
 rw[AB AL (fn:=Cw) rfl (xN rfl rfl _) (lB rfl)]
 have k0:= @Cw.eq_1;have f0:= @DU.eq_1
 exact gs
theorem Z2 : ∀ (s:ByteArray) (prefix1:ByteArray),Ok (Hf s prefix1) Sl (dn AL Sc [.t (.v (.string s)), .t (.v (.string prefix1))]):=by
 intro s prefix1
 rw[AB AL (fn:=IM) rfl (xN rfl rfl _) (lB rfl)]
 have k0:= @IM.eq_1;have f0:= @Hf.eq_1;have g0:=Nc
 exact gs
theorem VU : ∀ (s:ByteArray),Ok (Ko s) de (dn AL T0 [.t (.v (.string s))]):=by
 intro s
 rw[AB AL (fn:=TJ) rfl (xN rfl rfl _) (lB rfl)]
 have k0:= @TJ.eq_1;have f0:= @Ko.eq_1;have g0:=Ft;have g1:=Z2
 exact gs
theorem VV : ∀ (uri:ByteArray) (pre:ByteArray),Ok (N6 uri pre) dg (dn AL T3 [.t (.v (.string uri)), .t (.v (.string pre))]):=by
 intro uri pre
 rw[AB AL (fn:=TK) rfl (xN rfl rfl _) (lB rfl)]
 have k0:= @TK.eq_1;have f0:= @N6.eq_1;have g0:=Iw
 exact gs
theorem lk : ∀ (d:A2),Ok (RX d) b8 (dn AL aB [.agg ((A2.row d).map .t)]):=by
 intro d
 rw[AB AL (fn:=R0) rfl (xN rfl rfl _) (lB rfl)]
 have k0:= @R0.eq_1;have f0:= @RX.eq_1;have g0:=VU;have g1:=VV
 exact gs
theorem bx (l:List A2):∀(x2:Int),Ok (Ee l x2) UH (ev AL Ye (.loop Ov) [.lv 0, .th Ow] (BO (List.replicate 34 .dead) [(0, .t (.sl false (l.map A2.row))),(5, .t (.sl false (l.map A2.row))),(6, .t (.v (.int .i64 (AD l)))),(7, .t (.v (.int .i64 x2)))]) (BP (List.replicate 34 []) [])):=by
 unfold Ok
 refine Ee.partial_correctness l _ ?_
 intro F ih x2
 show Ok _ _ _
 have ih:∀(x2:Int),Ok (F x2) _ _:=ih
 rw[AZ]
 have k0:= @Ov.eq_1;have k1:= @Ow.eq_1;have g0:=lk;have t0:=ih
 exact gs
theorem iu : ∀ (l:List A2),Ok (TS l) UH (dn AL Y9 [.t (.sl false (l.map A2.row))]):=by
 intro l
 rw[AB AL (fn:=Ox) rfl (xN rfl rfl _) (lB rfl)]
 have k0:= @Ox.eq_1;have f0:= @TS.eq_1;have t0:=bx
 exact gs
theorem ll : ∀ (a:A5),Ok (Kp a) b9 (dn AL aG [.agg ((A5.row a).map .t)]):=by
 intro a
 rw[AB AL (fn:=R1) rfl (xN rfl rfl _) (lB rfl)]
 have k0:= @R1.eq_1;have f0:= @Kp.eq_1;have g0:=VU;have g1:=VV;have g2:=Ft;have g3:=Iw
 exact gs
theorem c9 : ∀ (s:ByteArray) (t:ByteArray),Ok (strings_Compare s t) PP (dn AL K5 [.t (.v (.string s)), .t (.v (.string t))]):=by
 intro s t r hr
 exact L5 AL.ft (xOf AL) (s9 s t (e:=PP) (fun _=>rfl) hr)
theorem Z3 : ∀ (a:A5) (b:A5),Ok (Hg a b) Sm (dn AL SX [.agg ((A5.row a).map .t), .agg ((A5.row b).map .t)]):=by
 intro a b
 rw[AB AL (fn:=IN) rfl (xN rfl rfl _) (lB rfl)]
 have k0:= @IN.eq_1;have f0:= @Hg.eq_1;have g0:=c9
 exact gs
theorem cA (l:List A5):∀(x2:Int),Ok (Ef l x2) UI (ev AL Yf (.loop Oy) [.lv 0, .th Oz] (BO (List.replicate 33 .dead) [(0, .t (.sl false (l.map A5.row))),(5, .t (.sl false (l.map A5.row))),(6, .t (.v (.int .i64 (AD l)))),(7, .t (.v (.int .i64 x2)))]) (BP (List.replicate 33 []) [])):=by
 unfold Ok
 refine Ef.partial_correctness l _ ?_
 intro F ih x2
 show Ok _ _ _
 have ih:∀(x2:Int),Ok (F x2) _ _:=ih
 rw[AZ]
 have k0:= @Oy.eq_1;have k1:= @Oz.eq_1;have g0:=ll;have g1:=Z3;have t0:=ih
 exact gs
theorem iv : ∀ (l:List A5),Ok (PI l) UI (dn AL YD [.t (.sl false (l.map A5.row))]):=by
 intro l
 rw[AB AL (fn:=P0) rfl (xN rfl rfl _) (lB rfl)]
 have k0:= @P0.eq_1;have f0:= @PI.eq_1;have t0:=cA
 exact gs
theorem Xc (l:List A0):∀(x2:Int),Ok (CZ l x2) PQ (ev AL Up (.loop Kb) [.lv 0, .th Kc] (BO (List.replicate 29 .dead) [(0, .t (.sl false (l.map (A0.row false)))),(5, .t (.sl false (l.map (A0.row false)))),(6, .t (.v (.int .i64 (AD l)))),(7, .t (.v (.int .i64 x2)))]) (BP (List.replicate 29 []) [])):=by
 unfold Ok
 refine CZ.partial_correctness l _ ?_
 intro F ih x2
 show Ok _ _ _
 have ih:∀(x2:Int),Ok (F x2) _ _:=ih
 rw[AZ]
 have k0:= @Kb.eq_1;have k1:= @Kc.eq_1;have t0:=ih
 exact gs
theorem cC : ∀ (l:List A0),Ok (Jj l) PQ (dn AL Ud [.t (.sl false (l.map (A0.row false)))]):=by
 intro l
 rw[AB AL (fn:=KB) rfl (xN rfl rfl _) (lB rfl)]
 have k0:= @KB.eq_1;have f0:= @Jj.eq_1;have t0:=Xc
 exact gs
theorem MD : (∀ (n:A0) (deep:Int),Ok (FY n deep) VN (dn AL QK [.agg (((A0.row false) n).map .t), .t (.v (.int .i64 deep))]))∧
  (∀(s:List A0) (fc0:Int),Ok (Cm s fc0) Do (dn AL GR [.t (.sl false (s.map (A0.row false))), .fn EZ [.lp [.v (.int .i64 fc0)] 0]]))∧
  (∀(s:List A0) (fc0:Int),Ok (DV s fc0) D1 (dn AL IY [.t (.sl false (s.map (A0.row false))), .fn EZ [.lp [.v (.int .i64 fc0)] 0]]))∧
  (∀(s:List A0) (x1:Int) (f:Int),Ok (BB s x1 f) D1 (ev AL Hm (.loop Ga) [.lv 0, .th Gb] (BO (List.replicate 19 .dead) [(0, .t (.sl false (s.map (A0.row false)))),(1, .fn EZ [.ptr (1,0) [] 0 0 1 0]),(7, .t (.v (.int .i64 (AD s)))),(8, .t (.v (.int .i64 x1)))]) (BP (List.replicate 19 []) [(1,[.mem [[.v (.int .i64 f)]] 0 true])])))∧
  (∀(k:A0) (a1:Int),Ok (R5 k a1) SR (dn AL EZ [.agg (((A0.row false) k).map .t), .lp [.v (.int .i64 a1)] 0]))∧
  (∀(n:A0) (deep:Int),Ok (CO n deep) VO (dn AL QN [.agg (((A0.row false) n).map .t), .t (.v (.int .i64 deep))])):=by
 unfold Ok
 refine FY.mutual_partial_correctness _ _ _ _ _ _ ?_ ?_ ?_ ?_ ?_ ?_
 ·intro F1 ih1 n deep
  show Ok _ _ _
  have ih1:∀(s:List A0) (fc0:Int),Ok (F1 s fc0) _ _:=ih1
  rw[AB AL (fn:=Qo) rfl (xN rfl rfl _) (lB rfl)]
  have k0:= @Qo.eq_1;have g0:=cC;have g1:=ih1
  exact gs
 ·intro F2 ih2 s fc0
  show Ok _ _ _
  have ih2:∀(s:List A0) (fc0:Int),Ok (F2 s fc0) _ _:=ih2
  rw[AB AL (fn:=EO) rfl (xN rfl rfl _) (lB rfl)]
  have k0:= @EO.eq_1;have g0:=ih2
  exact gs
 ·intro F3 ih3 s fc0
  show Ok _ _ _
  have ih3:∀(s:List A0) (x1:Int) (f:Int),Ok (F3 s x1 f) _ _:=ih3
  rw[AB AL (fn:=Fg) rfl (xN rfl rfl _) (lB rfl)]
  have k0:= @Fg.eq_1;have t0:=ih3
  exact gs
 ·intro F3 F4 ih3 ih4 s x1 f
  show Ok _ _ _
  have ih4:∀(k:A0) (a1:Int),Ok (F4 k a1) _ _:=ih4
  have ih3:∀(s:List A0) (x1:Int) (f:Int),Ok (F3 s x1 f) _ _:=ih3
  rw[AZ]
  have k0:= @Ga.eq_1;have k1:= @Gb.eq_1;have g0:=ih4;have t0:=ih3
  exact gs
 ·intro F5 ih5 k a1
  show Ok _ _ _
  have ih5:∀(n:A0) (deep:Int),Ok (F5 n deep) _ _:=ih5
  rw[AB AL (fn:=Mf) rfl (xN rfl rfl _) (lB rfl)]
  have k0:= @Mf.eq_1;have g0:=ih5
  exact gs
 ·intro F0 ih0 n deep
  show Ok _ _ _
  have ih0:∀(n:A0) (deep:Int),Ok (F0 n deep) _ _:=ih0
  rw[AB AL (fn:=Qn) rfl (xN rfl rfl _) (lB rfl)]
  have k0:= @Qn.eq_1;have g0:=lj;have g1:=VU;have g2:=VV;have g3:=Ft;have g4:=iu;have g5:=iv;have g6:=ih0
  exact gs
theorem lm (n:A0) (deep:Int):Ok (FY n deep) VN (dn AL QK [.agg (((A0.row false) n).map .t), .t (.v (.int .i64 deep))]):=MD.1 n deep
theorem Zn (s:List A0) (fc0:Int):Ok (Cm s fc0) Do (dn AL GR [.t (.sl false (s.map (A0.row false))), .fn EZ [.lp [.v (.int .i64 fc0)] 0]]):=MD.2.1 s fc0
theorem cS (s:List A0) (fc0:Int):Ok (DV s fc0) D1 (dn AL IY [.t (.sl false (s.map (A0.row false))), .fn EZ [.lp [.v (.int .i64 fc0)] 0]]):=MD.2.2.1 s fc0
theorem A1h (k:A0) (a1:Int):Ok (R5 k a1) SR (dn AL EZ [.agg (((A0.row false) k).map .t), .lp [.v (.int .i64 a1)] 0]):=MD.2.2.2.2.1 k a1
theorem lq (n:A0) (deep:Int):Ok (CO n deep) VO (dn AL QN [.agg (((A0.row false) n).map .t), .t (.v (.int .i64 deep))]):=MD.2.2.2.2.2 n deep
end TT
