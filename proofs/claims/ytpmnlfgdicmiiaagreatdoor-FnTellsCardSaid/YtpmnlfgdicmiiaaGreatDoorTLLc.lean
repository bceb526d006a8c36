import Derived.Test.YtpmnlfgdicmiiaaGreatDoorTLLb
set_option maxHeartbeats 2000000
set_option linter.unusedVariables false
set_option linter.unusedSimpArgs false
set_option linter.defProp false
set_option maxRecDepth 100000
namespace TT
open Go
open Nat (reduceAdd reduceSub reduceMul reduceLeDiff reduceLT reduceEqDiff)
theorem om : ∀ (s:ByteArray),Ok (N3 s) dW (dn AL dL [.t (.v (.string s))]):=by
 intro s
 rw[AB AL (fn:=TP) rfl (xN rfl rfl _) (lB rfl)]
 have k0:= @TP.eq_1;have f0:= @N3.eq_1
 exact gs
theorem ig : ∀ (n:Int),Ok (HV n) YT (dn AL YH [.t (.v (.int .i64 n))]):=by
 intro n
 rw[AB AL (fn:=P9) rfl (xN rfl rfl _) (lB rfl)]
 have k0:= @P9.eq_1;have f0:= @HV.eq_1
 exact gs
theorem Zj : ∀ (a:A5),Ok (Ey a) SP (ev AL XI N1 [] (BO (List.replicate 46 .dead) [(1, .ptr (1,0) [] 0 0 1 0)]) (BP (List.replicate 46 []) [(1,[.mem [[.v (.string a.Pre), .v (.string a.Local), .v (.string a.Uri), .v (.string a.Val)]] 0 false])])):=by
 intro a
 have k0:= @N1.eq_1;have f0:= @Ey.eq_1;have g0:=PT
 exact gs
theorem fR : ∀ (a:A5),Ok (GA a) SP (dn AL XF [.agg ((A5.row a).map .t)]):=by
 intro a
 rw[AB AL (fn:=Me) rfl (xN rfl rfl _) (lB rfl)]
 have k0:= @Me.eq_1;have f0:= @GA.eq_1;have g0:=bH;have g1:=Fs;have t0:=Zj
 exact gs
theorem du (n:A0):∀(i:Int),Ok (C1 i n) TX (ev AL Wn (.loop Q4) [.lv 1, .th Q5, .lv 0, .th Ma] (BO (List.replicate 195 .dead) [(1, .ptr (1,0) [] 0 0 1 0),(3, .t (.v (.int .i64 i)))]) (BP (List.replicate 195 []) [(1,[.mem [[.v (.int .i64 n.Kind), .v (.string n.Pre), .v (.string n.Local), .v (.string n.Uri), .sl false (n.Decls.map A2.row), .sl false (n.Attrs.map A5.row), .sl false (n.Kids.map (A0.row false)), .v (.string n.Text)]] 0 false])])):=by
 unfold Ok
 refine C1.partial_correctness n _ ?_
 intro F ih i
 show Ok _ _ _
 have ih:∀(i:Int),Ok (F i) _ _:=ih
 rw[AZ]
 have k0:= @Q4.eq_1;have k1:= @Q5.eq_1;have g0:=fR;have g1:=Ym;have t0:=ih
 exact gs
theorem fS : ∀ (n:A0),Ok (EE n) TX (ev AL Wn SL [.lv 0, .th Ma] (BO (List.replicate 195 .dead) [(1, .ptr (1,0) [] 0 0 1 0)]) (BP (List.replicate 195 []) [(1,[.mem [[.v (.int .i64 n.Kind), .v (.string n.Pre), .v (.string n.Local), .v (.string n.Uri), .sl false (n.Decls.map A2.row), .sl false (n.Attrs.map A5.row), .sl false (n.Kids.map (A0.row false)), .v (.string n.Text)]] 0 false])])):=by
 intro n
 have k0:= @SL.eq_1;have f0:= @EE.eq_1;have t0:=du
 exact gs
theorem oq : ∀ (n:A0),Ok (Dc n) TX (dn AL dJ [.agg (((A0.row false) n).map .t)]):=by
 intro n
 rw[AB AL (fn:=TM) rfl (xN rfl rfl _) (lB rfl)]
 have k0:= @TM.eq_1;have k1:= @Ma.eq_1;have f0:= @Dc.eq_1;have g0:=bH;have g1:=Fs;have g2:=PT;have g3:=ie;have g4:=lR;have g5:=bI;have g6:=om;have g7:=ig;have t0:=fS
 exact gs
theorem ot : (∀ (l:List A0) (deep:Int),Ok (Bi l deep) M8 (dn AL Lx [.t (.sl false (l.map (A0.row false))), .t (.v (.int .i64 deep))]))∧
  (∀(l:List A0) (deep:Int) (i:Int),Ok (Bd l deep i) M8 (ev AL VD (.loop LH) [.lv 0, .th LI] (BO (List.replicate 53 .dead) [(0, .t (.sl false (l.map (A0.row false)))),(1, .t (.v (.int .i64 deep))),(5, .t (.v (.int .i64 i)))]) (BP (List.replicate 53 []) [])))∧
  (∀(l:List A0) (deep:Int) (i:Int) (x2:A0),Ok (DO l deep i x2) M8 (ev AL VD Od [.lv 1, .th Oe, .hk [.clean [6]], .th (.loop LH), .lv 0, .th LI] (BO (List.replicate 53 .dead) [(0, .t (.sl false (l.map (A0.row false)))),(1, .t (.v (.int .i64 deep))),(5, .t (.v (.int .i64 i))),(6, .ptr (6,0) [] 0 0 1 0)]) (BP (List.replicate 53 []) [(6,[.mem [[.v (.int .i64 x2.Kind), .v (.string x2.Pre), .v (.string x2.Local), .v (.string x2.Uri), .sl false (x2.Decls.map A2.row), .sl false (x2.Attrs.map A5.row), .sl false (x2.Kids.map (A0.row false)), .v (.string x2.Text)]] 0 false])]))):=by
 unfold Ok
 refine Bi.mutual_partial_correctness _ _ _ ?_ ?_ ?_
 ·intro F1 ih1 l deep
  show Ok _ _ _
  have ih1:∀(l:List A0) (deep:Int) (i:Int),Ok (F1 l deep i) _ _:=ih1
  rw[AB AL (fn:=Qq) rfl (xN rfl rfl _) (lB rfl)]
  have k0:= @Qq.eq_1;have t0:=ih1
  exact gs
 ·intro F2 ih2 l deep i
  show Ok _ _ _
  have ih2:∀(l:List A0) (deep:Int) (i:Int) (x2:A0),Ok (F2 l deep i x2) _ _:=ih2
  rw[AZ]
  have k0:= @LH.eq_1;have k1:= @LI.eq_1;have g0:=oq;have t0:=ih2
  exact gs
 ·intro F0 F1 ih0 ih1 l deep i x2
  show Ok _ _ _
  have ih0:∀(l:List A0) (deep:Int),Ok (F0 l deep) _ _:=ih0
  have ih1:∀(l:List A0) (deep:Int) (i:Int),Ok (F1 l deep i) _ _:=ih1
  have k0:= @Od.eq_1;have k1:= @Oe.eq_1;have g0:=ih0;have t0:=ih1
  exact gs
theorem Yo (l:List A0) (deep:Int):Ok (Bi l deep) M8 (dn AL Lx [.t (.sl false (l.map (A0.row false))), .t (.v (.int .i64 deep))]):=ot.1 l deep
theorem dv (n:A0):(∀(k2:Int) (i:Int),Ok (DP k2 i n) R7 (ev AL VE ON [.lv 1, .th OO, .hk [.clean []], .th (.loop K9), .lv 0, .th KA] (BO (List.replicate 76 .dead) [(1, .ptr (1,0) [] 0 0 1 0),(3, .t (.v (.int .i64 k2))),(4, .t (.v (.int .i64 i)))]) (BP (List.replicate 76 []) [(1,[.mem [[.v (.int .i64 n.Kind), .v (.string n.Pre), .v (.string n.Local), .v (.string n.Uri), .sl false (n.Decls.map A2.row), .sl false (n.Attrs.map A5.row), .sl false (n.Kids.map (A0.row false)), .v (.string n.Text)]] 0 false])])))∧
  (∀(k1:Int) (i:Int),Ok (BN k1 i n) R7 (ev AL VE (.loop K9) [.lv 0, .th KA] (BO (List.replicate 76 .dead) [(1, .ptr (1,0) [] 0 0 1 0),(3, .t (.v (.int .i64 k1))),(4, .t (.v (.int .i64 i)))]) (BP (List.replicate 76 []) [(1,[.mem [[.v (.int .i64 n.Kind), .v (.string n.Pre), .v (.string n.Local), .v (.string n.Uri), .sl false (n.Decls.map A2.row), .sl false (n.Attrs.map A5.row), .sl false (n.Kids.map (A0.row false)), .v (.string n.Text)]] 0 false])]))):=by
 unfold Ok
 refine DP.mutual_partial_correctness n _ _ ?_ ?_
 ·intro F1 ih1 k2 i
  show Ok _ _ _
  have ih1:∀(k1:Int) (i:Int),Ok (F1 k1 i) _ _:=ih1
  have k0:= @ON.eq_1;have k1:= @OO.eq_1;have t0:=ih1
  exact gs
 ·intro F0 ih0 k1 i
  show Ok _ _ _
  have ih0:∀(k2:Int) (i:Int),Ok (F0 k2 i) _ _:=ih0
  rw[AZ]
  have k0:= @K9.eq_1;have k1:= @KA.eq_1;have g0:=Yo;have t0:=ih0
  exact gs
theorem lS : ∀ (n:A0),Ok (FU n) R7 (dn AL aP [.agg (((A0.row false) n).map .t)]):=by
 intro n
 rw[AB AL (fn:=Qi) rfl (xN rfl rfl _) (lB rfl)]
 have k0:= @Qi.eq_1;have f0:= @FU.eq_1;have g0:=iZ;have g1:=Yo;have t0:=fun a0=>(dv a0).2
 exact gs
theorem oy : (∀ (n:A0) (l:List A2),Ok (CN n l) Jr (dn AL QO [.agg (((A0.row false) n).map .t), .t (.sl false (l.map A2.row))]))∧
  (∀(r:List A2) (n:A0),Ok (Ch r n) Jr (ev AL R8 Q2 [] (BO (List.replicate 88 .dead) [(2, .ptr (2,0) [] 0 0 1 0),(5, .ref (15,0) r.length)]) (BP (List.replicate 88 []) [(2,[.mem [[.v (.int .i64 n.Kind), .v (.string n.Pre), .v (.string n.Local), .v (.string n.Uri), .sl false (n.Decls.map A2.row), .sl false (n.Attrs.map A5.row), .sl false (n.Kids.map (A0.row false)), .v (.string n.Text)]] 0 false]),(15,[.mem (r.map A2.row) 0 false])])))∧
  (∀(r:List A2) (i1:Int) (n:A0),Ok (Bj r i1 n) Jr (ev AL R8 (.loop OP) [.lv 0, .th OS] (BO (List.replicate 88 .dead) [(2, .ptr (2,0) [] 0 0 1 0),(5, .ref (15,0) r.length),(8, .t (.v (.int .i64 i1)))]) (BP (List.replicate 88 []) [(2,[.mem [[.v (.int .i64 n.Kind), .v (.string n.Pre), .v (.string n.Local), .v (.string n.Uri), .sl false (n.Decls.map A2.row), .sl false (n.Attrs.map A5.row), .sl false (n.Kids.map (A0.row false)), .v (.string n.Text)]] 0 false]),(15,[.mem (r.map A2.row) 0 false])])))∧
  (∀(r:List A2) (i2:Int) (n:A0),Ok (Ay r i2 n) Jr (ev AL R8 (.loop OQ) [.lv 2, .th OR] (BO (List.replicate 88 .dead) [(2, .ptr (2,0) [] 0 0 1 0),(5, .ref (15,0) r.length),(11, .t (.v (.int .i64 i2)))]) (BP (List.replicate 88 []) [(2,[.mem [[.v (.int .i64 n.Kind), .v (.string n.Pre), .v (.string n.Local), .v (.string n.Uri), .sl false (n.Decls.map A2.row), .sl false (n.Attrs.map A5.row), .sl false (n.Kids.map (A0.row false)), .v (.string n.Text)]] 0 false]),(15,[.mem (r.map A2.row) 0 false])]))):=by
 unfold Ok
 refine CN.mutual_partial_correctness _ _ _ _ ?_ ?_ ?_ ?_
 ·intro F1 ih1 n l
  show Ok _ _ _
  have ih1:∀(r:List A2) (n:A0),Ok (F1 r n) _ _:=ih1
  rw[AB AL (fn:=Qj) rfl (xN rfl rfl _) (lB rfl)]
  have k0:= @Qj.eq_1;have g0:=bF;have g1:=Mj;have t0:=ih1
  exact gs
 ·intro F2 ih2 r n
  show Ok _ _ _
  have ih2:∀(r:List A2) (i1:Int) (n:A0),Ok (F2 r i1 n) _ _:=ih2
  have k0:= @Q2.eq_1;have t0:=ih2
  exact gs
 ·intro F2 F3 ih2 ih3 r i1 n
  show Ok _ _ _
  have ih2:∀(r:List A2) (i1:Int) (n:A0),Ok (F2 r i1 n) _ _:=ih2
  have ih3:∀(r:List A2) (i2:Int) (n:A0),Ok (F3 r i2 n) _ _:=ih3
  rw[AZ]
  have k0:= @OP.eq_1;have k1:= @OS.eq_1;have g0:=Mj;have t0:=ih2;have t1:=ih3
  exact gs
 ·intro F0 F3 ih0 ih3 r i2 n
  show Ok _ _ _
  have ih0:∀(n:A0) (l:List A2),Ok (F0 n l) _ _:=ih0
  have ih3:∀(r:List A2) (i2:Int) (n:A0),Ok (F3 r i2 n) _ _:=ih3
  rw[AZ]
  have k0:= @OQ.eq_1;have k1:= @OR.eq_1;have g0:=ih0;have t0:=ih3
  exact gs
theorem lU (n:A0) (l:List A2):Ok (CN n l) Jr (dn AL QO [.agg (((A0.row false) n).map .t), .t (.sl false (l.map A2.row))]):=oy.1 n l
theorem lV : ∀ (n:A0),Ok (FV n) aj (dn AL aQ [.agg (((A0.row false) n).map .t)]):=by
 intro n
 rw[AB AL (fn:=QZ) rfl (xN rfl rfl _) (lB rfl)]
 have k0:= @QZ.eq_1;have f0:= @FV.eq_1;have g0:=lS;have g1:=lU
 exact gs
theorem bl : ∀ (r3:Bool×A7) (nKids1:List (A0)),Ok (HA r3 nKids1) R9 (ev AL VF OA [] (BO (List.replicate 42 .dead) [(2, .ptr (2,0) [] 0 0 1 0),(4, .ptr (4,0) [] 0 0 1 0)]) (BP (List.replicate 42 []) [(0,[.mem [[.sl false (r3.2.xb.map (rK .u8)), .v (.int .i64 r3.2.xi), .v (.int .i64 r3.2.xh)]] 0 true]),(2,[.mem [[.v (.int .i64 0), .v (.string (⟨#[]⟩)), .v (.string (⟨#[]⟩)), .v (.string (⟨#[]⟩)), .sl true [], .sl true [], .sl true [], .v (.string (⟨#[]⟩))]] 0 false]),(4,[.mem [[.v (.int .i64 0), .v (.string (⟨#[]⟩)), .v (.string (⟨#[]⟩)), .v (.string (⟨#[]⟩)), .sl true [], .sl true [], .sl true (nKids1.map (A0.row true)), .v (.string (⟨#[]⟩))]] 0 false])])):=by
 intro r3 nKids1
 have k0:= @OA.eq_1;have f0:= @HA.eq_1;have g0:=lV
 exact gs
theorem dw : ∀ (r1:Bool×A7) (r:Int×A7) (nKids:List (A0)),Ok (Ik r1 r nKids) R9 (ev AL VF Pu [] (BO (List.replicate 42 .dead) [(0, .ptr (0,0) [] 0 0 1 0),(2, .ptr (2,0) [] 0 0 1 0),(3, .ptr (3,0) [] 0 0 1 0),(4, .ptr (4,0) [] 0 0 1 0)]) (BP (List.replicate 42 []) [(0,[.mem [[.sl false (r1.2.xb.map (rK .u8)), .v (.int .i64 r1.2.xi), .v (.int .i64 r1.2.xh)]] 0 true]),(2,[.mem [[.v (.int .i64 0), .v (.string (⟨#[]⟩)), .v (.string (⟨#[]⟩)), .v (.string (⟨#[]⟩)), .sl true [], .sl true [], .sl true [], .v (.string (⟨#[]⟩))]] 0 false]),(3,[.mem [[.v (.int .i64 (Af 3 r.1))]] 0 false]),(4,[.mem [[.v (.int .i64 0), .v (.string (⟨#[]⟩)), .v (.string (⟨#[]⟩)), .v (.string (⟨#[]⟩)), .sl true [], .sl true [], .sl true (nKids.map (A0.row true)), .v (.string (⟨#[]⟩))]] 0 false])])):=by
 intro r1 r nKids
 have k0:= @Pu.eq_1;have f0:= @Ik.eq_1;have g0:=tb;have g1:=Gr;have t0:=bl
 exact gs
theorem Yp : ∀ (c:A7),Ok (J4 c) R9 (dn AL V7 [.lp [.sl false (c.xb.map (rK .u8)), .v (.int .i64 c.xi), .v (.int .i64 c.xh)] 0]):=by
 intro c
 rw[AB AL (fn:=QU) rfl (xN rfl rfl _) (lB rfl)]
 have k0:= @QU.eq_1;have f0:= @J4.eq_1;have g0:=DQ;have g1:=Gr;have t0:=dw
 exact gs
theorem oz : ∀ (c:A7) (list:List Int),Ok (U6 c list) dX (dn AL dH [.lp [.sl false (c.xb.map (rK .u8)), .v (.int .i64 c.xi), .v (.int .i64 c.xh)] 0, .t (.sl false (list.map rI))]):=by
 intro c list
 rw[AB AL (fn:=TA) rfl (xN rfl rfl _) (lB rfl)]
 have k0:= @TA.eq_1;have f0:= @U6.eq_1;have g0:=DQ
 exact gs
theorem bm : ∀ (p:List (Int)) (c2:A7),Ok (HC p c2) PL (ev AL UC K7 [] (BO (List.replicate 42 .dead) [(0, .ptr (0,0) [] 0 0 1 0),(5, .ref (8,0) p.length)]) (BP (List.replicate 42 []) [(0,[.mem [[.sl false (c2.xb.map (rK .u8)), .v (.int .i64 c2.xi), .v (.int .i64 c2.xh)]] 0 true]),(8,[.mem (p.map rI) 0 false])])):=by
 intro p c2
 have k0:= @K7.eq_1;have f0:= @HC.eq_1;have g0:=Gr;have g1:=oz
 exact gs
theorem bn : ∀ (p:List (Int)) (c1:A7) (x1:A0),Ok (HD p c1 x1) PL (ev AL UC (.loop OB) [.lv 0, .hk [.kill [6,18], .clean [6]], .th K7] (BO (List.replicate 42 .dead) [(0, .ptr (0,0) [] 0 0 1 0),(5, .ref (8,0) p.length),(6, .ptr (6,0) [] 0 0 1 0)]) (BP (List.replicate 42 []) [(0,[.mem [[.sl false (c1.xb.map (rK .u8)), .v (.int .i64 c1.xi), .v (.int .i64 c1.xh)]] 0 true]),(6,[.mem [[.v (.int .i64 x1.Kind), .v (.string x1.Pre), .v (.string x1.Local), .v (.string x1.Uri), .sl false (x1.Decls.map A2.row), .sl false (x1.Attrs.map A5.row), .sl false (x1.Kids.map (A0.row false)), .v (.string x1.Text)]] 0 false]),(8,[.mem (p.map rI) 0 false])])):=by
 unfold Ok
 refine HD.partial_correctness _ ?_
 intro F ih p c1 x1
 show Ok _ _ _
 have ih:∀(p:List (Int)) (c1:A7) (x1:A0),Ok (F p c1 x1) _ _:=ih
 rw[AZ]
 have k0:= @OB.eq_1;have g0:=Gr;have g1:=DQ;have t0:=bm;have t1:=ih
 exact gs
theorem XU : ∀ (c:A7) (n:A0),Ok (LL c n) PL (dn AL Ty [.lp [.sl false (c.xb.map (rK .u8)), .v (.int .i64 c.xi), .v (.int .i64 c.xh)] 0, .agg (((A0.row false) n).map .t)]):=by
 intro c n
 rw[AB AL (fn:=OC) rfl (xN rfl rfl _) (lB rfl)]
 have k0:= @OC.eq_1;have f0:= @LL.eq_1;have t0:=bn
 exact gs
theorem bo : ∀ (code:List Int),Ok (Jh code) Un (dn AL Uf [.t (.sl false (code.map (rK .u8)))]):=by
 intro code
 rw[AB AL (fn:=K6) rfl (xN rfl rfl _) (lB rfl)]
 have k0:= @K6.eq_1;have f0:= @Jh.eq_1;have g0:=bE;have g1:=Yp;have g2:=XU
 exact gs
theorem QG : ∀ (n:Int) (lo:Int) (hi:Int),Ok (HW n lo hi) qV (dn AL Pq [.t (.v (.int .i64 n)), .t (.v (.int .i64 lo)), .t (.v (.int .i64 hi))]):=by
 intro n lo hi
 rw[AB AL (fn:=ZV) rfl (xN rfl rfl _) (lB rfl)]
 have k0:= @ZV.eq_1;have f0:= @HW.eq_1
 exact gs
theorem Yq : ∀ (s:List (A2)),Ok (HX s) Se (dn AL II [.t (.sl false (s.map A2.row))]):=by
 intro s
 cases s with
 |nil=>
  intro r hr
  unfold HX at hr
  obtain⟨_,_,h⟩:=Option.bind_eq_some_iff.1 hr
  cases h
  exact L5 AL.ft (xOf AL) (rY rfl)
 |cons x s=>
  simp only[List.map_cons]
  rw[AB AL (fn:=EW) rfl (kW rfl _ _) (Nat.le_of_ble_eq_true rfl)]
  simp only[U2,RS,Sg,EW,HX,reduceAdd,reduceSub,reduceMul,reduceLeDiff,reduceLT,reduceEqDiff,Nat.reduceBEq,↓reduceIte,reduceCtorEq]
  refine FF fun a h=> ?_
  simp only[U2,RS, *,reduceAdd,reduceSub,reduceMul,reduceLeDiff,reduceLT,reduceEqDiff,Nat.reduceBEq,↓reduceIte,reduceCtorEq]
  exact rZ rfl
theorem Yr : ∀ (s:List (A5)),Ok (HY s) Sh (dn AL IH [.t (.sl false (s.map A5.row))]):=by
 intro s
 cases s with
 |nil=>
  intro r hr
  unfold HY at hr
  obtain⟨_,_,h⟩:=Option.bind_eq_some_iff.1 hr
  cases h
  exact L5 AL.ft (xOf AL) (rY rfl)
 |cons x s=>
  simp only[List.map_cons]
  rw[AB AL (fn:=EX) rfl (kW rfl _ _) (Nat.le_of_ble_eq_true rfl)]
  simp only[U2,RS,Si,EX,HY,reduceAdd,reduceSub,reduceMul,reduceLeDiff,reduceLT,reduceEqDiff,Nat.reduceBEq,↓reduceIte,reduceCtorEq]
  refine FF fun a h=> ?_
  simp only[U2,RS, *,reduceAdd,reduceSub,reduceMul,reduceLeDiff,reduceLT,reduceEqDiff,Nat.reduceBEq,↓reduceIte,reduceCtorEq]
  exact rZ rfl
end TT
