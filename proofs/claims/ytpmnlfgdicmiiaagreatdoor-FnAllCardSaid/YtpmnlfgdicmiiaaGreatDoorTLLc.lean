import Derived.Test.YtpmnlfgdicmiiaaGreatDoorTLLb
set_option maxHeartbeats 2000000
set_option linter.unusedVariables false
set_option linter.unusedSimpArgs false
set_option linter.defProp false
set_option maxRecDepth 100000
namespace TT
open Go
open Nat (reduceAdd reduceSub reduceMul reduceLeDiff reduceLT reduceEqDiff)
theorem gv : ∀ (s:ByteArray),Ok (Ka s) YS (dn AF YH [.t (.v (.string s))]):=by
 intro s
 rw[A7 AF (fn:=QA) rfl (xN rfl rfl _) (lB rfl)]
 have k0:= @QA.eq_1;have f0:= @Ka.eq_1
 exact gs
theorem bB : ∀ (n:Int),Ok (Fz n) Us (dn AF Uh [.t (.v (.int .i64 n))]):=by
 intro n
 rw[A7 AF (fn:=MJ) rfl (xN rfl rfl _) (lB rfl)]
 have k0:= @MJ.eq_1;have f0:= @Fz.eq_1
 exact gs
theorem Vv : ∀ (a:A3),Ok (Dz a) PN (ev AF Tp KW [] (BE (List.replicate 46 .dead) [(1, .ptr (1,0) [] 0 0 1 0)]) (BF (List.replicate 46 []) [(1,[.mem [[.v (.string a.Pre), .v (.string a.Local), .v (.string a.Uri), .v (.string a.Val)]] 0 false])])):=by
 intro a
 have k0:= @KW.eq_1;have f0:= @Dz.eq_1;have g0:=Qz
 exact gs
theorem ZQ : ∀ (a:A3),Ok (Eu a) PN (dn AF Tn [.agg ((A3.row a).map .t)]):=by
 intro a
 rw[A7 AF (fn:=KE) rfl (xN rfl rfl _) (lB rfl)]
 have k0:= @KE.eq_1;have f0:= @Eu.eq_1;have g0:=X1;have g1:=KM;have t0:=Vv
 exact gs
theorem Yh (n:A0):∀(i:Int),Ok (BH i n) QG (ev AF TP (.loop NB) [.lv 1, .th NC, .lv 0, .th KC] (BE (List.replicate 195 .dead) [(1, .ptr (1,0) [] 0 0 1 0),(3, .t (.v (.int .i64 i)))]) (BF (List.replicate 195 []) [(1,[.mem [[.v (.int .i64 n.Kind), .v (.string n.Pre), .v (.string n.Local), .v (.string n.Uri), .sl false (n.Decls.map A1.row), .sl false (n.Attrs.map A3.row), .sl false (n.Kids.map (A0.row false)), .v (.string n.Text)]] 0 false])])):=by
 unfold Ok
 refine BH.partial_correctness n _ ?_
 intro F ih i
 show Ok _ _ _
 have ih:∀(i:Int),Ok (F i) _ _:=ih
 rw[AU]
 have k0:= @NB.eq_1;have k1:= @NC.eq_1;have g0:=ZQ;have g1:=V6;have t0:=ih
 exact gs
theorem ZR : ∀ (n:A0),Ok (DJ n) QG (ev AF TP PI [.lv 0, .th KC] (BE (List.replicate 195 .dead) [(1, .ptr (1,0) [] 0 0 1 0)]) (BF (List.replicate 195 []) [(1,[.mem [[.v (.int .i64 n.Kind), .v (.string n.Pre), .v (.string n.Local), .v (.string n.Uri), .sl false (n.Decls.map A1.row), .sl false (n.Attrs.map A3.row), .sl false (n.Kids.map (A0.row false)), .v (.string n.Text)]] 0 false])])):=by
 intro n
 have k0:= @PI.eq_1;have f0:= @DJ.eq_1;have t0:=Yh
 exact gs
theorem gw : ∀ (n:A0),Ok (Ce n) QG (dn AF YF [.agg (((A0.row false) n).map .t)]):=by
 intro n
 rw[A7 AF (fn:=Q6) rfl (xN rfl rfl _) (lB rfl)]
 have k0:= @Q6.eq_1;have k1:= @KC.eq_1;have f0:= @Ce.eq_1;have g0:=X1;have g1:=KM;have g2:=Qz;have g3:=bA;have g4:=db;have g5:=gu;have g6:=gv;have g7:=bB;have t0:=ZR
 exact gs
theorem gy : (∀ (l:List A0) (deep:Int),Ok (Az l deep) Jl (dn AF Jc [.t (.sl false (l.map (A0.row false))), .t (.v (.int .i64 deep))]))∧
  (∀(l:List A0) (deep:Int) (i:Int),Ok (Ax l deep i) Jl (ev AF Rn (.loop J5) [.lv 0, .th J6] (BE (List.replicate 53 .dead) [(0, .t (.sl false (l.map (A0.row false)))),(1, .t (.v (.int .i64 deep))),(5, .t (.v (.int .i64 i)))]) (BF (List.replicate 53 []) [])))∧
  (∀(l:List A0) (deep:Int) (i:Int) (x2:A0),Ok (CS l deep i x2) Jl (ev AF Rn M0 [.lv 1, .th M1, .hk [.clean [6]], .th (.loop J5), .lv 0, .th J6] (BE (List.replicate 53 .dead) [(0, .t (.sl false (l.map (A0.row false)))),(1, .t (.v (.int .i64 deep))),(5, .t (.v (.int .i64 i))),(6, .ptr (6,0) [] 0 0 1 0)]) (BF (List.replicate 53 []) [(6,[.mem [[.v (.int .i64 x2.Kind), .v (.string x2.Pre), .v (.string x2.Local), .v (.string x2.Uri), .sl false (x2.Decls.map A1.row), .sl false (x2.Attrs.map A3.row), .sl false (x2.Kids.map (A0.row false)), .v (.string x2.Text)]] 0 false])]))):=by
 unfold Ok
 refine Az.mutual_partial_correctness _ _ _ ?_ ?_ ?_
 ·intro F1 ih1 l deep
  show Ok _ _ _
  have ih1:∀(l:List A0) (deep:Int) (i:Int),Ok (F1 l deep i) _ _:=ih1
  rw[A7 AF (fn:=Nq) rfl (xN rfl rfl _) (lB rfl)]
  have k0:= @Nq.eq_1;have t0:=ih1
  exact gs
 ·intro F2 ih2 l deep i
  show Ok _ _ _
  have ih2:∀(l:List A0) (deep:Int) (i:Int) (x2:A0),Ok (F2 l deep i x2) _ _:=ih2
  rw[AU]
  have k0:= @J5.eq_1;have k1:= @J6.eq_1;have g0:=gw;have t0:=ih2
  exact gs
 ·intro F0 F1 ih0 ih1 l deep i x2
  show Ok _ _ _
  have ih0:∀(l:List A0) (deep:Int),Ok (F0 l deep) _ _:=ih0
  have ih1:∀(l:List A0) (deep:Int) (i:Int),Ok (F1 l deep i) _ _:=ih1
  have k0:= @M0.eq_1;have k1:= @M1.eq_1;have g0:=ih0;have t0:=ih1
  exact gs
theorem V9 (l:List A0) (deep:Int):Ok (Az l deep) Jl (dn AF Jc [.t (.sl false (l.map (A0.row false))), .t (.v (.int .i64 deep))]):=gy.1 l deep
theorem Yi (n:A0):(∀(k2:Int) (i:Int),Ok (CT k2 i n) OB (ev AF Ro Ll [.lv 1, .th Lm, .hk [.clean []], .th (.loop IH), .lv 0, .th II] (BE (List.replicate 76 .dead) [(1, .ptr (1,0) [] 0 0 1 0),(3, .t (.v (.int .i64 k2))),(4, .t (.v (.int .i64 i)))]) (BF (List.replicate 76 []) [(1,[.mem [[.v (.int .i64 n.Kind), .v (.string n.Pre), .v (.string n.Local), .v (.string n.Uri), .sl false (n.Decls.map A1.row), .sl false (n.Attrs.map A3.row), .sl false (n.Kids.map (A0.row false)), .v (.string n.Text)]] 0 false])])))∧
  (∀(k1:Int) (i:Int),Ok (Al k1 i n) OB (ev AF Ro (.loop IH) [.lv 0, .th II] (BE (List.replicate 76 .dead) [(1, .ptr (1,0) [] 0 0 1 0),(3, .t (.v (.int .i64 k1))),(4, .t (.v (.int .i64 i)))]) (BF (List.replicate 76 []) [(1,[.mem [[.v (.int .i64 n.Kind), .v (.string n.Pre), .v (.string n.Local), .v (.string n.Uri), .sl false (n.Decls.map A1.row), .sl false (n.Attrs.map A3.row), .sl false (n.Kids.map (A0.row false)), .v (.string n.Text)]] 0 false])]))):=by
 unfold Ok
 refine CT.mutual_partial_correctness n _ _ ?_ ?_
 ·intro F1 ih1 k2 i
  show Ok _ _ _
  have ih1:∀(k1:Int) (i:Int),Ok (F1 k1 i) _ _:=ih1
  have k0:= @Ll.eq_1;have k1:= @Lm.eq_1;have t0:=ih1
  exact gs
 ·intro F0 ih0 k1 i
  show Ok _ _ _
  have ih0:∀(k2:Int) (i:Int),Ok (F0 k2 i) _ _:=ih0
  rw[AU]
  have k0:= @IH.eq_1;have k1:= @II.eq_1;have g0:=V9;have t0:=ih0
  exact gs
theorem dc : ∀ (n:A0),Ok (EI n) OB (dn AF WS [.agg (((A0.row false) n).map .t)]):=by
 intro n
 rw[A7 AF (fn:=Nh) rfl (xN rfl rfl _) (lB rfl)]
 have k0:= @Nh.eq_1;have f0:= @EI.eq_1;have g0:=b8;have g1:=V9;have t0:=fun a0=>(Yi a0).2
 exact gs
theorem gz : (∀ (n:A0) (l:List A1),Ok (Bb n l) I2 (dn AF NS [.agg (((A0.row false) n).map .t), .t (.sl false (l.map A1.row))]))∧
  (∀(r:List A1) (n:A0),Ok (Bx r n) I2 (ev AF OC N7 [] (BE (List.replicate 88 .dead) [(2, .ptr (2,0) [] 0 0 1 0),(5, .ref (15,0) r.length)]) (BF (List.replicate 88 []) [(2,[.mem [[.v (.int .i64 n.Kind), .v (.string n.Pre), .v (.string n.Local), .v (.string n.Uri), .sl false (n.Decls.map A1.row), .sl false (n.Attrs.map A3.row), .sl false (n.Kids.map (A0.row false)), .v (.string n.Text)]] 0 false]),(15,[.mem (r.map A1.row) 0 false])])))∧
  (∀(r:List A1) (i1:Int) (n:A0),Ok (B5 r i1 n) I2 (ev AF OC (.loop Ln) [.lv 0, .th Lq] (BE (List.replicate 88 .dead) [(2, .ptr (2,0) [] 0 0 1 0),(5, .ref (15,0) r.length),(8, .t (.v (.int .i64 i1)))]) (BF (List.replicate 88 []) [(2,[.mem [[.v (.int .i64 n.Kind), .v (.string n.Pre), .v (.string n.Local), .v (.string n.Uri), .sl false (n.Decls.map A1.row), .sl false (n.Attrs.map A3.row), .sl false (n.Kids.map (A0.row false)), .v (.string n.Text)]] 0 false]),(15,[.mem (r.map A1.row) 0 false])])))∧
  (∀(r:List A1) (i2:Int) (n:A0),Ok (AY r i2 n) I2 (ev AF OC (.loop Lo) [.lv 2, .th Lp] (BE (List.replicate 88 .dead) [(2, .ptr (2,0) [] 0 0 1 0),(5, .ref (15,0) r.length),(11, .t (.v (.int .i64 i2)))]) (BF (List.replicate 88 []) [(2,[.mem [[.v (.int .i64 n.Kind), .v (.string n.Pre), .v (.string n.Local), .v (.string n.Uri), .sl false (n.Decls.map A1.row), .sl false (n.Attrs.map A3.row), .sl false (n.Kids.map (A0.row false)), .v (.string n.Text)]] 0 false]),(15,[.mem (r.map A1.row) 0 false])]))):=by
 unfold Ok
 refine Bb.mutual_partial_correctness _ _ _ _ ?_ ?_ ?_ ?_
 ·intro F1 ih1 n l
  show Ok _ _ _
  have ih1:∀(r:List A1) (n:A0),Ok (F1 r n) _ _:=ih1
  rw[A7 AF (fn:=Ni) rfl (xN rfl rfl _) (lB rfl)]
  have k0:= @Ni.eq_1;have g0:=Wz;have g1:=KL;have t0:=ih1
  exact gs
 ·intro F2 ih2 r n
  show Ok _ _ _
  have ih2:∀(r:List A1) (i1:Int) (n:A0),Ok (F2 r i1 n) _ _:=ih2
  have k0:= @N7.eq_1;have t0:=ih2
  exact gs
 ·intro F2 F3 ih2 ih3 r i1 n
  show Ok _ _ _
  have ih2:∀(r:List A1) (i1:Int) (n:A0),Ok (F2 r i1 n) _ _:=ih2
  have ih3:∀(r:List A1) (i2:Int) (n:A0),Ok (F3 r i2 n) _ _:=ih3
  rw[AU]
  have k0:= @Ln.eq_1;have k1:= @Lq.eq_1;have g0:=KL;have t0:=ih2;have t1:=ih3
  exact gs
 ·intro F0 F3 ih0 ih3 r i2 n
  show Ok _ _ _
  have ih0:∀(n:A0) (l:List A1),Ok (F0 n l) _ _:=ih0
  have ih3:∀(r:List A1) (i2:Int) (n:A0),Ok (F3 r i2 n) _ _:=ih3
  rw[AU]
  have k0:= @Lo.eq_1;have k1:= @Lp.eq_1;have g0:=ih0;have t0:=ih3
  exact gs
theorem de (n:A0) (l:List A1):Ok (Bb n l) I2 (dn AF NS [.agg (((A0.row false) n).map .t), .t (.sl false (l.map A1.row))]):=gz.1 n l
theorem dg : ∀ (n:A0),Ok (Ev n) Wh (dn AF WT [.agg (((A0.row false) n).map .t)]):=by
 intro n
 rw[A7 AF (fn:=NZ) rfl (xN rfl rfl _) (lB rfl)]
 have k0:= @NZ.eq_1;have f0:= @Ev.eq_1;have g0:=dc;have g1:=de
 exact gs
theorem XN : ∀ (r3:Bool×A5) (nKids1:List (A0)),Ok (Fk r3 nKids1) OD (ev AF Rp Lb [] (BE (List.replicate 42 .dead) [(2, .ptr (2,0) [] 0 0 1 0),(4, .ptr (4,0) [] 0 0 1 0)]) (BF (List.replicate 42 []) [(0,[.mem [[.sl false (r3.2.xb.map (rK .u8)), .v (.int .i64 r3.2.xi), .v (.int .i64 r3.2.xh)]] 0 true]),(2,[.mem [[.v (.int .i64 0), .v (.string (⟨#[]⟩)), .v (.string (⟨#[]⟩)), .v (.string (⟨#[]⟩)), .sl true [], .sl true [], .sl true [], .v (.string (⟨#[]⟩))]] 0 false]),(4,[.mem [[.v (.int .i64 0), .v (.string (⟨#[]⟩)), .v (.string (⟨#[]⟩)), .v (.string (⟨#[]⟩)), .sl true [], .sl true [], .sl true (nKids1.map (A0.row true)), .v (.string (⟨#[]⟩))]] 0 false])])):=by
 intro r3 nKids1
 have k0:= @Lb.eq_1;have f0:= @Fk.eq_1;have g0:=dg
 exact gs
theorem Yj : ∀ (r1:Bool×A5) (r:Int×A5) (nKids:List (A0)),Ok (H1 r1 r nKids) OD (ev AF Rp N1 [] (BE (List.replicate 42 .dead) [(0, .ptr (0,0) [] 0 0 1 0),(2, .ptr (2,0) [] 0 0 1 0),(3, .ptr (3,0) [] 0 0 1 0),(4, .ptr (4,0) [] 0 0 1 0)]) (BF (List.replicate 42 []) [(0,[.mem [[.sl false (r1.2.xb.map (rK .u8)), .v (.int .i64 r1.2.xi), .v (.int .i64 r1.2.xh)]] 0 true]),(2,[.mem [[.v (.int .i64 0), .v (.string (⟨#[]⟩)), .v (.string (⟨#[]⟩)), .v (.string (⟨#[]⟩)), .sl true [], .sl true [], .sl true [], .v (.string (⟨#[]⟩))]] 0 false]),(3,[.mem [[.v (.int .i64 (AV 3 r.1))]] 0 false]),(4,[.mem [[.v (.int .i64 0), .v (.string (⟨#[]⟩)), .v (.string (⟨#[]⟩)), .v (.string (⟨#[]⟩)), .sl true [], .sl true [], .sl true (nKids.map (A0.row true)), .v (.string (⟨#[]⟩))]] 0 false])])):=by
 intro r1 r nKids
 have k0:= @N1.eq_1;have f0:= @H1.eq_1;have g0:=mD;have g1:=Iu;have t0:=XN
 exact gs
theorem dh : ∀ (c:A5),Ok (OW c) OD (dn AF WW [.lp [.sl false (c.xb.map (rK .u8)), .v (.int .i64 c.xi), .v (.int .i64 c.xh)] 0]):=by
 intro c
 rw[A7 AF (fn:=NW) rfl (xN rfl rfl _) (lB rfl)]
 have k0:= @NW.eq_1;have f0:= @OW.eq_1;have g0:=Eb;have g1:=Iu;have t0:=Yj
 exact gs
theorem ZS : ∀ (code:List Int),Ok (Jh code) Tq (dn AF Tm [.t (.sl false (code.map (rK .u8)))]):=by
 intro code
 rw[A7 AF (fn:=Jy) rfl (xN rfl rfl _) (lB rfl)]
 have k0:= @Jy.eq_1;have f0:= @Jh.eq_1;have g0:=gm;have g1:=dh
 exact gs
theorem di : (∀ (n:A0),Ok (E9 n) Mb (dn AF LU [.agg (((A0.row false) n).map .t)]))∧
  (∀(out:Int) (n:A0) (x1:Int),Ok (Fl out n x1) Mb (ev AF Ut (.loop Lr) [.lv 0, .th Ls] (BE (List.replicate 23 .dead) [(3, .t (.v (.int .i64 out))),(11, .t (.sl false (n.Kids.map (A0.row false)))),(12, .t (.v (.int .i64 (AD n.Kids)))),(13, .t (.v (.int .i64 x1)))]) (BF (List.replicate 23 []) []))):=by
 unfold Ok
 refine E9.mutual_partial_correctness _ _ ?_ ?_
 ·intro F1 ih1 n
  show Ok _ _ _
  have ih1:∀(out:Int) (n:A0) (x1:Int),Ok (F1 out n x1) _ _:=ih1
  rw[A7 AF (fn:=Lt) rfl (xN rfl rfl _) (lB rfl)]
  have k0:= @Lt.eq_1;have t0:=ih1
  exact gs
 ·intro F0 F1 ih0 ih1 out n x1
  show Ok _ _ _
  have ih0:∀(n:A0),Ok (F0 n) _ _:=ih0
  have ih1:∀(out:Int) (n:A0) (x1:Int),Ok (F1 out n x1) _ _:=ih1
  rw[AU]
  have k0:= @Lr.eq_1;have k1:= @Ls.eq_1;have g0:=ih0;have t0:=ih1
  exact gs
theorem bC (n:A0):Ok (E9 n) Mb (dn AF LU [.agg (((A0.row false) n).map .t)]):=di.1 n
theorem R0 : ∀ (n:Int) (lo:Int) (hi:Int),Ok (J9 n lo hi) jT (dn AF QO [.t (.v (.int .i64 n)), .t (.v (.int .i64 lo)), .t (.v (.int .i64 hi))]):=by
 intro n lo hi
 rw[A7 AF (fn:=Vh) rfl (xN rfl rfl _) (lB rfl)]
 have k0:= @Vh.eq_1;have f0:= @J9.eq_1
 exact gs
theorem Ki : ∀ (s:ByteArray),Ok (Dm s) DF (dn AF DE [.t (.v (.string s))]):=by
 intro s r hr
 exact Jv AF.ft (xOf AF) (oB s (e:=DF) (fun _=>rfl) hr)
theorem VA : ∀ (s:ByteArray) (at1:Int),Ok (Kv s at1) Wi (dn AF Re [.t (.v (.string s)), .t (.v (.int .i64 at1))]):=by
 intro s at1
 rw[A7 AF (fn:=Ns) rfl (xN rfl rfl _) (lB rfl)]
 have k0:= @Ns.eq_1;have f0:= @Kv.eq_1;have g0:=R0;have g1:=Ki
 exact gs
theorem bD : ∀ (r:A8) (a1:Int),Ok (QC r a1) Uu (dn AF IY [.agg ((A8.row r).map .t), .lp [.v (.int .i64 a1)] 0]):=by
 intro r a1
 rw[A7 AF (fn:=MU) rfl (xN rfl rfl _) (lB rfl)]
 have k0:= @MU.eq_1;have f0:= @QC.eq_1;have g0:=R0
 exact gs
theorem JQ (s:List A8):∀(x1:Int) (f:Int),Ok (AW s x1 f) DX (ev AF G7 (.loop Em) [.lv 0, .th En] (BE (List.replicate 19 .dead) [(0, .t (.sl false (s.map A8.row))),(1, .fn IY [.ptr (1,0) [] 0 0 1 0]),(7, .t (.v (.int .i64 (AD s)))),(8, .t (.v (.int .i64 x1)))]) (BF (List.replicate 19 []) [(1,[.mem [[.v (.int .i64 f)]] 0 true])])):=by
 unfold Ok
 refine AW.partial_correctness s _ ?_
 intro F ih x1 f
 show Ok _ _ _
 have ih:∀(x1:Int) (f:Int),Ok (F x1 f) _ _:=ih
 rw[AU]
 have k0:= @Em.eq_1;have k1:= @En.eq_1;have g0:=bD;have t0:=ih
 exact gs
end TT
