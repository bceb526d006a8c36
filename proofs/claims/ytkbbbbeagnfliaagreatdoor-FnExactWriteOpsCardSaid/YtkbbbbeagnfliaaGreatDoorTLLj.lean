import Derived.Test.YtkbbbbeagnfliaaGreatDoorTLLi
set_option maxHeartbeats 2000000
set_option linter.unusedVariables false
set_option linter.unusedSimpArgs false
set_option linter.defProp false
set_option maxRecDepth 100000
namespace TT
open Go
open Nat (reduceAdd reduceSub reduceMul reduceLeDiff reduceLT reduceEqDiff)
theorem jP : Ok (T6) Yf (dn AI Xq []):=by
 rw[A5 AI (fn:=Nc) rfl (xN rfl rfl _) (lB rfl)]
 have k0:= @Nc.eq_1;have f0:= @T6.eq_1
 exact gs
theorem RJ : ∀ (s:List (GDecl)),Ok (DA s) SJ (dn AI FH [.t (.sl false (s.map GDecl.row))]):=by
 intro s
 cases s with
 |nil=>
  intro r hr
  unfold DA at hr
  obtain⟨_,_,h⟩:=Option.bind_eq_some_iff.1 hr
  cases h
  exact Ms AI.ft (xOf AI) (A0b rfl)
 |cons x s=>
  simp only[List.map_cons]
  rw[A5 AI (fn:=Dv) rfl (wF rfl _ _) (Nat.le_of_ble_eq_true rfl)]
  simp only[SSA,RS,SK,Dv,DA,reduceAdd,reduceSub,reduceMul,reduceLeDiff,reduceLT,reduceEqDiff,Nat.reduceBEq,↓reduceIte,reduceCtorEq]
  refine Ep fun a h=> ?_
  simp only[SSA,RS, *,reduceAdd,reduceSub,reduceMul,reduceLeDiff,reduceLT,reduceEqDiff,Nat.reduceBEq,↓reduceIte,reduceCtorEq]
  exact yg rfl
theorem Z6 : ∀ (s:List (GAttr)),Ok (Gi s) SL (dn AI HF [.t (.sl false (s.map GAttr.row))]):=by
 intro s
 cases s with
 |nil=>
  intro r hr
  unfold Gi at hr
  obtain⟨_,_,h⟩:=Option.bind_eq_some_iff.1 hr
  cases h
  exact Ms AI.ft (xOf AI) (A0b rfl)
 |cons x s=>
  simp only[List.map_cons]
  rw[A5 AI (fn:=Dw) rfl (wF rfl _ _) (Nat.le_of_ble_eq_true rfl)]
  simp only[SSA,RS,SM,Dw,Gi,reduceAdd,reduceSub,reduceMul,reduceLeDiff,reduceLT,reduceEqDiff,Nat.reduceBEq,↓reduceIte,reduceCtorEq]
  refine Ep fun a h=> ?_
  simp only[SSA,RS, *,reduceAdd,reduceSub,reduceMul,reduceLeDiff,reduceLT,reduceEqDiff,Nat.reduceBEq,↓reduceIte,reduceCtorEq]
  exact yg rfl
theorem Vp : (∀ (n:GNode),Ok (En n) Pz (dn AI PS [.agg (((GNode.row false) n).map .t)]))∧
  (∀(l:List GNode),Ok (FD l) Ic (dn AI IS [.t (.sl false (l.map (GNode.row false)))]))∧
  (∀(out:List (GNode)) (l:List GNode) (x1:Int),Ok (DQ out l x1) Ic (ev AI UZ (.loop Io) [.lv 0, .th Ip] (B8 (List.replicate 19 .dead) [(3, .ref (16,0) out.length),(6, .t (.sl false (l.map (GNode.row false)))),(7, .t (.v (.int .i64 (AF l)))),(8, .t (.v (.int .i64 x1)))]) (B9 (List.replicate 19 []) [(16,[.mem (out.map (GNode.row true)) 0 false])]))):=by
 unfold Ok
 refine En.mutual_partial_correctness _ _ _ ?_ ?_ ?_
 ·intro F1 ih1 n
  show Ok _ _ _
  have ih1:∀(l:List GNode),Ok (F1 l) _ _:=ih1
  rw[A5 AI (fn:=JZ) rfl (xN rfl rfl _) (lB rfl)]
  have k0:= @JZ.eq_1;have g0:=RJ;have g1:=Z6;have g2:=ih1
  exact gs
 ·intro F2 ih2 l
  show Ok _ _ _
  have ih2:∀(out:List (GNode)) (l:List GNode) (x1:Int),Ok (F2 out l x1) _ _:=ih2
  rw[A5 AI (fn:=IY) rfl (xN rfl rfl _) (lB rfl)]
  have k0:= @IY.eq_1;have t0:=ih2
  exact gs
 ·intro F0 F2 ih0 ih2 out l x1
  show Ok _ _ _
  have ih0:∀(n:GNode),Ok (F0 n) _ _:=ih0
  have ih2:∀(out:List (GNode)) (l:List GNode) (x1:Int),Ok (F2 out l x1) _ _:=ih2
  rw[AV]
  have k0:= @Io.eq_1;have k1:= @Ip.eq_1;have g0:=ih0;have t0:=ih2
  exact gs
theorem A0n (n:GNode):Ok (En n) Pz (dn AI PS [.agg (((GNode.row false) n).map .t)]):=Vp.1 n
theorem cu (l:List GNode):Ok (FD l) Ic (dn AI IS [.t (.sl false (l.map (GNode.row false)))]):=Vp.2.1 l
theorem WU : ∀ (x3:Int) (n1:Int),Ok (HK x3 n1) Ie (ev AI Oz IP [] (B8 (List.replicate 25 .dead) [(0, .t (.v (.int .u64 x3))),(2, .t (.v (.int .i64 n1)))]) (B9 (List.replicate 25 []) [])):=by
 intro x3 n1
 have k0:= @IP.eq_1;have f0:= @HK.eq_1
 exact gs
theorem XS : ∀ (x1:Int) (n:Int),Ok (I5 x1 n) Ie (ev AI Oz Iz [] (B8 (List.replicate 25 .dead) [(0, .t (.v (.int .u64 x1))),(2, .t (.v (.int .i64 n)))]) (B9 (List.replicate 25 []) [])):=by
 intro x1 n
 have k0:= @Iz.eq_1;have f0:= @I5.eq_1;have t0:=WU
 exact gs
theorem cw : ∀ (a0:Int),Ok (Rt a0) Ie (dn AI UN [.t (.v (.int .u64 a0))]):=by
 intro a0
 rw[A5 AI (fn:=Ia) rfl (xN rfl rfl _) (lB rfl)]
 have k0:= @Ia.eq_1;have f0:= @Rt.eq_1;have t0:=XS
 exact gs
theorem gF : ∀ (a0:Int),Ok (Qz a0) X5 (dn AI Wo [.t (.v (.int .u64 a0))]):=by
 intro a0
 rw[A5 AI (fn:=Kn) rfl (xN rfl rfl _) (lB rfl)]
 have k0:= @Kn.eq_1;have f0:= @Qz.eq_1;have g0:=cw
 exact gs
theorem a8 : ∀ (a:GDecl) (b:GDecl),Ok (HY a b) U8 (dn AI DP [.agg ((GDecl.row a).map .t), .agg ((GDecl.row b).map .t)]):=by
 intro a b
 rw[A5 AI (fn:=Hy) rfl (xN rfl rfl _) (lB rfl)]
 have k0:= @Hy.eq_1;have f0:= @HY.eq_1;have g0:=UH
 exact gs
theorem GA (a b:Int):(∀(data3:List (GDecl)) (i:Int) (j1:Int),Ok (AO data3 a b i j1) BF (ev AI Bi (.loop Ci) [.lv 2, .lv 1, .th Cj, .hk [.clean []], .th (.loop Bk), .lv 0] (B8 (List.replicate 53 .dead) [(0, .ref (0,0) data3.length),(1, .t (.v (.int .i64 a))),(2, .t (.v (.int .i64 b))),(3, .fn DP []),(8, .t (.v (.int .i64 i))),(9, .t (.v (.int .i64 j1)))]) (B9 (List.replicate 53 []) [(0,[.mem (data3.map GDecl.row) 0 true])])))∧
  (∀(data2:List (GDecl)) (i:Int),Ok (AS data2 a b i) BF (ev AI Bi (.loop Bk) [.lv 0] (B8 (List.replicate 53 .dead) [(0, .ref (0,0) data2.length),(1, .t (.v (.int .i64 a))),(2, .t (.v (.int .i64 b))),(3, .fn DP []),(8, .t (.v (.int .i64 i)))]) (B9 (List.replicate 53 []) [(0,[.mem (data2.map GDecl.row) 0 true])]))):=by
 unfold Ok
 refine AO.mutual_partial_correctness a b _ _ ?_ ?_
 ·intro F0 F1 ih0 ih1 data3 i j1
  show Ok _ _ _
  have ih0:∀(data3:List (GDecl)) (i:Int) (j1:Int),Ok (F0 data3 i j1) _ _:=ih0
  have ih1:∀(data2:List (GDecl)) (i:Int),Ok (F1 data2 i) _ _:=ih1
  rw[AV]
  have k0:= @Ci.eq_1;have k1:= @Cj.eq_1;have g0:=a8;have t0:=ih0;have t1:=ih1
  exact gs
 ·intro F0 ih0 data2 i
  show Ok _ _ _
  have ih0:∀(data3:List (GDecl)) (i:Int) (j1:Int),Ok (F0 data3 i j1) _ _:=ih0
  rw[AV]
  have k0:= @Bk.eq_1;have t0:=ih0
  exact gs
theorem Gr : ∀ (data:List (GDecl)) (a:Int) (b:Int),Ok (BH data a b) BF (dn AI Ft [.ln (data.map GDecl.row), .t (.v (.int .i64 a)), .t (.v (.int .i64 b)), .fn DP []]):=by
 intro data a b
 rw[A5 AI (fn:=CA) rfl (xN rfl rfl _) (lB rfl)]
 have k0:= @CA.eq_1;have f0:= @BH.eq_1;have t0:=fun a0 a1=>(GA a0 a1).2
 exact gs
theorem Hf : ∀ (data:List (GDecl)) (a:Int) (b:Int) (limit:Int),Ok (BQ data a b limit) CT (ev AI ED (.loop E7) [.lv 0] (B8 (List.replicate 148 .dead) [(0, .ref (0,0) data.length),(1, .t (.v (.int .i64 a))),(2, .t (.v (.int .i64 b))),(3, .t (.v (.int .i64 limit))),(4, .fn DP []),(10, .t (.v (.bool true))),(11, .t (.v (.bool true)))]) (B9 (List.replicate 148 []) [(0,[.mem (data.map GDecl.row) 0 true])])):=by
 intro data a b limit
 rw[AV]
 have k0:= @E7.eq_1;have f0:= @BQ.eq_1;have g0:=Gr
 exact gs
theorem IF : ∀ (data:List (GDecl)) (a:Int) (b:Int) (limit:Int),Ok (Bd data a b limit) CT (dn AI DK [.ln (data.map GDecl.row), .t (.v (.int .i64 a)), .t (.v (.int .i64 b)), .t (.v (.int .i64 limit)), .fn DP []]):=by
 intro data a b limit
 rw[A5 AI (fn:=DL) rfl (xN rfl rfl _) (lB rfl)]
 have k0:= @DL.eq_1;have f0:= @Bd.eq_1;have t0:=Hf
 exact gs
theorem KW : ∀ (a0:List (GDecl)),Ok (Be a0) G9 (dn AI N3 [.ln (a0.map GDecl.row), .fn DP []]):=by
 intro a0
 rw[A5 AI (fn:=FL) rfl (xN rfl rfl _) (lB rfl)]
 have k0:= @FL.eq_1;have f0:= @Be.eq_1;have g0:=gF;have g1:=IF
 exact gs
theorem jQ : ∀ (l:List (GDecl)) (p:ByteArray),Ok (Jl l p) Yg (dn AI TZ [.t (.sl false (l.map GDecl.row)), .t (.v (.string p))]):=by
 intro l p r hr
 unfold Jl at hr
 split at hr
 ·rename_i h
  cases hr
  refine Ms AI.ft (xOf AI) ?_
  have hp:∀k:List (GDecl),GV (k.map GDecl.row)=some (k.map fun x=>(x.Pre,x.Uri)):=fun k=>by
   induction k with
   |nil=>rfl
   |cons x k ih=>show(GV (k.map GDecl.row)).map _=_;rw[ih];rfl
  show dX [.t (.sl false (l.map GDecl.row)), .t (.v (.string p))]=some ⟨[.t (.v (.string (BE _ p).1)), .t (.v (.bool (BE _ p).2))],[]⟩
  rw[dX,hp]
  simp only[List.length_map,h,if_true]
 ·cases hr
theorem gG : Ok (R0) X6 (dn AI Wk []):=by
 rw[A5 AI (fn:=Kk) rfl (xN rfl rfl _) (lB rfl)]
 have k0:= @Kk.eq_1;have f0:= @R0.eq_1
 exact gs
theorem aA : ∀ (local1:ByteArray) (val:ByteArray) (a2:GNode),Ok (EM local1 val a2) U9 (dn AI Kv [.t (.v (.string local1)), .t (.v (.string val)), .lp [.v (.int .i64 a2.Kind), .v (.string a2.Pre), .v (.string a2.Local), .v (.string a2.Uri), .sl true (a2.Decls.map GDecl.row), .sl true (a2.Attrs.map GAttr.row), .sl true (a2.Kids.map (GNode.row true)), .v (.string a2.Text)] 0]):=by
 intro local1 val a2
 rw[A5 AI (fn:=EG) rfl (xN rfl rfl _) (lB rfl)]
 have k0:= @EG.eq_1;have f0:= @EM.eq_1
 exact gs
theorem Z7 : ∀ (local1:ByteArray) (val:ByteArray) (a2:GNode),Ok (Ax local1 val a2) SN (dn AI Kv [.t (.v (.string local1)), .t (.v (.string val)), .lp [.v (.int .i64 a2.Kind), .v (.string a2.Pre), .v (.string a2.Local), .v (.string a2.Uri), .sl true (a2.Decls.map GDecl.row), .sl true (a2.Attrs.map GAttr.row), .sl true (a2.Kids.map (GNode.row true)), .v (.string a2.Text)] 0]):=by
 intro local1 val a2
 rw[A5 AI (fn:=EG) rfl (xN rfl rfl _) (lB rfl)]
 have k0:= @EG.eq_1;have f0:= @Ax.eq_1
 exact gs
theorem jR : Ok (Jm) Yh (dn AI Xs []):=by
 rw[A5 AI (fn:=Nd) rfl (xN rfl rfl _) (lB rfl)]
 have k0:= @Nd.eq_1;have f0:= @Jm.eq_1
 exact gs
theorem ef : ∀ (o:GOp),Ok (JH o) Vm (dn AI Vd [.agg (((GOp.row false) o).map .t)]):=by
 intro o
 rw[A5 AI (fn:=JT) rfl (xN rfl rfl _) (lB rfl)]
 have k0:= @JT.eq_1;have f0:= @JH.eq_1;have g0:=jP;have g1:=RJ;have g2:=cu;have g3:=KW;have g4:=jQ;have g5:=gG;have g6:=aA;have g7:=XH;have g8:=Z7;have g9:=Fl;have g10:=jR
 exact gs
theorem mu : ∀ (n:GNode),Ok (MW n) bX (dn AI aO [.agg (((GNode.row false) n).map .t)]):=by
 intro n
 rw[A5 AI (fn:=QB) rfl (xN rfl rfl _) (lB rfl)]
 have k0:= @QB.eq_1;have f0:= @MW.eq_1;have g0:=Z4;have g1:=Z5
 exact gs
theorem PI : ∀ (s:ByteArray) (t:ByteArray) (u:ByteArray),Ok (strings_ReplaceAll s t u) JK (dn AI Bc [.t (.v (.string s)), .t (.v (.string t)), .t (.v (.string u))]):=by
 intro s t u r hr
 exact Ms AI.ft (xOf AI) (tU s t u (e:=JK) (fun _=>rfl) hr)
theorem XI : ∀ (s:ByteArray),Ok (Jn s) Yj (dn AI TW [.t (.v (.string s))]):=by
 intro s
 rw[A5 AI (fn:=Nh) rfl (xN rfl rfl _) (lB rfl)]
 have k0:= @Nh.eq_1;have f0:= @Jn.eq_1;have g0:=PI
 exact gs
end TT
