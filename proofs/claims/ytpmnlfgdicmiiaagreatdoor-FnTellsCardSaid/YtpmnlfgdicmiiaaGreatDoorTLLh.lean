import Derived.Test.YtpmnlfgdicmiiaaGreatDoorTLLg
set_option maxHeartbeats 2000000
set_option linter.unusedVariables false
set_option linter.unusedSimpArgs false
set_option linter.defProp false
set_option maxRecDepth 100000
namespace TT
open Go
open Nat (reduceAdd reduceSub reduceMul reduceLeDiff reduceLT reduceEqDiff)
theorem cE : ∀ (bare:Bool) (n:A0),Ok (CF bare n) VP (ev AL bA OJ [] (BO (List.replicate 59 .dead) [(1, .ptr (1,0) [] 0 0 1 0),(3, .t (.v (.bool bare)))]) (BP (List.replicate 59 []) [(1,[.mem [[.v (.int .i64 n.Kind), .v (.string n.Pre), .v (.string n.Local), .v (.string n.Uri), .sl false (n.Decls.map A2.row), .sl false (n.Attrs.map A5.row), .sl false (n.Kids.map (A0.row false)), .v (.string n.Text)]] 0 false])])):=by
 intro bare n
 have k0:= @OJ.eq_1;have f0:= @CF.eq_1;have g0:=Ys;have g1:=lm
 exact gs
theorem lr : ∀ (n:A0),Ok (Hh n) VP (dn AL aE [.agg (((A0.row false) n).map .t)]):=by
 intro n
 rw[AB AL (fn:=Qe) rfl (xN rfl rfl _) (lB rfl)]
 have k0:= @Qe.eq_1;have f0:= @Hh.eq_1;have g0:=ir;have g1:=lq;have t0:=cE
 exact gs
theorem lu : ∀ (n:A0) (l:List (A2)),Ok (Um n l) bB (dn AL V0 [.agg (((A0.row false) n).map .t), .t (.sl false (l.map A2.row))]):=by
 intro n l r hr
 refine L5 AL.ft (xOf AL) ?_
 have hp:∀k:List (A2),HJ (k.map A2.row)=some (k.map fun x=>(x.Pre,x.Uri)):=fun k=>by
  induction k with
  |nil=>rfl
  |cons x k ih=>show(HJ (k.map A2.row)).map _=_;rw[ih];rfl
 show kf [.agg (((A0.row false) n).map .t), .t (.sl false (l.map A2.row))]=some ⟨[.t (.v (.bool r))],[]⟩
 have hr':RO ((A0.row false) n) (l.map fun x=>(x.Pre,x.Uri))=some r:=hr
 rw[kf,A1H,hp]
 simp only[hr',Option.map_some]
theorem lw : ∀ (n:A0),Ok (Kq n) bC (dn AL aF [.agg (((A0.row false) n).map .t)]):=by
 intro n
 rw[AB AL (fn:=QX) rfl (xN rfl rfl _) (lB rfl)]
 have k0:= @QX.eq_1;have f0:= @Kq.eq_1;have g0:=lr;have g1:=lu
 exact gs
theorem SU : ∀ (l:List (A2)) (p:ByteArray),Ok (LP l p) Yg (dn AL KM [.t (.sl false (l.map A2.row)), .t (.v (.string p))]):=by
 intro l p r hr
 unfold LP at hr
 split at hr
 ·rename_i h
  cases hr
  refine L5 AL.ft (xOf AL) ?_
  have hp:∀k:List (A2),HJ (k.map A2.row)=some (k.map fun x=>(x.Pre,x.Uri)):=fun k=>by
   induction k with
   |nil=>rfl
   |cons x k ih=>show(HJ (k.map A2.row)).map _=_;rw[ih];rfl
  show d9 [.t (.sl false (l.map A2.row)), .t (.v (.string p))]=some ⟨[.t (.v (.string (I2 _ p).1)), .t (.v (.bool (I2 _ p).2))],[]⟩
  rw[d9,hp]
  simp only[List.length_map,h,if_true]
 ·cases hr
theorem Ur : ∀ (pre:ByteArray) (a1:List A2),Ok (In pre a1) W8 (dn AL Dn [.t (.v (.string pre)), .pp [.sl false (a1.map A2.row)]]):=by
 intro pre a1
 rw[AB AL (fn:=P4) rfl (xN rfl rfl _) (lB rfl)]
 have k0:= @P4.eq_1;have f0:= @In.eq_1;have g0:=SU
 exact gs
theorem Zo : ∀ (p:AH) (a1c0:List A2),Ok (LQ p a1c0) UJ (dn AL IW [.agg ((AH.row p).map .t), .pp [.fn Dn [[.sl false (a1c0.map A2.row)]]]]):=by
 intro p a1c0
 rw[AB AL (fn:=LK) rfl (xN rfl rfl _) (lB rfl)]
 have k0:= @LK.eq_1;have f0:= @LQ.eq_1;have g0:=Ur
 exact gs
theorem LV (s:List AH) (fc0c0:List A2):∀(x1:Int),Ok (Ap s fc0c0 x1) EB (ev AL Gz (.loop DF) [.lv 0, .th DG] (BO (List.replicate 19 .dead) [(0, .t (.sl false (s.map AH.row))),(1, .fn IW [.pp [.fn Dn [[.sl false (fc0c0.map A2.row)]]]]),(7, .t (.v (.int .i64 (AD s)))),(8, .t (.v (.int .i64 x1)))]) (BP (List.replicate 19 []) [])):=by
 unfold Ok
 refine Ap.partial_correctness s fc0c0 _ ?_
 intro F ih x1
 show Ok _ _ _
 have ih:∀(x1:Int),Ok (F x1) _ _:=ih
 rw[AZ]
 have k0:= @DF.eq_1;have k1:= @DG.eq_1;have g0:=Zo;have t0:=ih
 exact gs
theorem NE : ∀ (s:List AH) (fc0c0:List A2),Ok (D8 s fc0c0) EB (dn AL IZ [.t (.sl false (s.map AH.row)), .fn IW [.pp [.fn Dn [[.sl false (fc0c0.map A2.row)]]]]]):=by
 intro s fc0c0
 rw[AB AL (fn:=D4) rfl (xN rfl rfl _) (lB rfl)]
 have k0:= @D4.eq_1;have f0:= @D8.eq_1;have t0:=LV
 exact gs
theorem LW : ∀ (s:List AH) (fc0c0:List A2),Ok (Ca s fc0c0) Fv (dn AL EK [.t (.sl false (s.map AH.row)), .fn IW [.pp [.fn Dn [[.sl false (fc0c0.map A2.row)]]]]]):=by
 intro s fc0c0
 rw[AB AL (fn:=CG) rfl (xN rfl rfl _) (lB rfl)]
 have k0:= @CG.eq_1;have f0:= @Ca.eq_1;have g0:=NE
 exact gs
theorem eJ : ∀ (a0:AE) (a1c0:List A2),Ok (PJ a0 a1c0) W9 (dn AL KO [.agg (((AE.row false) a0).map .t), .pp [.fn Dn [[.sl false (a1c0.map A2.row)]]]]):=by
 intro a0 a1c0
 rw[AB AL (fn:=P2) rfl (xN rfl rfl _) (lB rfl)]
 have k0:= @P2.eq_1;have f0:= @PJ.eq_1;have g0:=Ur;have g1:=LW
 exact gs
theorem ME (s:List AE) (fc0c0:List A2):∀(x1:Int),Ok (B4 s fc0c0 x1) Ek (ev AL IE (.loop GW) [.lv 0, .th GX] (BO (List.replicate 19 .dead) [(0, .t (.sl false (s.map (AE.row false)))),(1, .fn KO [.pp [.fn Dn [[.sl false (fc0c0.map A2.row)]]]]),(7, .t (.v (.int .i64 (AD s)))),(8, .t (.v (.int .i64 x1)))]) (BP (List.replicate 19 []) [])):=by
 unfold Ok
 refine B4.partial_correctness s fc0c0 _ ?_
 intro F ih x1
 show Ok _ _ _
 have ih:∀(x1:Int),Ok (F x1) _ _:=ih
 rw[AZ]
 have k0:= @GW.eq_1;have k1:= @GX.eq_1;have g0:=eJ;have t0:=ih
 exact gs
theorem PU : ∀ (s:List AE) (fc0c0:List A2),Ok (Dg s fc0c0) Ek (dn AL NR [.t (.sl false (s.map (AE.row false))), .fn KO [.pp [.fn Dn [[.sl false (fc0c0.map A2.row)]]]]]):=by
 intro s fc0c0
 rw[AB AL (fn:=Fe) rfl (xN rfl rfl _) (lB rfl)]
 have k0:= @Fe.eq_1;have f0:= @Dg.eq_1;have t0:=ME
 exact gs
theorem MF : ∀ (s:List AE) (fc0c0:List A2),Ok (D0 s fc0c0) Gp (dn AL KQ [.t (.sl false (s.map (AE.row false))), .fn KO [.pp [.fn Dn [[.sl false (fc0c0.map A2.row)]]]]]):=by
 intro s fc0c0
 rw[AB AL (fn:=EM) rfl (xN rfl rfl _) (lB rfl)]
 have k0:= @EM.eq_1;have f0:= @D0.eq_1;have g0:=PU
 exact gs
theorem p7 : ∀ (s:B8) (l:List A2),Ok (QB s l) di (dn AL dD [.agg (((B8.row false) s).map .t), .t (.sl false (l.map A2.row))]):=by
 intro s l
 rw[AB AL (fn:=T9) rfl (xN rfl rfl _) (lB rfl)]
 have k0:= @T9.eq_1;have f0:= @QB.eq_1;have g0:=MF
 exact gs
theorem Zp : ∀ (s:List (Int)),Ok (LR s) UK (dn AL J8 [.t (.sl false (s.map rI))]):=by
 intro s
 cases s with
 |nil=>
  intro r hr
  unfold LR at hr
  obtain⟨_,_,h⟩:=Option.bind_eq_some_iff.1 hr
  cases h
  exact L5 AL.ft (xOf AL) (rY rfl)
 |cons x s=>
  simp only[List.map_cons]
  rw[AB AL (fn:=Ew) rfl (kW rfl _ _) (Nat.le_of_ble_eq_true rfl)]
  simp only[U2,RS,UL,Ew,LR,reduceAdd,reduceSub,reduceMul,reduceLeDiff,reduceLT,reduceEqDiff,Nat.reduceBEq,↓reduceIte,reduceCtorEq]
  refine FF fun a h=> ?_
  simp only[U2,RS, *,reduceAdd,reduceSub,reduceMul,reduceLeDiff,reduceLT,reduceEqDiff,Nat.reduceBEq,↓reduceIte,reduceCtorEq]
  exact rZ rfl
theorem Re : ∀ (s:List (List (Int))),Ok (Fh s) Sp (dn AL IJ [.t (.sl false (s.map (rL false rI)))]):=by
 intro s r hr
 unfold Fh at hr
 split at hr
 ·rename_i l m
  split at hr
  ·rename_i h
   cases hr
   refine L5 AL.ft (xOf AL) ?_
   have hl:∀k:List (Int),∀row∈k.map rI,row.length=1:=fun k row hrow=>by obtain⟨x,_,rfl⟩:=List.mem_map.1 hrow;first|rfl|(cases x<;>rfl)
   show Po 1 8 [.t (.sl false [[.sl false (l.map rI)],[.sl false (m.map rI)]])]=some ⟨[.t (.sl true ((l++m).map rI))],[]⟩
   rw[Po]
   rw[Y6,if_pos ⟨⟨hl l,hl m⟩,by simpa using h⟩,List.map_append]
  ·cases hr
 ·rename_i l m q
  split at hr
  ·rename_i h
   cases hr
   refine L5 AL.ft (xOf AL) ?_
   have hl:∀k:List (Int),∀row∈k.map rI,row.length=1:=fun k row hrow=>by obtain⟨x,_,rfl⟩:=List.mem_map.1 hrow;first|rfl|(cases x<;>rfl)
   show Po 1 8 [.t (.sl false [[.sl false (l.map rI)],[.sl false (m.map rI)],[.sl false (q.map rI)]])]=some ⟨[.t (.sl true ((l++m++q).map rI))],[]⟩
   rw[Po]
   have e2:Y6 1 8 [.t (.sl false [[.sl false (l.map rI)],[.sl false (m.map rI)],[.sl false (q.map rI)]])]=none:=rfl
   rw[e2]
   show Vw _ _ _=_
   rw[Vw,if_pos ⟨⟨hl l,hl m,hl q⟩,by simpa using h⟩,List.map_append,List.map_append]
  ·cases hr
 ·cases hr
theorem iw : (∀ (n:A0) (path:List Int) (out:List (List Int)),Ok (M4 n path out) Mi (dn AL MJ [.agg (((A0.row false) n).map .t), .t (.sl false (path.map rI)), .ln (out.map (rL true rI))]))∧
  (∀(path:List Int) (out1:List (List Int)) (n:A0) (x1:Int),Ok (QC path out1 n x1) Mi (ev AL XM (.loop Mx) [.lv 0, .th My] (BO (List.replicate 32 .dead) [(1, .t (.sl false (path.map rI))),(2, .ref (2,0) out1.length),(15, .t (.sl false (n.Kids.map (A0.row false)))),(16, .t (.v (.int .i64 (AD n.Kids)))),(17, .t (.v (.int .i64 x1)))]) (BP (List.replicate 32 []) [(2,[.mem (out1.map (rL true rI)) 0 false])]))):=by
 unfold Ok
 refine M4.mutual_partial_correctness _ _ ?_ ?_
 ·intro F1 ih1 n path out
  show Ok _ _ _
  have ih1:∀(path:List Int) (out1:List (List Int)) (n:A0) (x1:Int),Ok (F1 path out1 n x1) _ _:=ih1
  rw[AB AL (fn:=MY) rfl (xN rfl rfl _) (lB rfl)]
  have k0:= @MY.eq_1;have g0:=Zp;have t0:=ih1
  exact gs
 ·intro F0 F1 ih0 ih1 path out1 n x1
  show Ok _ _ _
  have ih0:∀(n:A0) (path:List Int) (out:List (List Int)),Ok (F0 n path out) _ _:=ih0
  have ih1:∀(path:List Int) (out1:List (List Int)) (n:A0) (x1:Int),Ok (F1 path out1 n x1) _ _:=ih1
  rw[AZ]
  have k0:= @Mx.eq_1;have k1:= @My.eq_1;have g0:=Re;have g1:=ih0;have t0:=ih1
  exact gs
theorem fX (n:A0) (path:List Int) (out:List (List Int)):Ok (M4 n path out) Mi (dn AL MJ [.agg (((A0.row false) n).map .t), .t (.sl false (path.map rI)), .ln (out.map (rL true rI))]):=iw.1 n path out
theorem Z4 : ∀ (n:A0),Ok (RY n) bD (dn AL V1 [.agg (((A0.row false) n).map .t)]):=by
 intro n
 rw[AB AL (fn:=Qf) rfl (xN rfl rfl _) (lB rfl)]
 have k0:= @Qf.eq_1;have f0:= @RY.eq_1;have g0:=fX
 exact gs
theorem ly : ∀ (s:ByteArray) (t:ByteArray),Ok (strings_Cut s t) VQ (dn AL V9 [.t (.v (.string s)), .t (.v (.string t))]):=by
 intro s t r hr
 exact L5 AL.ft (xOf AL) (A4q s t (e:=VQ) (fun _=>rfl) hr)
theorem eK : ∀ (s:ByteArray),Ok (U7 s) WA (dn AL Vx [.t (.v (.string s))]):=by
 intro s
 rw[AB AL (fn:=LG) rfl (xN rfl rfl _) (lB rfl)]
 have k0:= @LG.eq_1;have f0:= @U7.eq_1;have g0:=Ft;have g1:=ly
 exact gs
theorem Zq : ∀ (pre:ByteArray) (local1:ByteArray) (s:ByteArray),Ok (LS pre local1 s) ST (ev AL XN Mt [] (BO (List.replicate 35 .dead) [(0, .t (.v (.string pre))),(1, .t (.v (.string local1))),(5, .t (.v (.string s)))]) (BP (List.replicate 35 []) [])):=by
 intro pre local1 s
 have k0:= @Mt.eq_1;have f0:= @LS.eq_1;have g0:=eK
 exact gs
theorem QH : ∀ (pre:ByteArray) (local1:ByteArray),Ok (GD pre local1) ST (dn AL Fl [.t (.v (.string pre)), .t (.v (.string local1))]):=by
 intro pre local1
 rw[AB AL (fn:=MU) rfl (xN rfl rfl _) (lB rfl)]
 have k0:= @MU.eq_1;have f0:= @GD.eq_1;have t0:=Zq
 exact gs
theorem iy : ∀ (d:CU) (a1:ByteArray) (a2:ByteArray),Ok (Wj d a1 a2) Yh (dn AL Nt [.agg ((CU.row d).map .t), .lp [.v (.string a1)] 0, .lp [.v (.string a2)] 0]):=by
 intro d a1 a2
 rw[AB AL (fn:=P5) rfl (xN rfl rfl _) (lB rfl)]
 have k0:= @P5.eq_1;have f0:= @Wj.eq_1
 exact gs
end TT
