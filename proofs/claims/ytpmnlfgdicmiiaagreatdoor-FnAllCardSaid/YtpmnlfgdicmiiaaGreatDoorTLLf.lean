import Derived.Test.YtpmnlfgdicmiiaaGreatDoorTLLe
set_option maxHeartbeats 2000000
set_option linter.unusedVariables false
set_option linter.unusedSimpArgs false
set_option linter.defProp false
set_option maxRecDepth 100000
namespace TT
open Go
open Nat (reduceAdd reduceSub reduceMul reduceLeDiff reduceLT reduceEqDiff)
theorem Yn : ∀ (kind:Int) (named:Bool) (p:AH),Ok (MY kind named p) Jo (ev AF OE NF [] (BE (List.replicate 75 .dead) [(1, .t (.v (.int .i64 kind))),(2, .ptr (2,0) [] 0 0 1 0),(5, .t (.v (.bool named)))]) (BF (List.replicate 75 []) [(2,[.mem [[.v (.int .i64 p.Kind), .v (.int .i64 p.N), .v (.string p.Pre), .v (.string p.Local), .v (.string p.Val)]] 0 false])])):=by
 intro kind named p
 have k0:= @NF.eq_1;have f0:= @MY.eq_1;have t0:=Ym
 exact gs
theorem eC : ∀ (p:AH) (kind:Int),Ok (Uk p kind) Jo (dn AF WM [.agg ((AH.row p).map .t), .t (.v (.int .i64 kind))]):=by
 intro p kind
 rw[A7 AF (fn:=O3) rfl (xN rfl rfl _) (lB rfl)]
 have k0:= @O3.eq_1;have f0:= @Uk.eq_1;have t0:=Yn
 exact gs
theorem ZT : ∀ (p:AH) (a1:AJ),Ok (Rj p a1) Tr (dn AF Ho [.agg ((AH.row p).map .t), .lp [.v (.bool a1.Deep), .v (.int .i64 a1.Kind), .v (.string a1.Pre), .v (.string a1.Local), .sl false (a1.Preds.map AH.row)] 0]):=by
 intro p a1
 rw[A7 AF (fn:=KD) rfl (xN rfl rfl _) (lB rfl)]
 have k0:= @KD.eq_1;have f0:= @Rj.eq_1;have g0:=eC
 exact gs
theorem JT (s:List AH):∀(x1:Int) (f:AJ),Ok (BB s x1 f) DY (ev AF GB (.loop CK) [.lv 0, .th CL] (BE (List.replicate 19 .dead) [(0, .t (.sl false (s.map AH.row))),(1, .fn Ho [.ptr (1,0) [] 0 0 1 0]),(7, .t (.v (.int .i64 (AD s)))),(8, .t (.v (.int .i64 x1)))]) (BF (List.replicate 19 []) [(1,[.mem [[.v (.bool f.Deep), .v (.int .i64 f.Kind), .v (.string f.Pre), .v (.string f.Local), .sl false (f.Preds.map AH.row)]] 0 true])])):=by
 unfold Ok
 refine BB.partial_correctness s _ ?_
 intro F ih x1 f
 show Ok _ _ _
 have ih:∀(x1:Int) (f:AJ),Ok (F x1 f) _ _:=ih
 rw[AU]
 have k0:= @CK.eq_1;have k1:= @CL.eq_1;have g0:=ZT;have t0:=ih
 exact gs
theorem LA : ∀ (s:List AH) (fc0:AJ),Ok (CZ s fc0) DY (dn AF Gr [.t (.sl false (s.map AH.row)), .fn Ho [.lp [.v (.bool fc0.Deep), .v (.int .i64 fc0.Kind), .v (.string fc0.Pre), .v (.string fc0.Local), .sl false (fc0.Preds.map AH.row)] 0]]):=by
 intro s fc0
 rw[A7 AF (fn:=CA) rfl (xN rfl rfl _) (lB rfl)]
 have k0:= @CA.eq_1;have f0:= @CZ.eq_1;have t0:=JT
 exact gs
theorem JU : ∀ (s:List AH) (fc0:AJ),Ok (An s fc0) Ez (dn AF DN [.t (.sl false (s.map AH.row)), .fn Ho [.lp [.v (.bool fc0.Deep), .v (.int .i64 fc0.Kind), .v (.string fc0.Pre), .v (.string fc0.Local), .sl false (fc0.Preds.map AH.row)] 0]]):=by
 intro s fc0
 rw[A7 AF (fn:=BX) rfl (xN rfl rfl _) (lB rfl)]
 have k0:= @BX.eq_1;have f0:= @An.eq_1;have g0:=LA
 exact gs
theorem XW : ∀ (end1:Bool) (r:Bool×AJ) (x:Bool) (sDeep:Bool),Ok (By end1 r x sDeep) OF (ev AF Rv Lf [.lv 0, .th Lg] (BE (List.replicate 87 .dead) [(2, .ptr (2,0) [] 0 0 1 0),(5, .t (.v (.bool end1))),(29, .t (.v (.int .i64 r.2.Kind))),(37, .t (.v (.bool x)))]) (BF (List.replicate 87 []) [(2,[.mem [[.v (.bool sDeep), .v (.int .i64 r.2.Kind), .v (.string r.2.Pre), .v (.string r.2.Local), .sl false (r.2.Preds.map AH.row)]] 0 false])])):=by
 intro end1 r x sDeep
 have k0:= @Lf.eq_1;have k1:= @Lg.eq_1;have f0:= @By.eq_1;have g0:=Ec;have g1:=R1
 exact gs
theorem XX : ∀ (end1:Bool) (sDeep:Bool) (r:Bool×AJ),Ok (EZ end1 sDeep r) OF (ev AF Rv Lh [] (BE (List.replicate 87 .dead) [(2, .ptr (2,0) [] 0 0 1 0),(5, .t (.v (.bool end1)))]) (BF (List.replicate 87 []) [(2,[.mem [[.v (.bool sDeep), .v (.int .i64 r.2.Kind), .v (.string r.2.Pre), .v (.string r.2.Local), .sl false (r.2.Preds.map AH.row)]] 0 false])])):=by
 intro end1 sDeep r
 have k0:= @Lh.eq_1;have f0:= @EZ.eq_1;have g0:=R1;have t0:=XW
 exact gs
theorem eD : ∀ (s:AJ) (last:Bool),Ok (Ky s last) OF (dn AF WN [.agg (((AJ.row false) s).map .t), .t (.v (.bool last))]):=by
 intro s last
 rw[A7 AF (fn:=Nb) rfl (xN rfl rfl _) (lB rfl)]
 have k0:= @Nb.eq_1;have f0:= @Ky.eq_1;have g0:=JU;have t0:=XX
 exact gs
theorem ZU (s:Eh):∀(x1:Int),Ok (GO s x1) TQ (ev AF YY (.loop P5) [.lv 0, .th P6] (BE (List.replicate 41 .dead) [(1, .ptr (1,0) [] 0 0 1 0),(3, .t (.v (.int .i64 (AD s.Steps)))),(10, .t (.sl false (s.Steps.map (AJ.row false)))),(11, .t (.v (.int .i64 (AD s.Steps)))),(12, .t (.v (.int .i64 x1)))]) (BF (List.replicate 41 []) [(1,[.mem [[.v (.string s.Id), .sl false (s.Steps.map (AJ.row false))]] 0 false])])):=by
 unfold Ok
 refine GO.partial_correctness s _ ?_
 intro F ih x1
 show Ok _ _ _
 have ih:∀(x1:Int),Ok (F x1) _ _:=ih
 rw[AU]
 have k0:= @P5.eq_1;have k1:= @P6.eq_1;have g0:=eD;have g1:=X2;have t0:=ih
 exact gs
theorem hJ : ∀ (s:Eh),Ok (NH s) TQ (dn AF Y8 [.agg (((Eh.row false) s).map .t)]):=by
 intro s
 rw[A7 AF (fn:=Pt) rfl (xN rfl rfl _) (lB rfl)]
 have k0:= @Pt.eq_1;have f0:= @NH.eq_1;have t0:=ZU
 exact gs
theorem PQ : ∀ (l:List (A1)) (p:ByteArray),Ok (JD l p) V1 (dn AF IX [.t (.sl false (l.map A1.row)), .t (.v (.string p))]):=by
 intro l p r hr
 unfold JD at hr
 split at hr
 ·rename_i h
  cases hr
  refine Jv AF.ft (xOf AF) ?_
  have hp:∀k:List (A1),Fp (k.map A1.row)=some (k.map fun x=>(x.Pre,x.Uri)):=fun k=>by
   induction k with
   |nil=>rfl
   |cons x k ih=>show(Fp (k.map A1.row)).map _=_;rw[ih];rfl
  show Y5 [.t (.sl false (l.map A1.row)), .t (.v (.string p))]=some ⟨[.t (.v (.string (GL _ p).1)), .t (.v (.bool (GL _ p).2))],[]⟩
  rw[Y5,hp]
  simp only[List.length_map,h,if_true]
 ·cases hr
theorem RU : ∀ (pre:ByteArray) (a1:List A1),Ok (H3 pre a1) Sg (dn AF Cr [.t (.v (.string pre)), .pp [.sl false (a1.map A1.row)]]):=by
 intro pre a1
 rw[A7 AF (fn:=MD) rfl (xN rfl rfl _) (lB rfl)]
 have k0:= @MD.eq_1;have f0:= @H3.eq_1;have g0:=PQ
 exact gs
theorem Vx : ∀ (p:AH) (a1c0:List A1),Ok (JE p a1c0) Qu (dn AF Gp [.agg ((AH.row p).map .t), .pp [.fn Cr [[.sl false (a1c0.map A1.row)]]]]):=by
 intro p a1c0
 rw[A7 AF (fn:=J8) rfl (xN rfl rfl _) (lB rfl)]
 have k0:= @J8.eq_1;have f0:= @JE.eq_1;have g0:=RU
 exact gs
theorem JG (s:List AH) (fc0c0:List A1):∀(x1:Int),Ok (AT s fc0c0 x1) DG (ev AF Fc (.loop CK) [.lv 0, .th CL] (BE (List.replicate 19 .dead) [(0, .t (.sl false (s.map AH.row))),(1, .fn Gp [.pp [.fn Cr [[.sl false (fc0c0.map A1.row)]]]]),(7, .t (.v (.int .i64 (AD s)))),(8, .t (.v (.int .i64 x1)))]) (BF (List.replicate 19 []) [])):=by
 unfold Ok
 refine AT.partial_correctness s fc0c0 _ ?_
 intro F ih x1
 show Ok _ _ _
 have ih:∀(x1:Int),Ok (F x1) _ _:=ih
 rw[AU]
 have k0:= @CK.eq_1;have k1:= @CL.eq_1;have g0:=Vx;have t0:=ih
 exact gs
theorem Kj : ∀ (s:List AH) (fc0c0:List A1),Ok (CD s fc0c0) DG (dn AF Gr [.t (.sl false (s.map AH.row)), .fn Gp [.pp [.fn Cr [[.sl false (fc0c0.map A1.row)]]]]]):=by
 intro s fc0c0
 rw[A7 AF (fn:=CA) rfl (xN rfl rfl _) (lB rfl)]
 have k0:= @CA.eq_1;have f0:= @CD.eq_1;have t0:=JG
 exact gs
theorem JH : ∀ (s:List AH) (fc0c0:List A1),Ok (Bm s fc0c0) Ee (dn AF DN [.t (.sl false (s.map AH.row)), .fn Gp [.pp [.fn Cr [[.sl false (fc0c0.map A1.row)]]]]]):=by
 intro s fc0c0
 rw[A7 AF (fn:=BX) rfl (xN rfl rfl _) (lB rfl)]
 have k0:= @BX.eq_1;have f0:= @Bm.eq_1;have g0:=Kj
 exact gs
theorem Yo : ∀ (a0:AJ) (a1c0:List A1),Ok (MZ a0 a1c0) Sh (dn AF IZ [.agg (((AJ.row false) a0).map .t), .pp [.fn Cr [[.sl false (a1c0.map A1.row)]]]]):=by
 intro a0 a1c0
 rw[A7 AF (fn:=MC) rfl (xN rfl rfl _) (lB rfl)]
 have k0:= @MC.eq_1;have f0:= @MZ.eq_1;have g0:=RU;have g1:=JH
 exact gs
theorem Jr (s:List AJ) (fc0c0:List A1):∀(x1:Int),Ok (Aa s fc0c0 x1) Dn (ev AF GW (.loop FF) [.lv 0, .th FG] (BE (List.replicate 19 .dead) [(0, .t (.sl false (s.map (AJ.row false)))),(1, .fn IZ [.pp [.fn Cr [[.sl false (fc0c0.map A1.row)]]]]),(7, .t (.v (.int .i64 (AD s)))),(8, .t (.v (.int .i64 x1)))]) (BF (List.replicate 19 []) [])):=by
 unfold Ok
 refine Aa.partial_correctness s fc0c0 _ ?_
 intro F ih x1
 show Ok _ _ _
 have ih:∀(x1:Int),Ok (F x1) _ _:=ih
 rw[AU]
 have k0:= @FF.eq_1;have k1:= @FG.eq_1;have g0:=Yo;have t0:=ih
 exact gs
theorem Mj : ∀ (s:List AJ) (fc0c0:List A1),Ok (Ci s fc0c0) Dn (dn AF Ku [.t (.sl false (s.map (AJ.row false))), .fn IZ [.pp [.fn Cr [[.sl false (fc0c0.map A1.row)]]]]]):=by
 intro s fc0c0
 rw[A7 AF (fn:=ET) rfl (xN rfl rfl _) (lB rfl)]
 have k0:= @ET.eq_1;have f0:= @Ci.eq_1;have t0:=Jr
 exact gs
theorem Js : ∀ (s:List AJ) (fc0c0:List A1),Ok (C7 s fc0c0) FU (dn AF Ib [.t (.sl false (s.map (AJ.row false))), .fn IZ [.pp [.fn Cr [[.sl false (fc0c0.map A1.row)]]]]]):=by
 intro s fc0c0
 rw[A7 AF (fn:=DQ) rfl (xN rfl rfl _) (lB rfl)]
 have k0:= @DQ.eq_1;have f0:= @C7.eq_1;have g0:=Mj
 exact gs
theorem hZ : ∀ (s:Eh) (l:List A1),Ok (NI s l) YZ (dn AF YA [.agg (((Eh.row false) s).map .t), .t (.sl false (l.map A1.row))]):=by
 intro s l
 rw[A7 AF (fn:=Pu) rfl (xN rfl rfl _) (lB rfl)]
 have k0:= @Pu.eq_1;have f0:= @NI.eq_1;have g0:=Js
 exact gs
theorem Vy : ∀ (s:List (Int)),Ok (H4 s) Qv (dn AF HN [.t (.sl false (s.map rI))]):=by
 intro s
 cases s with
 |nil=>
  intro r hr
  unfold H4 at hr
  obtain⟨_,_,h⟩:=Option.bind_eq_some_iff.1 hr
  cases h
  exact Jv AF.ft (xOf AF) (kG rfl)
 |cons x s=>
  simp only[List.map_cons]
  rw[A7 AF (fn:=Dx) rfl (cu rfl _ _) (Nat.le_of_ble_eq_true rfl)]
  simp only[Uj,RS,Qw,Dx,H4,reduceAdd,reduceSub,reduceMul,reduceLeDiff,reduceLT,reduceEqDiff,Nat.reduceBEq,↓reduceIte,reduceCtorEq]
  refine E6 fun a h=> ?_
  simp only[Uj,RS, *,reduceAdd,reduceSub,reduceMul,reduceLeDiff,reduceLT,reduceEqDiff,Nat.reduceBEq,↓reduceIte,reduceCtorEq]
  exact kH rfl
theorem Of : ∀ (s:List (List (Int))),Ok (Cj s) Pa (dn AF Gb [.t (.sl false (s.map (rL false rI)))]):=by
 intro s r hr
 unfold Cj at hr
 split at hr
 ·rename_i l m
  split at hr
  ·rename_i h
   cases hr
   refine Jv AF.ft (xOf AF) ?_
   have hl:∀k:List (Int),∀row∈k.map rI,row.length=1:=fun k row hrow=>by obtain⟨x,_,rfl⟩:=List.mem_map.1 hrow;first|rfl|(cases x<;>rfl)
   show Mx 1 8 [.t (.sl false [[.sl false (l.map rI)],[.sl false (m.map rI)]])]=some ⟨[.t (.sl true ((l++m).map rI))],[]⟩
   rw[Mx]
   rw[UY,if_pos ⟨⟨hl l,hl m⟩,by simpa using h⟩,List.map_append]
  ·cases hr
 ·rename_i l m q
  split at hr
  ·rename_i h
   cases hr
   refine Jv AF.ft (xOf AF) ?_
   have hl:∀k:List (Int),∀row∈k.map rI,row.length=1:=fun k row hrow=>by obtain⟨x,_,rfl⟩:=List.mem_map.1 hrow;first|rfl|(cases x<;>rfl)
   show Mx 1 8 [.t (.sl false [[.sl false (l.map rI)],[.sl false (m.map rI)],[.sl false (q.map rI)]])]=some ⟨[.t (.sl true ((l++m++q).map rI))],[]⟩
   rw[Mx]
   have e2:UY 1 8 [.t (.sl false [[.sl false (l.map rI)],[.sl false (m.map rI)],[.sl false (q.map rI)]])]=none:=rfl
   rw[e2]
   show Sd _ _ _=_
   rw[Sd,if_pos ⟨⟨hl l,hl m,hl q⟩,by simpa using h⟩,List.map_append,List.map_append]
  ·cases hr
 ·cases hr
theorem bI : (∀ (n:A0) (path:List Int) (out:List (List Int)),Ok (GP n path out) KK (dn AF Jw [.agg (((A0.row false) n).map .t), .t (.sl false (path.map rI)), .ln (out.map (rL true rI))]))∧
  (∀(path:List Int) (out1:List (List Int)) (n:A0) (x1:Int),Ok (F9 path out1 n x1) KK (ev AF Ts (.loop KR) [.lv 0, .th KS] (BE (List.replicate 32 .dead) [(1, .t (.sl false (path.map rI))),(2, .ref (2,0) out1.length),(15, .t (.sl false (n.Kids.map (A0.row false)))),(16, .t (.v (.int .i64 (AD n.Kids)))),(17, .t (.v (.int .i64 x1)))]) (BF (List.replicate 32 []) [(2,[.mem (out1.map (rL true rI)) 0 false])]))):=by
 unfold Ok
 refine GP.mutual_partial_correctness _ _ ?_ ?_
 ·intro F1 ih1 n path out
  show Ok _ _ _
  have ih1:∀(path:List Int) (out1:List (List Int)) (n:A0) (x1:Int),Ok (F1 path out1 n x1) _ _:=ih1
  rw[A7 AF (fn:=K1) rfl (xN rfl rfl _) (lB rfl)]
  have k0:= @K1.eq_1;have g0:=Vy;have t0:=ih1
  exact gs
 ·intro F0 F1 ih0 ih1 path out1 n x1
  show Ok _ _ _
  have ih0:∀(n:A0) (path:List Int) (out:List (List Int)),Ok (F0 n path out) _ _:=ih0
  have ih1:∀(path:List Int) (out1:List (List Int)) (n:A0) (x1:Int),Ok (F1 path out1 n x1) _ _:=ih1
  rw[AU]
  have k0:= @KR.eq_1;have k1:= @KS.eq_1;have g0:=Of;have g1:=ih0;have t0:=ih1
  exact gs
end TT
