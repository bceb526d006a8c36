import Derived.Test.YtpmnlfgdicmiiaaGreatDoorTLLf
set_option maxHeartbeats 2000000
set_option linter.unusedVariables false
set_option linter.unusedSimpArgs false
set_option linter.defProp false
set_option maxRecDepth 100000
namespace TT
open Go
open Nat (reduceAdd reduceSub reduceMul reduceLeDiff reduceLT reduceEqDiff)
theorem ZV (n:A0) (path:List Int) (out:List (List Int)):Ok (GP n path out) KK (dn AF Jw [.agg (((A0.row false) n).map .t), .t (.sl false (path.map rI)), .ln (out.map (rL true rI))]):=bI.1 n path out
theorem R2 : ∀ (n:A0),Ok (HH n) Wx (dn AF NO [.agg (((A0.row false) n).map .t)]):=by
 intro n
 rw[A7 AF (fn:=NV) rfl (xN rfl rfl _) (lB rfl)]
 have k0:= @NV.eq_1;have f0:= @HH.eq_1;have g0:=ZV
 exact gs
theorem VF : ∀ (s:List (A1)),Ok (G5 s) Pb (dn AF Ga [.t (.sl false (s.map A1.row))]):=by
 intro s
 cases s with
 |nil=>
  intro r hr
  unfold G5 at hr
  obtain⟨_,_,h⟩:=Option.bind_eq_some_iff.1 hr
  cases h
  exact Jv AF.ft (xOf AF) (kG rfl)
 |cons x s=>
  simp only[List.map_cons]
  rw[A7 AF (fn:=Db) rfl (cu rfl _ _) (Nat.le_of_ble_eq_true rfl)]
  simp only[Uj,RS,Pc,Db,G5,reduceAdd,reduceSub,reduceMul,reduceLeDiff,reduceLT,reduceEqDiff,Nat.reduceBEq,↓reduceIte,reduceCtorEq]
  refine E6 fun a h=> ?_
  simp only[Uj,RS, *,reduceAdd,reduceSub,reduceMul,reduceLeDiff,reduceLT,reduceEqDiff,Nat.reduceBEq,↓reduceIte,reduceCtorEq]
  exact kH rfl
theorem VG : ∀ (s:List (A3)),Ok (G6 s) Pe (dn AF GZ [.t (.sl false (s.map A3.row))]):=by
 intro s
 cases s with
 |nil=>
  intro r hr
  unfold G6 at hr
  obtain⟨_,_,h⟩:=Option.bind_eq_some_iff.1 hr
  cases h
  exact Jv AF.ft (xOf AF) (kG rfl)
 |cons x s=>
  simp only[List.map_cons]
  rw[A7 AF (fn:=Dc) rfl (cu rfl _ _) (Nat.le_of_ble_eq_true rfl)]
  simp only[Uj,RS,Pf,Dc,G6,reduceAdd,reduceSub,reduceMul,reduceLeDiff,reduceLT,reduceEqDiff,Nat.reduceBEq,↓reduceIte,reduceCtorEq]
  refine E6 fun a h=> ?_
  simp only[Uj,RS, *,reduceAdd,reduceSub,reduceMul,reduceLeDiff,reduceLT,reduceEqDiff,Nat.reduceBEq,↓reduceIte,reduceCtorEq]
  exact kH rfl
theorem Sl : (∀ (n:A0),Ok (EL n) NK (dn AF J1 [.agg (((A0.row false) n).map .t)]))∧
  (∀(l:List A0),Ok (KJ l) IN (dn AF LW [.t (.sl false (l.map (A0.row false)))]))∧
  (∀(out:List (A0)) (l:List A0) (x1:Int),Ok (FP out l x1) IN (ev AF RR (.loop Ig) [.lv 0, .th Ih] (BE (List.replicate 19 .dead) [(3, .ref (16,0) out.length),(6, .t (.sl false (l.map (A0.row false)))),(7, .t (.v (.int .i64 (AD l)))),(8, .t (.v (.int .i64 x1)))]) (BF (List.replicate 19 []) [(16,[.mem (out.map (A0.row true)) 0 false])]))):=by
 unfold Ok
 refine EL.mutual_partial_correctness _ _ _ ?_ ?_ ?_
 ·intro F1 ih1 n
  show Ok _ _ _
  have ih1:∀(l:List A0),Ok (F1 l) _ _:=ih1
  rw[A7 AF (fn:=J4) rfl (xN rfl rfl _) (lB rfl)]
  have k0:= @J4.eq_1;have g0:=VF;have g1:=VG;have g2:=ih1
  exact gs
 ·intro F2 ih2 l
  show Ok _ _ _
  have ih2:∀(out:List (A0)) (l:List A0) (x1:Int),Ok (F2 out l x1) _ _:=ih2
  rw[A7 AF (fn:=IK) rfl (xN rfl rfl _) (lB rfl)]
  have k0:= @IK.eq_1;have t0:=ih2
  exact gs
 ·intro F0 F2 ih0 ih2 out l x1
  show Ok _ _ _
  have ih0:∀(n:A0),Ok (F0 n) _ _:=ih0
  have ih2:∀(out:List (A0)) (l:List A0) (x1:Int),Ok (F2 out l x1) _ _:=ih2
  rw[AU]
  have k0:= @Ig.eq_1;have k1:= @Ih.eq_1;have g0:=ih0;have t0:=ih2
  exact gs
theorem Yp (n:A0):Ok (EL n) NK (dn AF J1 [.agg (((A0.row false) n).map .t)]):=Sl.1 n
theorem rZ (l:List A0):Ok (KJ l) IN (dn AF LW [.t (.sl false (l.map (A0.row false)))]):=Sl.2.1 l
theorem Yq (path:List Int):∀(x2:Int) (n1:A0),Ok (FQ path x2 n1) Rw (ev AF Wy (.loop N2) [.lv 0, .th N3] (BE (List.replicate 30 .dead) [(2, .ptr (2,0) [] 0 0 1 0),(4, .ptr (4,0) [] 0 0 1 0),(8, .t (.sl false (path.map rI))),(9, .t (.v (.int .i64 (AD path)))),(10, .t (.v (.int .i64 x2)))]) (BF (List.replicate 30 []) [(2,[.mem [[.v (.int .i64 n1.Kind), .v (.string n1.Pre), .v (.string n1.Local), .v (.string n1.Uri), .sl false (n1.Decls.map A1.row), .sl false (n1.Attrs.map A3.row), .sl false (n1.Kids.map (A0.row false)), .v (.string n1.Text)]] 0 false]),(4,[.mem [[.v (.int .i64 0), .v (.string (⟨#[]⟩)), .v (.string (⟨#[]⟩)), .v (.string (⟨#[]⟩)), .sl true [], .sl true [], .sl true [], .v (.string (⟨#[]⟩))]] 0 false])])):=by
 unfold Ok
 refine FQ.partial_correctness path _ ?_
 intro F ih x2 n1
 show Ok _ _ _
 have ih:∀(x2:Int) (n1:A0),Ok (F x2 n1) _ _:=ih
 rw[AU]
 have k0:= @N2.eq_1;have k1:= @N3.eq_1;have g0:=R0;have g1:=Yp;have t0:=ih
 exact gs
theorem Mk : ∀ (n:A0) (path:List Int),Ok (HJ n path) Rw (dn AF JY [.agg (((A0.row false) n).map .t), .t (.sl false (path.map rI))]):=by
 intro n path
 rw[A7 AF (fn:=Nc) rfl (xN rfl rfl _) (lB rfl)]
 have k0:= @Nc.eq_1;have f0:= @HJ.eq_1;have t0:=Yq
 exact gs
theorem eE : ∀ (s:ByteArray) (t:ByteArray),Ok (strings_Cut s t) Rx (dn AF Ri [.t (.v (.string s)), .t (.v (.string t))]):=by
 intro s t r hr
 exact Jv AF.ft (xOf AF) (zE s t (e:=Rx) (fun _=>rfl) hr)
theorem Yr : ∀ (s:ByteArray),Ok (Ql s) Si (dn AF Se [.t (.v (.string s))]):=by
 intro s
 rw[A7 AF (fn:=J7) rfl (xN rfl rfl _) (lB rfl)]
 have k0:= @J7.eq_1;have f0:= @Ql.eq_1;have g0:=Ec;have g1:=eE
 exact gs
theorem Vz : ∀ (pre:ByteArray) (local1:ByteArray) (s:ByteArray),Ok (JF pre local1 s) PP (ev AF Tt KT [] (BE (List.replicate 35 .dead) [(0, .t (.v (.string pre))),(1, .t (.v (.string local1))),(5, .t (.v (.string s)))]) (BF (List.replicate 35 []) [])):=by
 intro pre local1 s
 have k0:= @KT.eq_1;have f0:= @JF.eq_1;have g0:=Yr
 exact gs
theorem ZW : ∀ (pre:ByteArray) (local1:ByteArray),Ok (O9 pre local1) PP (dn AF Ot [.t (.v (.string pre)), .t (.v (.string local1))]):=by
 intro pre local1
 rw[A7 AF (fn:=K9) rfl (xN rfl rfl _) (lB rfl)]
 have k0:= @K9.eq_1;have f0:= @O9.eq_1;have t0:=Vz
 exact gs
theorem bJ : ∀ (d:Bh) (a1:ByteArray) (a2:ByteArray),Ok (TK d a1 a2) V2 (dn AF LV [.agg ((Bh.row d).map .t), .lp [.v (.string a1)] 0, .lp [.v (.string a2)] 0]):=by
 intro d a1 a2
 rw[A7 AF (fn:=ME) rfl (xN rfl rfl _) (lB rfl)]
 have k0:= @ME.eq_1;have f0:= @TK.eq_1
 exact gs
theorem Kk (s:List Bh):∀(x1:Int) (f:ByteArray) (f1:ByteArray),Ok (CE s x1 f f1) E1 (ev AF H6 (.loop Fh) [.lv 0, .th Fi] (BE (List.replicate 19 .dead) [(0, .t (.sl false (s.map Bh.row))),(1, .fn LV [.ptr (1,0) [] 0 0 1 0, .ptr (1,1) [] 0 0 1 0]),(7, .t (.v (.int .i64 (AD s)))),(8, .t (.v (.int .i64 x1)))]) (BF (List.replicate 19 []) [(1,[.mem [[.v (.string f)]] 0 true, .mem [[.v (.string f1)]] 0 true])])):=by
 unfold Ok
 refine CE.partial_correctness s _ ?_
 intro F ih x1 f f1
 show Ok _ _ _
 have ih:∀(x1:Int) (f:ByteArray) (f1:ByteArray),Ok (F x1 f f1) _ _:=ih
 rw[AU]
 have k0:= @Fh.eq_1;have k1:= @Fi.eq_1;have g0:=bJ;have t0:=ih
 exact gs
theorem Mm : ∀ (s:List Bh) (fc0:ByteArray) (fc1:ByteArray),Ok (Ea s fc0 fc1) E1 (dn AF LX [.t (.sl false (s.map Bh.row)), .fn LV [.lp [.v (.string fc0)] 0, .lp [.v (.string fc1)] 0]]):=by
 intro s fc0 fc1
 rw[A7 AF (fn:=Ek) rfl (xN rfl rfl _) (lB rfl)]
 have k0:= @Ek.eq_1;have f0:= @Ea.eq_1;have t0:=Kk
 exact gs
theorem i6 : ∀ (l:List Bh) (el:ByteArray) (at1:ByteArray),Ok (XD l el at1) Ya (dn AF Y7 [.t (.sl false (l.map Bh.row)), .t (.v (.string el)), .t (.v (.string at1))]):=by
 intro l el at1
 rw[A7 AF (fn:=Q1) rfl (xN rfl rfl _) (lB rfl)]
 have k0:= @Q1.eq_1;have f0:= @XD.eq_1;have g0:=Mm
 exact gs
theorem ZX (n:A0) (h:D2):∀(out:List (A3)) (x1:Int),Ok (GQ out n x1 h) TR (ev AF Yb (.loop PE) [.lv 0, .th PF] (BE (List.replicate 50 .dead) [(2, .ptr (2,0) [] 0 0 1 0),(3, .ptr (3,0) [] 0 0 1 0),(5, .ref (10,0) out.length),(12, .t (.sl false (n.Attrs.map A3.row))),(13, .t (.v (.int .i64 (AD n.Attrs)))),(14, .t (.v (.int .i64 x1)))]) (BF (List.replicate 50 []) [(2,[.mem [[.v (.int .i64 n.Kind), .v (.string n.Pre), .v (.string n.Local), .v (.string n.Uri), .sl false (n.Decls.map A1.row), .sl false (n.Attrs.map A3.row), .sl false (n.Kids.map (A0.row false)), .v (.string n.Text)]] 0 false]),(3,[.mem [[.v (.string h.Name), .sl false (h.Ents.map Fg.row), .sl false (h.Defs.map Bh.row)]] 0 false]),(10,[.mem (out.map A3.row) 0 false])])):=by
 unfold Ok
 refine GQ.partial_correctness n h _ ?_
 intro F ih out x1
 show Ok _ _ _
 have ih:∀(out:List (A3)) (x1:Int),Ok (F out x1) _ _:=ih
 rw[AU]
 have k0:= @PE.eq_1;have k1:= @PF.eq_1;have g0:=ZW;have g1:=i6;have t0:=ih
 exact gs
theorem i7 : ∀ (n:A0) (h:D2),Ok (XE n h) TR (dn AF Y9 [.agg (((A0.row false) n).map .t), .agg (((D2.row false) h).map .t)]):=by
 intro n h
 rw[A7 AF (fn:=Pw) rfl (xN rfl rfl _) (lB rfl)]
 have k0:= @Pw.eq_1;have f0:= @XE.eq_1;have t0:=ZX
 exact gs
theorem S7 : ∀ (a:A3) (a1:ByteArray),Ok (I8 a a1) Kz (dn AF Dt [.agg ((A3.row a).map .t), .pp [.v (.string a1)]]):=by
 intro a a1
 rw[A7 AF (fn:=FZ) rfl (xN rfl rfl _) (lB rfl)]
 have k0:= @FZ.eq_1;have f0:= @I8.eq_1
 exact gs
theorem Hj (s:List A3) (fc0:ByteArray):∀(x1:Int),Ok (BC s fc0 x1) CP (ev AF EM (.loop FH) [.lv 0, .th FI] (BE (List.replicate 19 .dead) [(0, .t (.sl false (s.map A3.row))),(1, .fn Dt [.pp [.v (.string fc0)]]),(7, .t (.v (.int .i64 (AD s)))),(8, .t (.v (.int .i64 x1)))]) (BF (List.replicate 19 []) [])):=by
 unfold Ok
 refine BC.partial_correctness s fc0 _ ?_
 intro F ih x1
 show Ok _ _ _
 have ih:∀(x1:Int),Ok (F x1) _ _:=ih
 rw[AU]
 have k0:= @FH.eq_1;have k1:= @FI.eq_1;have g0:=S7;have t0:=ih
 exact gs
theorem IQ : ∀ (s:List A3) (fc0:ByteArray),Ok (Cf s fc0) CP (dn AF Kt [.t (.sl false (s.map A3.row)), .fn Dt [.pp [.v (.string fc0)]]]):=by
 intro s fc0
 rw[A7 AF (fn:=EU) rfl (xN rfl rfl _) (lB rfl)]
 have k0:= @EU.eq_1;have f0:= @Cf.eq_1;have t0:=Hj
 exact gs
theorem Hk : ∀ (s:List A3) (fc0:ByteArray),Ok (C9 s fc0) Dj (dn AF Ia [.t (.sl false (s.map A3.row)), .fn Dt [.pp [.v (.string fc0)]]]):=by
 intro s fc0
 rw[A7 AF (fn:=DR) rfl (xN rfl rfl _) (lB rfl)]
 have k0:= @DR.eq_1;have f0:= @C9.eq_1;have g0:=IQ
 exact gs
theorem R3 (f:AP) (id:ByteArray) (r:List (List Int)):∀(x1:Int),Ok (EW f id r x1) I9 (ev AF Mp (.loop Gv) [.lv 0, .th Gw] (BE (List.replicate 42 .dead) [(0, .pp [.v (.int .i64 f.xt.Kind), .v (.string f.xt.Pre), .v (.string f.xt.Local), .v (.string f.xt.Uri), .sl false (f.xt.Decls.map A1.row), .sl false (f.xt.Attrs.map A3.row), .sl false (f.xt.Kids.map (A0.row false)), .v (.string f.xt.Text), .v (.string f.xh.Name), .sl false (f.xh.Ents.map Fg.row), .sl false (f.xh.Defs.map Bh.row), .sl false (f.xl.map A1.row)]),(3, .pp [.v (.string id)]),(16, .t (.sl false (r.map (rL false rI)))),(17, .t (.v (.int .i64 (AD r)))),(18, .t (.v (.int .i64 x1)))]) (BF (List.replicate 42 []) [(3,[.dead])])):=by
 unfold Ok
 refine EW.partial_correctness f id r _ ?_
 intro F ih x1
 show Ok _ _ _
 have ih:∀(x1:Int),Ok (F x1) _ _:=ih
 rw[AU]
 have k0:= @Gv.eq_1;have k1:= @Gw.eq_1;have g0:=Mk;have g1:=i7;have g2:=Hk;have t0:=ih
 exact gs
theorem TU : ∀ (f:AP) (id:ByteArray),Ok (Gh f id) I9 (dn AF PU [.pp [.v (.int .i64 f.xt.Kind), .v (.string f.xt.Pre), .v (.string f.xt.Local), .v (.string f.xt.Uri), .sl false (f.xt.Decls.map A1.row), .sl false (f.xt.Attrs.map A3.row), .sl false (f.xt.Kids.map (A0.row false)), .v (.string f.xt.Text), .v (.string f.xh.Name), .sl false (f.xh.Ents.map Fg.row), .sl false (f.xh.Defs.map Bh.row), .sl false (f.xl.map A1.row)], .t (.v (.string id))]):=by
 intro f id
 rw[A7 AF (fn:=Gd) rfl (xN rfl rfl _) (lB rfl)]
 have k0:= @Gd.eq_1;have f0:= @Gh.eq_1;have g0:=R2;have t0:=R3
 exact gs
end TT
