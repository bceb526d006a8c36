import Derived.Test.YtpmnlfgdicmiiaaGreatDoorTLLd
set_option maxHeartbeats 2000000
set_option linter.unusedVariables false
set_option linter.unusedSimpArgs false
set_option linter.defProp false
set_option maxRecDepth 100000
namespace TT
open Go
open Nat (reduceAdd reduceSub reduceMul reduceLeDiff reduceLT reduceEqDiff)
theorem XQ (l:List A1):∀(x2:Int),Ok (Dh l x2) Qs (ev AF Uz (.loop M2) [.lv 0, .th M3] (BE (List.replicate 34 .dead) [(0, .t (.sl false (l.map A1.row))),(5, .t (.sl false (l.map A1.row))),(6, .t (.v (.int .i64 (AD l)))),(7, .t (.v (.int .i64 x2)))]) (BF (List.replicate 34 []) [])):=by
 unfold Ok
 refine Dh.partial_correctness l _ ?_
 intro F ih x2
 show Ok _ _ _
 have ih:∀(x2:Int),Ok (F x2) _ _:=ih
 rw[AU]
 have k0:= @M2.eq_1;have k1:= @M3.eq_1;have g0:=dt;have t0:=ih
 exact gs
theorem bG : ∀ (l:List A1),Ok (QD l) Qs (dn AF Ub [.t (.sl false (l.map A1.row))]):=by
 intro l
 rw[A7 AF (fn:=M4) rfl (xN rfl rfl _) (lB rfl)]
 have k0:= @M4.eq_1;have f0:= @QD.eq_1;have t0:=XQ
 exact gs
theorem du : ∀ (a:A3),Ok (In a) Wq (dn AF WJ [.agg ((A3.row a).map .t)]):=by
 intro a
 rw[A7 AF (fn:=Nx) rfl (xN rfl rfl _) (lB rfl)]
 have k0:= @Nx.eq_1;have f0:= @In.eq_1;have g0:=Rz;have g1:=S6;have g2:=Ec;have g3:=H7
 exact gs
theorem XR : ∀ (s:ByteArray) (t:ByteArray),Ok (strings_Compare s t) Mf (dn AF IG [.t (.v (.string s)), .t (.v (.string t))]):=by
 intro s t r hr
 exact Jv AF.ft (xOf AF) (kZ s t (e:=Mf) (fun _=>rfl) hr)
theorem VE : ∀ (a:A3) (b:A3),Ok (G3 a b) PZ (dn AF PT [.agg ((A3.row a).map .t), .agg ((A3.row b).map .t)]):=by
 intro a b
 rw[A7 AF (fn:=Gf) rfl (xN rfl rfl _) (lB rfl)]
 have k0:= @Gf.eq_1;have f0:= @G3.eq_1;have g0:=XR
 exact gs
theorem XS (l:List A3):∀(x2:Int),Ok (Di l x2) Qt (ev AF V0 (.loop M5) [.lv 0, .th M6] (BE (List.replicate 33 .dead) [(0, .t (.sl false (l.map A3.row))),(5, .t (.sl false (l.map A3.row))),(6, .t (.v (.int .i64 (AD l)))),(7, .t (.v (.int .i64 x2)))]) (BF (List.replicate 33 []) [])):=by
 unfold Ok
 refine Di.partial_correctness l _ ?_
 intro F ih x2
 show Ok _ _ _
 have ih:∀(x2:Int),Ok (F x2) _ _:=ih
 rw[AU]
 have k0:= @M5.eq_1;have k1:= @M6.eq_1;have g0:=du;have g1:=VE;have t0:=ih
 exact gs
theorem bH : ∀ (l:List A3),Ok (MW l) Qt (dn AF Ud [.t (.sl false (l.map A3.row))]):=by
 intro l
 rw[A7 AF (fn:=M7) rfl (xN rfl rfl _) (lB rfl)]
 have k0:= @M7.eq_1;have f0:= @MW.eq_1;have t0:=XS
 exact gs
theorem U3 (l:List A0):∀(x2:Int),Ok (Bk l x2) Mg (ev AF RQ (.loop Ie) [.lv 0, .th If] (BE (List.replicate 29 .dead) [(0, .t (.sl false (l.map (A0.row false)))),(5, .t (.sl false (l.map (A0.row false)))),(6, .t (.v (.int .i64 (AD l)))),(7, .t (.v (.int .i64 x2)))]) (BF (List.replicate 29 []) [])):=by
 unfold Ok
 refine Bk.partial_correctness l _ ?_
 intro F ih x2
 show Ok _ _ _
 have ih:∀(x2:Int),Ok (F x2) _ _:=ih
 rw[AU]
 have k0:= @Ie.eq_1;have k1:= @If.eq_1;have t0:=ih
 exact gs
theorem XT : ∀ (l:List A0),Ok (Hs l) Mg (dn AF RG [.t (.sl false (l.map (A0.row false)))]):=by
 intro l
 rw[A7 AF (fn:=IJ) rfl (xN rfl rfl _) (lB rfl)]
 have k0:= @IJ.eq_1;have f0:= @Hs.eq_1;have t0:=U3
 exact gs
theorem Jq : (∀ (n:A0) (deep:Int),Ok (EJ n deep) Rr (dn AF NP [.agg (((A0.row false) n).map .t), .t (.v (.int .i64 deep))]))∧
  (∀(s:List A0) (fc0:Int),Ok (C2 s fc0) Ct (dn AF FD [.t (.sl false (s.map (A0.row false))), .fn De [.lp [.v (.int .i64 fc0)] 0]]))∧
  (∀(s:List A0) (fc0:Int),Ok (CY s fc0) C8 (dn AF Gq [.t (.sl false (s.map (A0.row false))), .fn De [.lp [.v (.int .i64 fc0)] 0]]))∧
  (∀(s:List A0) (x1:Int) (f:Int),Ok (Ac s x1 f) C8 (ev AF GA (.loop FJ) [.lv 0, .th FL] (BE (List.replicate 19 .dead) [(0, .t (.sl false (s.map (A0.row false)))),(1, .fn De [.ptr (1,0) [] 0 0 1 0]),(7, .t (.v (.int .i64 (AD s)))),(8, .t (.v (.int .i64 x1)))]) (BF (List.replicate 19 []) [(1,[.mem [[.v (.int .i64 f)]] 0 true])])))∧
  (∀(k:A0) (a1:Int),Ok (O8 k a1) PO (dn AF De [.agg (((A0.row false) k).map .t), .lp [.v (.int .i64 a1)] 0]))∧
  (∀(n:A0) (deep:Int),Ok (Bc n deep) Rs (dn AF NR [.agg (((A0.row false) n).map .t), .t (.v (.int .i64 deep))])):=by
 unfold Ok
 refine EJ.mutual_partial_correctness _ _ _ _ _ _ ?_ ?_ ?_ ?_ ?_ ?_
 ·intro F1 ih1 n deep
  show Ok _ _ _
  have ih1:∀(s:List A0) (fc0:Int),Ok (F1 s fc0) _ _:=ih1
  rw[A7 AF (fn:=Nl) rfl (xN rfl rfl _) (lB rfl)]
  have k0:= @Nl.eq_1;have g0:=XT;have g1:=ih1
  exact gs
 ·intro F2 ih2 s fc0
  show Ok _ _ _
  have ih2:∀(s:List A0) (fc0:Int),Ok (F2 s fc0) _ _:=ih2
  rw[A7 AF (fn:=DS) rfl (xN rfl rfl _) (lB rfl)]
  have k0:= @DS.eq_1;have g0:=ih2
  exact gs
 ·intro F3 ih3 s fc0
  show Ok _ _ _
  have ih3:∀(s:List A0) (x1:Int) (f:Int),Ok (F3 s x1 f) _ _:=ih3
  rw[A7 AF (fn:=EV) rfl (xN rfl rfl _) (lB rfl)]
  have k0:= @EV.eq_1;have t0:=ih3
  exact gs
 ·intro F3 F4 ih3 ih4 s x1 f
  show Ok _ _ _
  have ih4:∀(k:A0) (a1:Int),Ok (F4 k a1) _ _:=ih4
  have ih3:∀(s:List A0) (x1:Int) (f:Int),Ok (F3 s x1 f) _ _:=ih3
  rw[AU]
  have k0:= @FJ.eq_1;have k1:= @FL.eq_1;have g0:=ih4;have t0:=ih3
  exact gs
 ·intro F5 ih5 k a1
  show Ok _ _ _
  have ih5:∀(n:A0) (deep:Int),Ok (F5 n deep) _ _:=ih5
  rw[A7 AF (fn:=KF) rfl (xN rfl rfl _) (lB rfl)]
  have k0:= @KF.eq_1;have g0:=ih5
  exact gs
 ·intro F0 ih0 n deep
  show Ok _ _ _
  have ih0:∀(n:A0) (deep:Int),Ok (F0 n deep) _ _:=ih0
  rw[A7 AF (fn:=Nj) rfl (xN rfl rfl _) (lB rfl)]
  have k0:= @Nj.eq_1;have g0:=dq;have g1:=Rz;have g2:=S6;have g3:=Ec;have g4:=bG;have g5:=bH;have g6:=ih0
  exact gs
theorem dv (n:A0) (deep:Int):Ok (EJ n deep) Rr (dn AF NP [.agg (((A0.row false) n).map .t), .t (.v (.int .i64 deep))]):=Jq.1 n deep
theorem Vw (s:List A0) (fc0:Int):Ok (C2 s fc0) Ct (dn AF FD [.t (.sl false (s.map (A0.row false))), .fn De [.lp [.v (.int .i64 fc0)] 0]]):=Jq.2.1 s fc0
theorem Xj (s:List A0) (fc0:Int):Ok (CY s fc0) C8 (dn AF Gq [.t (.sl false (s.map (A0.row false))), .fn De [.lp [.v (.int .i64 fc0)] 0]]):=Jq.2.2.1 s fc0
theorem uv (k:A0) (a1:Int):Ok (O8 k a1) PO (dn AF De [.agg (((A0.row false) k).map .t), .lp [.v (.int .i64 a1)] 0]):=Jq.2.2.2.2.1 k a1
theorem dw (n:A0) (deep:Int):Ok (Bc n deep) Rs (dn AF NR [.agg (((A0.row false) n).map .t), .t (.v (.int .i64 deep))]):=Jq.2.2.2.2.2 n deep
theorem Yl (kind:Int) (l:List A0):∀(n:Int) (x1:Int),Ok (EK kind n l x1) Rt (ev AF Ws (.loop N8) [.lv 0, .th N9] (BE (List.replicate 22 .dead) [(1, .t (.v (.int .i64 kind))),(5, .t (.v (.int .i64 n))),(8, .t (.sl false (l.map (A0.row false)))),(9, .t (.v (.int .i64 (AD l)))),(10, .t (.v (.int .i64 x1)))]) (BF (List.replicate 22 []) [])):=by
 unfold Ok
 refine EK.partial_correctness kind l _ ?_
 intro F ih n x1
 show Ok _ _ _
 have ih:∀(n:Int) (x1:Int),Ok (F n x1) _ _:=ih
 rw[AU]
 have k0:= @N8.eq_1;have k1:= @N9.eq_1;have t0:=ih
 exact gs
theorem dz : ∀ (l:List A0) (kind:Int),Ok (Kx l kind) Rt (dn AF Rf [.t (.sl false (l.map (A0.row false))), .t (.v (.int .i64 kind))]):=by
 intro l kind
 rw[A7 AF (fn:=Nk) rfl (xN rfl rfl _) (lB rfl)]
 have k0:= @Nk.eq_1;have f0:= @Kx.eq_1;have t0:=Yl
 exact gs
theorem XU : ∀ (bare:Bool) (n:A0),Ok (BV bare n) Ru (ev AF Wt Ld [] (BE (List.replicate 59 .dead) [(1, .ptr (1,0) [] 0 0 1 0),(3, .t (.v (.bool bare)))]) (BF (List.replicate 59 []) [(1,[.mem [[.v (.int .i64 n.Kind), .v (.string n.Pre), .v (.string n.Local), .v (.string n.Uri), .sl false (n.Decls.map A1.row), .sl false (n.Attrs.map A3.row), .sl false (n.Kids.map (A0.row false)), .v (.string n.Text)]] 0 false])])):=by
 intro bare n
 have k0:= @Ld.eq_1;have f0:= @BV.eq_1;have g0:=dz;have g1:=dv
 exact gs
theorem e9 : ∀ (n:A0),Ok (G4 n) Ru (dn AF WH [.agg (((A0.row false) n).map .t)]):=by
 intro n
 rw[A7 AF (fn:=Na) rfl (xN rfl rfl _) (lB rfl)]
 have k0:= @Na.eq_1;have f0:= @G4.eq_1;have g0:=bC;have g1:=dw;have t0:=XU
 exact gs
theorem eA : ∀ (n:A0) (l:List (A1)),Ok (RP n l) Wu (dn AF Rd [.agg (((A0.row false) n).map .t), .t (.sl false (l.map A1.row))]):=by
 intro n l r hr
 refine Jv AF.ft (xOf AF) ?_
 have hp:∀k:List (A1),Fp (k.map A1.row)=some (k.map fun x=>(x.Pre,x.Uri)):=fun k=>by
  induction k with
  |nil=>rfl
  |cons x k ih=>show(Fp (k.map A1.row)).map _=_;rw[ih];rfl
 show d9 [.agg (((A0.row false) n).map .t), .t (.sl false (l.map A1.row))]=some ⟨[.t (.v (.bool r))],[]⟩
 have hr':OQ ((A0.row false) n) (l.map fun x=>(x.Pre,x.Uri))=some r:=hr
 rw[d9,uR,hp]
 simp only[hr',Option.map_some]
theorem eB : ∀ (n:A0),Ok (Io n) Wv (dn AF WI [.agg (((A0.row false) n).map .t)]):=by
 intro n
 rw[A7 AF (fn:=NX) rfl (xN rfl rfl _) (lB rfl)]
 have k0:= @NX.eq_1;have f0:= @Io.eq_1;have g0:=e9;have g1:=eA
 exact gs
theorem R1 : ∀ (pre:ByteArray) (local1:ByteArray),Ok (OZ pre local1) Ww (dn AF NQ [.t (.v (.string pre)), .t (.v (.string local1))]):=by
 intro pre local1
 rw[A7 AF (fn:=Nm) rfl (xN rfl rfl _) (lB rfl)]
 have k0:= @Nm.eq_1;have f0:= @OZ.eq_1;have g0:=Ec
 exact gs
theorem X2 : ∀ (s:ByteArray),Ok (Ip s) YX (dn AF Pq [.t (.v (.string s))]):=by
 intro s
 rw[A7 AF (fn:=Pv) rfl (xN rfl rfl _) (lB rfl)]
 have k0:= @Pv.eq_1;have f0:= @Ip.eq_1;have g0:=H7;have g1:=JS
 exact gs
theorem XV : ∀ (named:Bool) (element:Bool) (p:AH) (x:Bool),Ok (KI named element p x) Jo (ev AF OE ML [.lv 0, .th ND] (BE (List.replicate 75 .dead) [(2, .ptr (2,0) [] 0 0 1 0),(5, .t (.v (.bool named))),(6, .t (.v (.bool element))),(22, .t (.v (.int .i64 p.Kind))),(37, .t (.v (.bool x)))]) (BF (List.replicate 75 []) [(2,[.mem [[.v (.int .i64 p.Kind), .v (.int .i64 p.N), .v (.string p.Pre), .v (.string p.Local), .v (.string p.Val)]] 0 false])])):=by
 intro named element p x
 have k0:= @ML.eq_1;have k1:= @ND.eq_1;have f0:= @KI.eq_1;have g0:=R1;have g1:=X2
 exact gs
theorem Ym : ∀ (named:Bool) (element:Bool) (p:AH),Ok (MX named element p) Jo (ev AF OE NE [] (BE (List.replicate 75 .dead) [(2, .ptr (2,0) [] 0 0 1 0),(5, .t (.v (.bool named))),(6, .t (.v (.bool element)))]) (BF (List.replicate 75 []) [(2,[.mem [[.v (.int .i64 p.Kind), .v (.int .i64 p.N), .v (.string p.Pre), .v (.string p.Local), .v (.string p.Val)]] 0 false])])):=by
 intro named element p
 have k0:= @NE.eq_1;have f0:= @MX.eq_1;have g0:=R0;have t0:=XV
 exact gs
end TT
