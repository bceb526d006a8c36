import Derived.Test.YtpmnlfgdicmiiaaGreatDoorTLLc
set_option maxHeartbeats 2000000
set_option linter.unusedVariables false
set_option linter.unusedSimpArgs false
set_option linter.defProp false
set_option maxRecDepth 100000
namespace TT
open Go
open Nat (reduceAdd reduceSub reduceMul reduceLeDiff reduceLT reduceEqDiff)
theorem L7 : ∀ (s:List A8) (fc0:Int),Ok (CV s fc0) DX (dn AF JZ [.t (.sl false (s.map A8.row)), .fn IY [.lp [.v (.int .i64 fc0)] 0]]):=by
 intro s fc0
 rw[A7 AF (fn:=E7) rfl (xN rfl rfl _) (lB rfl)]
 have k0:= @E7.eq_1;have f0:= @CV.eq_1;have t0:=JQ
 exact gs
theorem JR : ∀ (s:List A8) (fc0:Int),Ok (C1 s fc0) Ey (dn AF IF [.t (.sl false (s.map A8.row)), .fn IY [.lp [.v (.int .i64 fc0)] 0]]):=by
 intro s fc0
 rw[A7 AF (fn:=DB) rfl (xN rfl rfl _) (lB rfl)]
 have k0:= @DB.eq_1;have f0:= @C1.eq_1;have g0:=L7
 exact gs
theorem Ry : ∀ (n:Int) (ranges:List A8),Ok (Kb n ranges) YT (dn AF Pn [.t (.v (.int .i64 n)), .t (.sl false (ranges.map A8.row))]):=by
 intro n ranges
 rw[A7 AF (fn:=Q7) rfl (xN rfl rfl _) (lB rfl)]
 have k0:= @Q7.eq_1;have f0:= @Kb.eq_1;have g0:=JR
 exact gs
theorem dj : ∀ (n:Int),Ok (OX n) Wj (dn AF WG [.t (.v (.int .i64 n))]):=by
 intro n
 rw[A7 AF (fn:=Ny) rfl (xN rfl rfl _) (lB rfl)]
 have k0:= @Ny.eq_1;have f0:= @OX.eq_1;have g0:=Ry
 exact gs
theorem XO (s:ByteArray):∀(at1:Int),Ok (D0 s at1) Qq (ev AF Uv (.loop M9) [.lv 0, .th MA] (BE (List.replicate 26 .dead) [(0, .t (.v (.string s))),(3, .t (.v (.int .i64 at1)))]) (BF (List.replicate 26 []) [])):=by
 unfold Ok
 refine D0.partial_correctness s _ ?_
 intro F ih at1
 show Ok _ _ _
 have ih:∀(at1:Int),Ok (F at1) _ _:=ih
 rw[AU]
 have k0:= @M9.eq_1;have k1:= @MA.eq_1;have g0:=VA;have g1:=dj;have t0:=ih
 exact gs
theorem bE : ∀ (s:ByteArray),Ok (JA s) Qq (dn AF Uf [.t (.v (.string s))]):=by
 intro s
 rw[A7 AF (fn:=MB) rfl (xN rfl rfl _) (lB rfl)]
 have k0:= @MB.eq_1;have f0:= @JA.eq_1;have t0:=XO
 exact gs
theorem H7 : ∀ (s:ByteArray),Ok (D8 s) Wk (dn AF GM [.t (.v (.string s))]):=by
 intro s
 rw[A7 AF (fn:=Nn) rfl (xN rfl rfl _) (lB rfl)]
 have k0:= @Nn.eq_1;have f0:= @D8.eq_1;have g0:=bE
 exact gs
theorem JS : ∀ (s:ByteArray) (t:ByteArray),Ok (strings_Contains s t) Kf (dn AF CJ [.t (.v (.string s)), .t (.v (.string t))]):=by
 intro s t r hr
 exact Jv AF.ft (xOf AF) (gF s t (e:=Kf) (fun _=>rfl) hr)
theorem L8 : ∀ (s:ByteArray) (suffix:ByteArray),Ok (CW s suffix) G8 (dn AF Fs [.t (.v (.string s)), .t (.v (.string suffix))]):=by
 intro s suffix
 rw[A7 AF (fn:=C6) rfl (xN rfl rfl _) (lB rfl)]
 have k0:= @C6.eq_1;have f0:= @CW.eq_1
 exact gs
theorem VB : ∀ (s:ByteArray) (suffix:ByteArray),Ok (G0 s suffix) PX (dn AF PW [.t (.v (.string s)), .t (.v (.string suffix))]):=by
 intro s suffix
 rw[A7 AF (fn:=Gg) rfl (xN rfl rfl _) (lB rfl)]
 have k0:= @Gg.eq_1;have f0:= @G0.eq_1;have g0:=L8
 exact gs
theorem dk : ∀ (s:ByteArray),Ok (RN s) Wl (dn AF WL [.t (.v (.string s))]):=by
 intro s
 rw[A7 AF (fn:=Nu) rfl (xN rfl rfl _) (lB rfl)]
 have k0:= @Nu.eq_1;have f0:= @RN.eq_1;have g0:=H7;have g1:=JS;have g2:=VB
 exact gs
theorem Ty : ∀ (n:Int),Ok (JB n) Uw (dn AF QY [.t (.v (.int .i64 n))]):=by
 intro n
 rw[A7 AF (fn:=M8) rfl (xN rfl rfl _) (lB rfl)]
 have k0:= @M8.eq_1;have f0:= @JB.eq_1;have g0:=Ry
 exact gs
theorem dl : ∀ (n:Int),Ok (Kw n) Wm (dn AF WF [.t (.v (.int .i64 n))]):=by
 intro n
 rw[A7 AF (fn:=Nt) rfl (xN rfl rfl _) (lB rfl)]
 have k0:= @Nt.eq_1;have f0:= @Kw.eq_1;have g0:=Ty;have g1:=Ry
 exact gs
theorem XP (s:ByteArray):∀(at1:Int),Ok (D1 s at1) Qr (ev AF Ux (.loop Lu) [.lv 0, .th Lv] (BE (List.replicate 38 .dead) [(0, .t (.v (.string s))),(3, .t (.v (.int .i64 at1)))]) (BF (List.replicate 38 []) [])):=by
 unfold Ok
 refine D1.partial_correctness s _ ?_
 intro F ih at1
 show Ok _ _ _
 have ih:∀(at1:Int),Ok (F at1) _ _:=ih
 rw[AU]
 have k0:= @Lu.eq_1;have k1:= @Lv.eq_1;have g0:=VA;have g1:=Ty;have g2:=dl;have g3:=R0;have t0:=ih
 exact gs
theorem Ec : ∀ (s:ByteArray),Ok (BR s) Qr (dn AF Bw [.t (.v (.string s))]):=by
 intro s
 rw[A7 AF (fn:=Lw) rfl (xN rfl rfl _) (lB rfl)]
 have k0:= @Lw.eq_1;have f0:= @BR.eq_1;have t0:=XP
 exact gs
theorem VC : ∀ (s:ByteArray) (t:ByteArray),Ok (strings_EqualFold s t) JN (dn AF JM [.t (.v (.string s)), .t (.v (.string t))]):=by
 intro s t r hr
 exact Jv AF.ft (xOf AF) (uQ s t (e:=JN) (fun _=>rfl) hr)
theorem bF : ∀ (n:Int),Ok (JC n) Uy (dn AF Uc [.t (.v (.int .i64 n))]):=by
 intro n
 rw[A7 AF (fn:=MK) rfl (xN rfl rfl _) (lB rfl)]
 have k0:= @MK.eq_1;have f0:= @JC.eq_1
 exact gs
theorem dm : ∀ (local1:ByteArray) (s:ByteArray),Ok (RO local1 s) Wn (dn AF WO [.t (.v (.string local1)), .t (.v (.string s))]):=by
 intro local1 s
 rw[A7 AF (fn:=Nv) rfl (xN rfl rfl _) (lB rfl)]
 have k0:= @Nv.eq_1;have f0:= @RO.eq_1;have g0:=Ec;have g1:=VC;have g2:=H7;have g3:=JS;have g4:=bF
 exact gs
theorem Yk : ∀ (n:A0),Ok (FO n) Rq (ev AF Wo NA [] (BE (List.replicate 63 .dead) [(1, .ptr (1,0) [] 0 0 1 0)]) (BF (List.replicate 63 []) [(1,[.mem [[.v (.int .i64 n.Kind), .v (.string n.Pre), .v (.string n.Local), .v (.string n.Uri), .sl false (n.Decls.map A1.row), .sl false (n.Attrs.map A3.row), .sl false (n.Kids.map (A0.row false)), .v (.string n.Text)]] 0 false])])):=by
 intro n
 have k0:= @NA.eq_1;have f0:= @FO.eq_1;have g0:=H7;have g1:=dk;have g2:=dm
 exact gs
theorem dq : ∀ (n:A0),Ok (G1 n) Rq (dn AF WK [.agg (((A0.row false) n).map .t)]):=by
 intro n
 rw[A7 AF (fn:=Nr) rfl (xN rfl rfl _) (lB rfl)]
 have k0:= @Nr.eq_1;have f0:= @G1.eq_1;have t0:=Yk
 exact gs
theorem L9 : ∀ (s:ByteArray) (prefix1:ByteArray),Ok (CX s prefix1) G9 (dn AF Fq [.t (.v (.string s)), .t (.v (.string prefix1))]):=by
 intro s prefix1
 rw[A7 AF (fn:=C5) rfl (xN rfl rfl _) (lB rfl)]
 have k0:= @C5.eq_1;have f0:= @CX.eq_1
 exact gs
theorem VD : ∀ (s:ByteArray) (prefix1:ByteArray),Ok (G2 s prefix1) PY (dn AF PV [.t (.v (.string s)), .t (.v (.string prefix1))]):=by
 intro s prefix1
 rw[A7 AF (fn:=Ge) rfl (xN rfl rfl _) (lB rfl)]
 have k0:= @Ge.eq_1;have f0:= @G2.eq_1;have g0:=L9
 exact gs
theorem Rz : ∀ (s:ByteArray),Ok (Im s) YU (dn AF Po [.t (.v (.string s))]):=by
 intro s
 rw[A7 AF (fn:=Q2) rfl (xN rfl rfl _) (lB rfl)]
 have k0:= @Q2.eq_1;have f0:= @Im.eq_1;have g0:=Ec;have g1:=VD
 exact gs
theorem S6 : ∀ (uri:ByteArray) (pre:ByteArray),Ok (Kc uri pre) YV (dn AF Pp [.t (.v (.string uri)), .t (.v (.string pre))]):=by
 intro uri pre
 rw[A7 AF (fn:=Q3) rfl (xN rfl rfl _) (lB rfl)]
 have k0:= @Q3.eq_1;have f0:= @Kc.eq_1;have g0:=H7
 exact gs
theorem dt : ∀ (d:A1),Ok (OY d) Wp (dn AF WE [.agg ((A1.row d).map .t)]):=by
 intro d
 rw[A7 AF (fn:=Nw) rfl (xN rfl rfl _) (lB rfl)]
 have k0:= @Nw.eq_1;have f0:= @OY.eq_1;have g0:=Rz;have g1:=S6
 exact gs
end TT
