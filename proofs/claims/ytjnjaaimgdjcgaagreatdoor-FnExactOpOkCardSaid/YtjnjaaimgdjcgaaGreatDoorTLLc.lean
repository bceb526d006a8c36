import Derived.Test.YtjnjaaimgdjcgaaGreatDoorTLLb
set_option maxHeartbeats 2000000
set_option linter.unusedVariables false
set_option linter.unusedSimpArgs false
set_option linter.defProp false
set_option maxRecDepth 100000
namespace TT
open Go
open Nat (reduceAdd reduceSub reduceMul reduceLeDiff reduceLT reduceEqDiff)
theorem spec_IsSign_ok : ∀ (n : Int), Ok (spec_IsSign n) e_spec_IsSign (dn FTA n_spec_IsSign [.t (.v (.int .i64 n))]) := by
 intro n
 rw [den_ev FTA (fn := k_spec_IsSign) rfl (xN rfl rfl _) (lB rfl)]
 have k0 := @k_spec_IsSign.eq_1; have f0 := @spec_IsSign.eq_1; have g0 := spec_l1In_ok
 exact gs
theorem spec_l1Signs_l6_ok (s : ByteArray) : ∀ (at1 : Int), Ok (spec_l1Signs_l6 s at1) e_spec_l1Signs (ev FTA c_spec_l1Signs (.loop k_spec_l1Signs_l6) [.lv 0, .th k_spec_l1Signs_r2] (putS (List.replicate 29 .dead) [(0, .t (.v (.string s))), (3, .t (.v (.int .i64 at1)))]) (putR (List.replicate 29 []) [])) := by
 unfold Ok
 refine spec_l1Signs_l6.partial_correctness s _ ?_
 intro F ih at1
 show Ok _ _ _
 have ih : ∀ (at1 : Int), Ok (F at1) _ _ := ih
 rw [ev_loop]
 have k0 := @k_spec_l1Signs_l6.eq_1; have k1 := @k_spec_l1Signs_r2.eq_1; have g0 := spec_SignAt_ok; have g1 := spec_IsSign_ok; have t0 := ih
 exact gs
theorem spec_l1Signs_ok : ∀ (s : ByteArray), Ok (spec_l1Signs s) e_spec_l1Signs (dn FTA n_spec_l1Signs [.t (.v (.string s))]) := by
 intro s
 rw [den_ev FTA (fn := k_spec_l1Signs) rfl (xN rfl rfl _) (lB rfl)]
 have k0 := @k_spec_l1Signs.eq_1; have f0 := @spec_l1Signs.eq_1; have t0 := spec_l1Signs_l6_ok
 exact gs
theorem spec_TextOk_ok : ∀ (s : ByteArray), Ok (spec_TextOk s) e_spec_TextOk (dn FTA n_spec_TextOk [.t (.v (.string s))]) := by
 intro s
 rw [den_ev FTA (fn := k_spec_TextOk) rfl (xN rfl rfl _) (lB rfl)]
 have k0 := @k_spec_TextOk.eq_1; have f0 := @spec_TextOk.eq_1; have g0 := spec_l1Signs_ok
 exact gs
theorem spec_l5Has_l6_ok (s : ByteArray) (t : ByteArray) : ∀ (i : Int), Ok (spec_l5Has_l6 s t i) e_spec_l5Has (ev FTA c_spec_l5Has (.loop k_spec_l5Has_l6) [.lv 0, .th k_spec_l5Has_r2] (putS (List.replicate 24 .dead) [(0, .t (.v (.string s))), (1, .t (.v (.string t))), (5, .t (.v (.int .i64 i)))]) (putR (List.replicate 24 []) [])) := by
 unfold Ok
 refine spec_l5Has_l6.partial_correctness s t _ ?_
 intro F ih i
 show Ok _ _ _
 have ih : ∀ (i : Int), Ok (F i) _ _ := ih
 rw [ev_loop]
 have k0 := @k_spec_l5Has_l6.eq_1; have k1 := @k_spec_l5Has_r2.eq_1; have t0 := ih
 exact gs
theorem spec_l5Has_ok : ∀ (s : ByteArray) (t : ByteArray), Ok (spec_l5Has s t) e_spec_l5Has (dn FTA n_spec_l5Has [.t (.v (.string s)), .t (.v (.string t))]) := by
 intro s t
 rw [den_ev FTA (fn := k_spec_l5Has) rfl (xN rfl rfl _) (lB rfl)]
 have k0 := @k_spec_l5Has.eq_1; have f0 := @spec_l5Has.eq_1; have t0 := spec_l5Has_l6_ok
 exact gs
theorem spec_l11Val_ok : ∀ (s : ByteArray), Ok (spec_l11Val s) e_spec_l11Val (dn FTA n_spec_l11Val [.t (.v (.string s))]) := by
 intro s
 rw [den_ev FTA (fn := k_spec_l11Val) rfl (xN rfl rfl _) (lB rfl)]
 have k0 := @k_spec_l11Val.eq_1; have f0 := @spec_l11Val.eq_1; have g0 := spec_TextOk_ok; have g1 := spec_l5Has_ok
 exact gs
theorem spec_l11PredOk_j12_ok : ∀ (kind : Int) (p : GPred) (x : Bool), Ok (spec_l11PredOk_j12 kind p x) e_spec_l11PredOk (ev FTA c_spec_l11PredOk k_spec_l11PredOk_r12 [.lv 0, .th k_spec_l11PredOk_r2] (putS (List.replicate 74 .dead) [(1, .t (.v (.int .i64 kind))), (2, .ptr (2, 0) [] 0 0 1 0), (6, .t (.v (.int .i64 p.Kind))), (27, .t (.v (.bool x)))]) (putR (List.replicate 74 []) [(2, [.mem [[.v (.int .i64 p.Kind), .v (.int .i64 p.N), .v (.string p.Pre), .v (.string p.Local), .v (.string p.Val)]] 0 false])])) := by
 intro kind p x
 have k0 := @k_spec_l11PredOk_r12.eq_1; have k1 := @k_spec_l11PredOk_r2.eq_1; have f0 := @spec_l11PredOk_j12.eq_1; have g0 := spec_l1In_ok; have g1 := spec_JoinName_ok; have g2 := spec_l11Val_ok
 exact gs
theorem spec_l11PredOk_ok : ∀ (p : GPred) (kind : Int), Ok (spec_l11PredOk p kind) e_spec_l11PredOk (dn FTA n_spec_l11PredOk [.agg ((GPred.row p).map .t), .t (.v (.int .i64 kind))]) := by
 intro p kind
 rw [den_ev FTA (fn := k_spec_l11PredOk) rfl (xN rfl rfl _) (lB rfl)]
 have k0 := @k_spec_l11PredOk.eq_1; have f0 := @spec_l11PredOk.eq_1; have g0 := spec_l1In_ok; have t0 := spec_l11PredOk_j12_ok
 exact gs
theorem spec_l11StepOk_j45_ok : ∀ (a0 : GStp) (x5 : Bool) (xDeep : Bool), Ok (spec_l11StepOk_j45 a0 x5 xDeep) e_spec_l11StepOk (ev FTA c_spec_l11StepOk k_spec_l11StepOk_r45 [.lv 2, .th k_spec_l11StepOk_r31] (putS (List.replicate 96 .dead) [(2, .ptr (2, 0) [] 0 0 1 0), (46, .t (.v (.int .i64 a0.Kind))), (56, .t (.v (.bool x5)))]) (putR (List.replicate 96 []) [(2, [.mem [[.v (.bool xDeep), .v (.int .i64 a0.Kind), .v (.string a0.Pre), .v (.string a0.Local), .sl false (a0.Preds.map GPred.row)]] 0 false])])) := by
 intro a0 x5 xDeep
 have k0 := @k_spec_l11StepOk_r45.eq_1; have k1 := @k_spec_l11StepOk_r31.eq_1; have f0 := @spec_l11StepOk_j45.eq_1; have g0 := spec_PlainOk_ok
 exact gs
theorem spec_l11StepOk_j35_ok : ∀ (a0 : GStp) (x4 : Bool) (xDeep : Bool), Ok (spec_l11StepOk_j35 a0 x4 xDeep) e_spec_l11StepOk (ev FTA c_spec_l11StepOk k_spec_l11StepOk_r35 [.lv 2, .th k_spec_l11StepOk_r31] (putS (List.replicate 96 .dead) [(2, .ptr (2, 0) [] 0 0 1 0), (46, .t (.v (.int .i64 a0.Kind))), (47, .t (.v (.bool x4)))]) (putR (List.replicate 96 []) [(2, [.mem [[.v (.bool xDeep), .v (.int .i64 a0.Kind), .v (.string a0.Pre), .v (.string a0.Local), .sl false (a0.Preds.map GPred.row)]] 0 false])])) := by
 intro a0 x4 xDeep
 have k0 := @k_spec_l11StepOk_r35.eq_1; have f0 := @spec_l11StepOk_j35.eq_1; have g0 := spec_JoinName_ok; have t0 := spec_l11StepOk_j45_ok
 exact gs
theorem spec_l11StepOk_l14_ok (xDeep : Bool) (a0 : GStp) : ∀ (i : Int), Ok (spec_l11StepOk_l14 i xDeep a0) e_spec_l11StepOk (ev FTA c_spec_l11StepOk (.loop k_spec_l11StepOk_l14) [.lv 0, .th k_spec_l11StepOk_r10] (putS (List.replicate 96 .dead) [(2, .ptr (2, 0) [] 0 0 1 0), (5, .t (.v (.int .i64 i)))]) (putR (List.replicate 96 []) [(2, [.mem [[.v (.bool xDeep), .v (.int .i64 a0.Kind), .v (.string a0.Pre), .v (.string a0.Local), .sl false (a0.Preds.map GPred.row)]] 0 false])])) := by
 unfold Ok
 refine spec_l11StepOk_l14.partial_correctness xDeep a0 _ ?_
 intro F ih i
 show Ok _ _ _
 have ih : ∀ (i : Int), Ok (F i) _ _ := ih
 rw [ev_loop]
 have k0 := @k_spec_l11StepOk_l14.eq_1; have k1 := @k_spec_l11StepOk_r10.eq_1; have g0 := spec_l11PredOk_ok; have t0 := ih; have t1 := spec_l11StepOk_j35_ok
 exact gs
theorem spec_l11StepOk_j2_ok : ∀ (xDeep : Bool) (a0 : GStp), Ok (spec_l11StepOk_j2 xDeep a0) e_spec_l11StepOk (ev FTA c_spec_l11StepOk k_spec_l11StepOk_r2 [] (putS (List.replicate 96 .dead) [(2, .ptr (2, 0) [] 0 0 1 0)]) (putR (List.replicate 96 []) [(2, [.mem [[.v (.bool xDeep), .v (.int .i64 a0.Kind), .v (.string a0.Pre), .v (.string a0.Local), .sl false (a0.Preds.map GPred.row)]] 0 false])])) := by
 intro xDeep a0
 have k0 := @k_spec_l11StepOk_r2.eq_1; have f0 := @spec_l11StepOk_j2.eq_1; have t0 := spec_l11StepOk_l14_ok
 exact gs
theorem spec_l11StepOk_ok : ∀ (a0 : GStp) (last : Bool), Ok (spec_l11StepOk a0 last) e_spec_l11StepOk (dn FTA n_spec_l11StepOk [.agg (((GStp.row false) a0).map .t), .t (.v (.bool last))]) := by
 intro a0 last
 rw [den_ev FTA (fn := k_spec_l11StepOk) rfl (xN rfl rfl _) (lB rfl)]
 have k0 := @k_spec_l11StepOk.eq_1; have f0 := @spec_l11StepOk.eq_1; have t0 := spec_l11StepOk_j2_ok
 exact gs
theorem spec_SelOk_l6_ok (s : GSel) : ∀ (i : Int), Ok (spec_SelOk_l6 i s) e_spec_SelOk (ev FTA c_spec_SelOk (.loop k_spec_SelOk_l6) [.lv 0, .th k_spec_SelOk_r2] (putS (List.replicate 44 .dead) [(1, .ptr (1, 0) [] 0 0 1 0), (3, .t (.v (.int .i64 i)))]) (putR (List.replicate 44 []) [(1, [.mem [[.v (.string s.Id), .sl false (s.Steps.map (GStp.row false))]] 0 false])])) := by
 unfold Ok
 refine spec_SelOk_l6.partial_correctness s _ ?_
 intro F ih i
 show Ok _ _ _
 have ih : ∀ (i : Int), Ok (F i) _ _ := ih
 rw [ev_loop]
 have k0 := @k_spec_SelOk_l6.eq_1; have k1 := @k_spec_SelOk_r2.eq_1; have g0 := spec_l11StepOk_ok; have g1 := spec_l11Val_ok; have t0 := ih
 exact gs
theorem spec_SelOk_ok : ∀ (s : GSel), Ok (spec_SelOk s) e_spec_SelOk (dn FTA n_spec_SelOk [.agg (((GSel.row false) s).map .t)]) := by
 intro s
 rw [den_ev FTA (fn := k_spec_SelOk) rfl (xN rfl rfl _) (lB rfl)]
 have k0 := @k_spec_SelOk.eq_1; have f0 := @spec_SelOk.eq_1; have t0 := spec_SelOk_l6_ok
 exact gs
theorem spec_l4Xml_ok : ∀ (s : ByteArray), Ok (spec_l4Xml s) e_spec_l4Xml (dn FTA n_spec_l4Xml [.t (.v (.string s))]) := by
 intro s
 rw [den_ev FTA (fn := k_spec_l4Xml) rfl (xN rfl rfl _) (lB rfl)]
 have k0 := @k_spec_l4Xml.eq_1; have f0 := @spec_l4Xml.eq_1
 exact gs
theorem spec_DeclOk_j2_ok : ∀ (d : GDecl), Ok (spec_DeclOk_j2 d) e_spec_DeclOk (ev FTA c_spec_DeclOk k_spec_DeclOk_r2 [] (putS (List.replicate 31 .dead) [(1, .ptr (1, 0) [] 0 0 1 0)]) (putR (List.replicate 31 []) [(1, [.mem [[.v (.string d.Pre), .v (.string d.Uri)]] 0 false])])) := by
 intro d
 have k0 := @k_spec_DeclOk_r2.eq_1; have f0 := @spec_DeclOk_j2.eq_1; have g0 := spec_TextOk_ok
 exact gs
theorem spec_DeclOk_ok : ∀ (d : GDecl), Ok (spec_DeclOk d) e_spec_DeclOk (dn FTA n_spec_DeclOk [.agg ((GDecl.row d).map .t)]) := by
 intro d
 rw [den_ev FTA (fn := k_spec_DeclOk) rfl (xN rfl rfl _) (lB rfl)]
 have k0 := @k_spec_DeclOk.eq_1; have f0 := @spec_DeclOk.eq_1; have g0 := spec_PlainOk_ok; have g1 := spec_l4Xml_ok; have t0 := spec_DeclOk_j2_ok
 exact gs
theorem G_spec_CountOf : (∀ (n : GNode), Ok (spec_CountOf n) e_spec_CountOf (dn FTA n_spec_CountOf [.agg (((GNode.row false) n).map .t)])) ∧
  (∀ (k : Int) (i : Int) (n : GNode), Ok (spec_CountOf_l8 k i n) e_spec_CountOf (ev FTA c_spec_CountOf (.loop k_spec_CountOf_l8) [.lv 0, .th k_spec_CountOf_r4] (putS (List.replicate 25 .dead) [(1, .ptr (1, 0) [] 0 0 1 0), (3, .t (.v (.int .i64 k))), (4, .t (.v (.int .i64 i)))]) (putR (List.replicate 25 []) [(1, [.mem [[.v (.int .i64 n.Kind), .v (.string n.Pre), .v (.string n.Local), .v (.string n.Uri), .sl false (n.Decls.map GDecl.row), .sl false (n.Attrs.map GAttr.row), .sl false (n.Kids.map (GNode.row false)), .v (.string n.Text)]] 0 false])]))) := by
 unfold Ok
 refine spec_CountOf.mutual_partial_correctness _ _ ?_ ?_
 ·intro F1 ih1 n
  show Ok _ _ _
  have ih1 : ∀ (k : Int) (i : Int) (n : GNode), Ok (F1 k i n) _ _ := ih1
  rw [den_ev FTA (fn := k_spec_CountOf) rfl (xN rfl rfl _) (lB rfl)]
  have k0 := @k_spec_CountOf.eq_1; have t0 := ih1
  exact gs
 ·intro F0 F1 ih0 ih1 k i n
  show Ok _ _ _
  have ih0 : ∀ (n : GNode), Ok (F0 n) _ _ := ih0
  have ih1 : ∀ (k : Int) (i : Int) (n : GNode), Ok (F1 k i n) _ _ := ih1
  rw [ev_loop]
  have k0 := @k_spec_CountOf_l8.eq_1; have k1 := @k_spec_CountOf_r4.eq_1; have g0 := ih0; have t0 := ih1
  exact gs
theorem spec_CountOf_ok (n : GNode) : Ok (spec_CountOf n) e_spec_CountOf (dn FTA n_spec_CountOf [.agg (((GNode.row false) n).map .t)]) := G_spec_CountOf.1 n
theorem spec_l5Pre_ok : ∀ (s : ByteArray), Ok (spec_l5Pre s) e_spec_l5Pre (dn FTA n_spec_l5Pre [.t (.v (.string s))]) := by
 intro s
 rw [den_ev FTA (fn := k_spec_l5Pre) rfl (xN rfl rfl _) (lB rfl)]
 have k0 := @k_spec_l5Pre.eq_1; have f0 := @spec_l5Pre.eq_1; have g0 := spec_PlainOk_ok; have g1 := spec_l4Xml_ok
 exact gs
theorem spec_DeclsOk_l6_ok (l : List GDecl) : ∀ (i : Int), Ok (spec_DeclsOk_l6 l i) e_spec_DeclsOk (ev FTA c_spec_DeclsOk (.loop k_spec_DeclsOk_l6) [.lv 0, .th k_spec_DeclsOk_r2] (putS (List.replicate 37 .dead) [(0, .t (.sl false (l.map GDecl.row))), (3, .t (.v (.int .i64 i)))]) (putR (List.replicate 37 []) [])) := by
 unfold Ok
 refine spec_DeclsOk_l6.partial_correctness l _ ?_
 intro F ih i
 show Ok _ _ _
 have ih : ∀ (i : Int), Ok (F i) _ _ := ih
 rw [ev_loop]
 have k0 := @k_spec_DeclsOk_l6.eq_1; have k1 := @k_spec_DeclsOk_r2.eq_1; have g0 := spec_DeclOk_ok; have t0 := ih
 exact gs
theorem spec_DeclsOk_ok : ∀ (l : List GDecl), Ok (spec_DeclsOk l) e_spec_DeclsOk (dn FTA n_spec_DeclsOk [.t (.sl false (l.map GDecl.row))]) := by
 intro l
 rw [den_ev FTA (fn := k_spec_DeclsOk) rfl (xN rfl rfl _) (lB rfl)]
 have k0 := @k_spec_DeclsOk.eq_1; have f0 := @spec_DeclsOk.eq_1; have t0 := spec_DeclsOk_l6_ok
 exact gs
theorem spec_l5Bare_ok : ∀ (n : GNode), Ok (spec_l5Bare n) e_spec_l5Bare (dn FTA n_spec_l5Bare [.agg (((GNode.row false) n).map .t)]) := by
 intro n
 rw [den_ev FTA (fn := k_spec_l5Bare) rfl (xN rfl rfl _) (lB rfl)]
 have k0 := @k_spec_l5Bare.eq_1; have f0 := @spec_l5Bare.eq_1
 exact gs
end TT
