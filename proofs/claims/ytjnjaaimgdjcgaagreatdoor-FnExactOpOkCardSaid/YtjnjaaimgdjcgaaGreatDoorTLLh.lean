import Derived.Test.YtjnjaaimgdjcgaaGreatDoorTLLg
set_option maxHeartbeats 2000000
set_option linter.unusedVariables false
set_option linter.unusedSimpArgs false
set_option linter.defProp false
set_option maxRecDepth 100000
namespace TT
open Go
open Nat (reduceAdd reduceSub reduceMul reduceLeDiff reduceLT reduceEqDiff)
theorem strings_Cut_ok : ∀ (s : ByteArray) (t : ByteArray), Ok (strings_Cut s t) e_strings_Cut (dn FTA n_strings_Cut [.t (.v (.string s)), .t (.v (.string t))]) := by
 intro s t r hr
 exact den_ext FTA.ft (xOf FTA) (x_cut_ok s t (e := e_strings_Cut) (fun _ => rfl) hr)
theorem impl_SplitName_ok : ∀ (s : ByteArray), Ok (impl_SplitName s) e_impl_SplitName (dn FTA n_impl_SplitName [.t (.v (.string s))]) := by
 intro s
 rw [den_ev FTA (fn := k_impl_SplitName) rfl (xN rfl rfl _) (lB rfl)]
 have k0 := @k_impl_SplitName.eq_1; have f0 := @impl_SplitName.eq_1; have g0 := impl_PlainOk_ok; have g1 := strings_Cut_ok
 exact gs
theorem impl_JoinName_j4_ok : ∀ (pre : ByteArray) (local1 : ByteArray) (s : ByteArray), Ok (impl_JoinName_j4 pre local1 s) e_impl_JoinName (ev FTA c_impl_JoinName k_impl_JoinName_r4 [] (putS (List.replicate 35 .dead) [(0, .t (.v (.string pre))), (1, .t (.v (.string local1))), (5, .t (.v (.string s)))]) (putR (List.replicate 35 []) [])) := by
 intro pre local1 s
 have k0 := @k_impl_JoinName_r4.eq_1; have f0 := @impl_JoinName_j4.eq_1; have g0 := impl_SplitName_ok
 exact gs
theorem impl_JoinName_ok : ∀ (pre : ByteArray) (local1 : ByteArray), Ok (impl_JoinName pre local1) e_impl_JoinName (dn FTA n_impl_JoinName [.t (.v (.string pre)), .t (.v (.string local1))]) := by
 intro pre local1
 rw [den_ev FTA (fn := k_impl_JoinName) rfl (xN rfl rfl _) (lB rfl)]
 have k0 := @k_impl_JoinName.eq_1; have f0 := @impl_JoinName.eq_1; have t0 := impl_JoinName_j4_ok
 exact gs
theorem impl_typeOk_j2_ok : ∀ (o : GOp), Ok (impl_typeOk_j2 o) e_impl_typeOk (ev FTA c_impl_typeOk k_impl_typeOk_r2 [] (putS (List.replicate 53 .dead) [(1, .ptr (1, 0) [] 0 0 1 0)]) (putR (List.replicate 53 []) [(1, [.mem [[.v (.int .i64 o.Kind), .v (.string o.Sel.Id), .sl false (o.Sel.Steps.map (GStp.row false)), .v (.int .i64 o.Pos), .v (.int .i64 o.Typ), .v (.string o.Pre), .v (.string o.Local), .v (.int .i64 o.Ws), .sl false (o.Kids.map (GNode.row false)), .sl false (o.Decls.map GDecl.row)]] 0 false])])) := by
 intro o
 have k0 := @k_impl_typeOk_r2.eq_1; have f0 := @impl_typeOk_j2.eq_1; have g0 := strings_HasPrefix_ok
 exact gs
theorem impl_typeOk_ok : ∀ (o : GOp), Ok (impl_typeOk o) e_impl_typeOk (dn FTA n_impl_typeOk [.agg (((GOp.row false) o).map .t)]) := by
 intro o
 rw [den_ev FTA (fn := k_impl_typeOk) rfl (xN rfl rfl _) (lB rfl)]
 have k0 := @k_impl_typeOk.eq_1; have f0 := @impl_typeOk.eq_1; have g0 := impl_JoinName_ok; have t0 := impl_typeOk_j2_ok
 exact gs
theorem impl_OpOk_j10_ok : ∀ (bare : Bool) (o : GOp), Ok (impl_OpOk_j10 bare o) e_impl_OpOk (ev FTA c_impl_OpOk k_impl_OpOk_r10 [] (putS (List.replicate 93 .dead) [(1, .ptr (1, 0) [] 0 0 1 0), (3, .t (.v (.bool bare)))]) (putR (List.replicate 93 []) [(1, [.mem [[.v (.int .i64 o.Kind), .v (.string o.Sel.Id), .sl false (o.Sel.Steps.map (GStp.row false)), .v (.int .i64 o.Pos), .v (.int .i64 o.Typ), .v (.string o.Pre), .v (.string o.Local), .v (.int .i64 o.Ws), .sl false (o.Kids.map (GNode.row false)), .sl false (o.Decls.map GDecl.row)]] 0 false])])) := by
 intro bare o
 have k0 := @k_impl_OpOk_r10.eq_1; have f0 := @impl_OpOk_j10.eq_1; have g0 := impl_in_ok; have g1 := impl_typeOk_ok
 exact gs
theorem impl_OpOk_ok : ∀ (o : GOp), Ok (impl_OpOk o) e_impl_OpOk (dn FTA n_impl_OpOk [.agg (((GOp.row false) o).map .t)]) := by
 intro o
 rw [den_ev FTA (fn := k_impl_OpOk) rfl (xN rfl rfl _) (lB rfl)]
 have k0 := @k_impl_OpOk.eq_1; have f0 := @impl_OpOk.eq_1; have g0 := impl_SelOk_ok; have g1 := impl_twicePre_ok; have g2 := slices_ContainsFunc_Decl_OpOk_1_ok; have g3 := impl_opKidsOk_ok; have t0 := impl_OpOk_j10_ok
 exact gs
theorem laws_eqPred_ok : ∀ (a : GPred) (b : GPred), Ok (laws_eqPred a b) e_laws_eqPred (dn FTA n_laws_eqPred [.agg ((GPred.row a).map .t), .agg ((GPred.row b).map .t)]) := by
 intro a b
 rw [den_ev FTA (fn := k_laws_eqPred) rfl (xN rfl rfl _) (lB rfl)]
 have k0 := @k_laws_eqPred.eq_1; have f0 := @laws_eqPred.eq_1
 exact gs
theorem laws_eqPredS_l14_ok (a : List GPred) (b : List GPred) : ∀ (i : Int), Ok (laws_eqPredS_l14 a b i) e_laws_eqPredS (ev FTA c_laws_eqPredS (.loop k_laws_eqPredS_l14) [.lv 0, .th k_laws_eqPredS_r10] (putS (List.replicate 27 .dead) [(0, .t (.sl false (a.map GPred.row))), (1, .t (.sl false (b.map GPred.row))), (5, .t (.v (.int .i64 i)))]) (putR (List.replicate 27 []) [])) := by
 unfold Ok
 refine laws_eqPredS_l14.partial_correctness a b _ ?_
 intro F ih i
 show Ok _ _ _
 have ih : ∀ (i : Int), Ok (F i) _ _ := ih
 rw [ev_loop]
 have k0 := @k_laws_eqPredS_l14.eq_1; have k1 := @k_laws_eqPredS_r10.eq_1; have g0 := laws_eqPred_ok; have t0 := ih
 exact gs
theorem laws_eqPredS_ok : ∀ (a : List GPred) (b : List GPred), Ok (laws_eqPredS a b) e_laws_eqPredS (dn FTA n_laws_eqPredS [.t (.sl false (a.map GPred.row)), .t (.sl false (b.map GPred.row))]) := by
 intro a b
 rw [den_ev FTA (fn := k_laws_eqPredS) rfl (xN rfl rfl _) (lB rfl)]
 have k0 := @k_laws_eqPredS.eq_1; have f0 := @laws_eqPredS.eq_1; have t0 := laws_eqPredS_l14_ok
 exact gs
theorem laws_eqStep_ok : ∀ (a : GStp) (b : GStp), Ok (laws_eqStep a b) e_laws_eqStep (dn FTA n_laws_eqStep [.agg (((GStp.row false) a).map .t), .agg (((GStp.row false) b).map .t)]) := by
 intro a b
 rw [den_ev FTA (fn := k_laws_eqStep) rfl (xN rfl rfl _) (lB rfl)]
 have k0 := @k_laws_eqStep.eq_1; have f0 := @laws_eqStep.eq_1; have g0 := laws_eqPredS_ok
 exact gs
theorem laws_eqStepS_l14_ok (a : List GStp) (b : List GStp) : ∀ (i : Int), Ok (laws_eqStepS_l14 a b i) e_laws_eqStepS (ev FTA c_laws_eqStepS (.loop k_laws_eqStepS_l14) [.lv 0, .th k_laws_eqStepS_r10] (putS (List.replicate 27 .dead) [(0, .t (.sl false (a.map (GStp.row false)))), (1, .t (.sl false (b.map (GStp.row false)))), (5, .t (.v (.int .i64 i)))]) (putR (List.replicate 27 []) [])) := by
 unfold Ok
 refine laws_eqStepS_l14.partial_correctness a b _ ?_
 intro F ih i
 show Ok _ _ _
 have ih : ∀ (i : Int), Ok (F i) _ _ := ih
 rw [ev_loop]
 have k0 := @k_laws_eqStepS_l14.eq_1; have k1 := @k_laws_eqStepS_r10.eq_1; have g0 := laws_eqStep_ok; have t0 := ih
 exact gs
theorem laws_eqStepS_ok : ∀ (a : List GStp) (b : List GStp), Ok (laws_eqStepS a b) e_laws_eqStepS (dn FTA n_laws_eqStepS [.t (.sl false (a.map (GStp.row false))), .t (.sl false (b.map (GStp.row false)))]) := by
 intro a b
 rw [den_ev FTA (fn := k_laws_eqStepS) rfl (xN rfl rfl _) (lB rfl)]
 have k0 := @k_laws_eqStepS.eq_1; have f0 := @laws_eqStepS.eq_1; have t0 := laws_eqStepS_l14_ok
 exact gs
theorem laws_eqSel_ok : ∀ (a : GSel) (b : GSel), Ok (laws_eqSel a b) e_laws_eqSel (dn FTA n_laws_eqSel [.agg (((GSel.row false) a).map .t), .agg (((GSel.row false) b).map .t)]) := by
 intro a b
 rw [den_ev FTA (fn := k_laws_eqSel) rfl (xN rfl rfl _) (lB rfl)]
 have k0 := @k_laws_eqSel.eq_1; have f0 := @laws_eqSel.eq_1; have g0 := laws_eqStepS_ok
 exact gs
theorem laws_eqDecl_ok : ∀ (a : GDecl) (b : GDecl), Ok (laws_eqDecl a b) e_laws_eqDecl (dn FTA n_laws_eqDecl [.agg ((GDecl.row a).map .t), .agg ((GDecl.row b).map .t)]) := by
 intro a b
 rw [den_ev FTA (fn := k_laws_eqDecl) rfl (xN rfl rfl _) (lB rfl)]
 have k0 := @k_laws_eqDecl.eq_1; have f0 := @laws_eqDecl.eq_1
 exact gs
theorem laws_eqDeclS_l14_ok (a : List GDecl) (b : List GDecl) : ∀ (i : Int), Ok (laws_eqDeclS_l14 a b i) e_laws_eqDeclS (ev FTA c_laws_eqDeclS (.loop k_laws_eqDeclS_l14) [.lv 0, .th k_laws_eqDeclS_r10] (putS (List.replicate 27 .dead) [(0, .t (.sl false (a.map GDecl.row))), (1, .t (.sl false (b.map GDecl.row))), (5, .t (.v (.int .i64 i)))]) (putR (List.replicate 27 []) [])) := by
 unfold Ok
 refine laws_eqDeclS_l14.partial_correctness a b _ ?_
 intro F ih i
 show Ok _ _ _
 have ih : ∀ (i : Int), Ok (F i) _ _ := ih
 rw [ev_loop]
 have k0 := @k_laws_eqDeclS_l14.eq_1; have k1 := @k_laws_eqDeclS_r10.eq_1; have g0 := laws_eqDecl_ok; have t0 := ih
 exact gs
theorem laws_eqDeclS_ok : ∀ (a : List GDecl) (b : List GDecl), Ok (laws_eqDeclS a b) e_laws_eqDeclS (dn FTA n_laws_eqDeclS [.t (.sl false (a.map GDecl.row)), .t (.sl false (b.map GDecl.row))]) := by
 intro a b
 rw [den_ev FTA (fn := k_laws_eqDeclS) rfl (xN rfl rfl _) (lB rfl)]
 have k0 := @k_laws_eqDeclS.eq_1; have f0 := @laws_eqDeclS.eq_1; have t0 := laws_eqDeclS_l14_ok
 exact gs
theorem laws_eqAttr_ok : ∀ (a : GAttr) (b : GAttr), Ok (laws_eqAttr a b) e_laws_eqAttr (dn FTA n_laws_eqAttr [.agg ((GAttr.row a).map .t), .agg ((GAttr.row b).map .t)]) := by
 intro a b
 rw [den_ev FTA (fn := k_laws_eqAttr) rfl (xN rfl rfl _) (lB rfl)]
 have k0 := @k_laws_eqAttr.eq_1; have f0 := @laws_eqAttr.eq_1
 exact gs
theorem laws_eqAttrS_l14_ok (a : List GAttr) (b : List GAttr) : ∀ (i : Int), Ok (laws_eqAttrS_l14 a b i) e_laws_eqAttrS (ev FTA c_laws_eqAttrS (.loop k_laws_eqAttrS_l14) [.lv 0, .th k_laws_eqAttrS_r10] (putS (List.replicate 27 .dead) [(0, .t (.sl false (a.map GAttr.row))), (1, .t (.sl false (b.map GAttr.row))), (5, .t (.v (.int .i64 i)))]) (putR (List.replicate 27 []) [])) := by
 unfold Ok
 refine laws_eqAttrS_l14.partial_correctness a b _ ?_
 intro F ih i
 show Ok _ _ _
 have ih : ∀ (i : Int), Ok (F i) _ _ := ih
 rw [ev_loop]
 have k0 := @k_laws_eqAttrS_l14.eq_1; have k1 := @k_laws_eqAttrS_r10.eq_1; have g0 := laws_eqAttr_ok; have t0 := ih
 exact gs
theorem laws_eqAttrS_ok : ∀ (a : List GAttr) (b : List GAttr), Ok (laws_eqAttrS a b) e_laws_eqAttrS (dn FTA n_laws_eqAttrS [.t (.sl false (a.map GAttr.row)), .t (.sl false (b.map GAttr.row))]) := by
 intro a b
 rw [den_ev FTA (fn := k_laws_eqAttrS) rfl (xN rfl rfl _) (lB rfl)]
 have k0 := @k_laws_eqAttrS.eq_1; have f0 := @laws_eqAttrS.eq_1; have t0 := laws_eqAttrS_l14_ok
 exact gs
theorem G_laws_eqNode : (∀ (a : GNode) (b : GNode), Ok (laws_eqNode a b) e_laws_eqNode (dn FTA n_laws_eqNode [.agg (((GNode.row false) a).map .t), .agg (((GNode.row false) b).map .t)])) ∧
  (∀ (a : List GNode) (b : List GNode), Ok (laws_eqNodeS a b) e_laws_eqNodeS (dn FTA n_laws_eqNodeS [.t (.sl false (a.map (GNode.row false))), .t (.sl false (b.map (GNode.row false)))])) ∧
  (∀ (a : List GNode) (b : List GNode) (i : Int), Ok (laws_eqNodeS_l14 a b i) e_laws_eqNodeS (ev FTA c_laws_eqNodeS (.loop k_laws_eqNodeS_l14) [.lv 0, .th k_laws_eqNodeS_r10] (putS (List.replicate 27 .dead) [(0, .t (.sl false (a.map (GNode.row false)))), (1, .t (.sl false (b.map (GNode.row false)))), (5, .t (.v (.int .i64 i)))]) (putR (List.replicate 27 []) []))) := by
 unfold Ok
 refine laws_eqNode.mutual_partial_correctness _ _ _ ?_ ?_ ?_
 ·intro F1 ih1 a b
  show Ok _ _ _
  have ih1 : ∀ (a : List GNode) (b : List GNode), Ok (F1 a b) _ _ := ih1
  rw [den_ev FTA (fn := k_laws_eqNode) rfl (xN rfl rfl _) (lB rfl)]
  have k0 := @k_laws_eqNode.eq_1; have g0 := laws_eqDeclS_ok; have g1 := laws_eqAttrS_ok; have g2 := ih1
  exact gs
 ·intro F2 ih2 a b
  show Ok _ _ _
  have ih2 : ∀ (a : List GNode) (b : List GNode) (i : Int), Ok (F2 a b i) _ _ := ih2
  rw [den_ev FTA (fn := k_laws_eqNodeS) rfl (xN rfl rfl _) (lB rfl)]
  have k0 := @k_laws_eqNodeS.eq_1; have t0 := ih2
  exact gs
 ·intro F0 F2 ih0 ih2 a b i
  show Ok _ _ _
  have ih0 : ∀ (a : GNode) (b : GNode), Ok (F0 a b) _ _ := ih0
  have ih2 : ∀ (a : List GNode) (b : List GNode) (i : Int), Ok (F2 a b i) _ _ := ih2
  rw [ev_loop]
  have k0 := @k_laws_eqNodeS_l14.eq_1; have k1 := @k_laws_eqNodeS_r10.eq_1; have g0 := ih0; have t0 := ih2
  exact gs
theorem laws_eqNode_ok (a : GNode) (b : GNode) : Ok (laws_eqNode a b) e_laws_eqNode (dn FTA n_laws_eqNode [.agg (((GNode.row false) a).map .t), .agg (((GNode.row false) b).map .t)]) := G_laws_eqNode.1 a b
theorem laws_eqNodeS_ok (a : List GNode) (b : List GNode) : Ok (laws_eqNodeS a b) e_laws_eqNodeS (dn FTA n_laws_eqNodeS [.t (.sl false (a.map (GNode.row false))), .t (.sl false (b.map (GNode.row false)))]) := G_laws_eqNode.2.1 a b
theorem laws_eqOp_ok : ∀ (a : GOp) (b : GOp), Ok (laws_eqOp a b) e_laws_eqOp (dn FTA n_laws_eqOp [.agg (((GOp.row false) a).map .t), .agg (((GOp.row false) b).map .t)]) := by
 intro a b
 rw [den_ev FTA (fn := k_laws_eqOp) rfl (xN rfl rfl _) (lB rfl)]
 have k0 := @k_laws_eqOp.eq_1; have f0 := @laws_eqOp.eq_1; have g0 := laws_eqSel_ok; have g1 := laws_eqNodeS_ok; have g2 := laws_eqDeclS_ok
 exact gs
end TT
