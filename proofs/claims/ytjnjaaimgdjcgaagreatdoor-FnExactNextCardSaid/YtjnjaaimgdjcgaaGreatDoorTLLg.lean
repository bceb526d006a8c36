import Derived.Test.YtjnjaaimgdjcgaaGreatDoorTLLf
set_option maxHeartbeats 2000000
set_option linter.unusedVariables false
set_option linter.unusedSimpArgs false
set_option linter.defProp false
set_option maxRecDepth 100000
namespace TT
open Go
open Nat (reduceAdd reduceSub reduceMul reduceLeDiff reduceLT reduceEqDiff)
theorem impl_Places_ok : ∀ (n : GNode), Ok (impl_Places n) e_impl_Places (dn FTA n_impl_Places [.agg (((GNode.row false) n).map .t)]) := by
 intro n
 rw [den_ev FTA (fn := k_impl_Places) rfl (xN rfl rfl _) (lB rfl)]
 have k0 := @k_impl_Places.eq_1; have f0 := @impl_Places.eq_1; have g0 := impl_placesIn_ok
 exact gs
theorem slices_Equal_int_l14_ok (s1 : List Int) (s2 : List Int) : ∀ (x2 : Int), Ok (slices_Equal_int_l14 s1 s2 x2) e_slices_Equal_int (ev FTA c_slices_Equal_int (.loop k_slices_Equal_int_l14) [.lv 0, .th k_slices_Equal_int_r10] (putS (List.replicate 26 .dead) [(0, .t (.sl false (s1.map rI))), (1, .t (.sl false (s2.map rI))), (12, .t (.v (.int .i64 (lenL s1)))), (13, .t (.v (.int .i64 x2)))]) (putR (List.replicate 26 []) [])) := by
 unfold Ok
 refine slices_Equal_int_l14.partial_correctness s1 s2 _ ?_
 intro F ih x2
 show Ok _ _ _
 have ih : ∀ (x2 : Int), Ok (F x2) _ _ := ih
 rw [ev_loop]
 have k0 := @k_slices_Equal_int_l14.eq_1; have k1 := @k_slices_Equal_int_r10.eq_1; have t0 := ih
 exact gs
theorem slices_Equal_int_ok : ∀ (s1 : List Int) (s2 : List Int), Ok (slices_Equal_int s1 s2) e_slices_Equal_int (dn FTA n_slices_Equal_int [.t (.sl false (s1.map rI)), .t (.sl false (s2.map rI))]) := by
 intro s1 s2
 rw [den_ev FTA (fn := k_slices_Equal_int) rfl (xN rfl rfl _) (lB rfl)]
 have k0 := @k_slices_Equal_int.eq_1; have f0 := @slices_Equal_int.eq_1; have t0 := slices_Equal_int_l14_ok
 exact gs
theorem impl_SamePath_ok : ∀ (a : List Int) (b : List Int), Ok (impl_SamePath a b) e_impl_SamePath (dn FTA n_impl_SamePath [.t (.sl false (a.map rI)), .t (.sl false (b.map rI))]) := by
 intro a b
 rw [den_ev FTA (fn := k_impl_SamePath) rfl (xN rfl rfl _) (lB rfl)]
 have k0 := @k_impl_SamePath.eq_1; have f0 := @impl_SamePath.eq_1; have g0 := slices_Equal_int_ok
 exact gs
theorem impl_along_1_ok : ∀ (p : List Int) (a1 : GWalk), Ok (impl_along_1 p a1) e_impl_along_1 (dn FTA n_impl_along_1 [.t (.sl false (p.map rI)), .lp [.v (.int .i64 a1.Tre.Kind), .v (.string a1.Tre.Pre), .v (.string a1.Tre.Local), .v (.string a1.Tre.Uri), .sl false (a1.Tre.Decls.map GDecl.row), .sl false (a1.Tre.Attrs.map GAttr.row), .sl false (a1.Tre.Kids.map (GNode.row false)), .v (.string a1.Tre.Text), .sl false (a1.Path.map rI)] 0]) := by
 intro p a1
 rw [den_ev FTA (fn := k_impl_along_1) rfl (xN rfl rfl _) (lB rfl)]
 have k0 := @k_impl_along_1.eq_1; have f0 := @impl_along_1.eq_1; have g0 := impl_SamePath_ok
 exact gs
theorem slices_IndexFunc_Sint_along_1_l6_ok (s : List (List Int)) : ∀ (x1 : Int) (f : GWalk), Ok (slices_IndexFunc_Sint_along_1_l6 s x1 f) e_slices_IndexFunc_Sint_along_1 (ev FTA c_slices_IndexFunc_Sint_along_1 (.loop k_slices_IndexFunc_Sint_l6) [.lv 0, .th k_slices_IndexFunc_Sint_r2] (putS (List.replicate 19 .dead) [(0, .t (.sl false (s.map (rL false rI)))), (1, .fn n_impl_along_1 [.ptr (1, 0) [] 0 0 1 0]), (7, .t (.v (.int .i64 (lenL s)))), (8, .t (.v (.int .i64 x1)))]) (putR (List.replicate 19 []) [(1, [.mem [[.v (.int .i64 f.Tre.Kind), .v (.string f.Tre.Pre), .v (.string f.Tre.Local), .v (.string f.Tre.Uri), .sl false (f.Tre.Decls.map GDecl.row), .sl false (f.Tre.Attrs.map GAttr.row), .sl false (f.Tre.Kids.map (GNode.row false)), .v (.string f.Tre.Text), .sl false (f.Path.map rI)]] 0 true])])) := by
 unfold Ok
 refine slices_IndexFunc_Sint_along_1_l6.partial_correctness s _ ?_
 intro F ih x1 f
 show Ok _ _ _
 have ih : ∀ (x1 : Int) (f : GWalk), Ok (F x1 f) _ _ := ih
 rw [ev_loop]
 have k0 := @k_slices_IndexFunc_Sint_l6.eq_1; have k1 := @k_slices_IndexFunc_Sint_r2.eq_1; have g0 := impl_along_1_ok; have t0 := ih
 exact gs
theorem slices_IndexFunc_Sint_along_1_ok : ∀ (s : List (List Int)) (fc0 : GWalk), Ok (slices_IndexFunc_Sint_along_1 s fc0) e_slices_IndexFunc_Sint_along_1 (dn FTA n_slices_IndexFunc_Sint [.t (.sl false (s.map (rL false rI))), .fn n_impl_along_1 [.lp [.v (.int .i64 fc0.Tre.Kind), .v (.string fc0.Tre.Pre), .v (.string fc0.Tre.Local), .v (.string fc0.Tre.Uri), .sl false (fc0.Tre.Decls.map GDecl.row), .sl false (fc0.Tre.Attrs.map GAttr.row), .sl false (fc0.Tre.Kids.map (GNode.row false)), .v (.string fc0.Tre.Text), .sl false (fc0.Path.map rI)] 0]]) := by
 intro s fc0
 rw [den_ev FTA (fn := k_slices_IndexFunc_Sint) rfl (xN rfl rfl _) (lB rfl)]
 have k0 := @k_slices_IndexFunc_Sint.eq_1; have f0 := @slices_IndexFunc_Sint_along_1.eq_1; have t0 := slices_IndexFunc_Sint_along_1_l6_ok
 exact gs
theorem impl_cloneWalk_ok : ∀ (w : GWalk), Ok (impl_cloneWalk w) e_impl_cloneWalk (dn FTA n_impl_cloneWalk [.agg (((GWalk.row false) w).map .t)]) := by
 intro w
 rw [den_ev FTA (fn := k_impl_cloneWalk) rfl (xN rfl rfl _) (lB rfl)]
 have k0 := @k_impl_cloneWalk.eq_1; have f0 := @impl_cloneWalk.eq_1; have g0 := impl_cloneNode_ok; have g1 := slices_Clone_int_ok
 exact gs
theorem impl_to_ok : ∀ (w : GWalk) (path : List Int), Ok (impl_to w path) e_impl_to (dn FTA n_impl_to [.agg (((GWalk.row false) w).map .t), .t (.sl false (path.map rI))]) := by
 intro w path
 rw [den_ev FTA (fn := k_impl_to) rfl (xN rfl rfl _) (lB rfl)]
 have k0 := @k_impl_to.eq_1; have f0 := @impl_to.eq_1; have g0 := impl_cloneWalk_ok; have g1 := impl_NodeAt_ok; have g2 := impl_WalkOk_ok; have g3 := slices_Clone_int_ok
 exact gs
theorem impl_along_ok : ∀ (w : GWalk) (by1 : Int), Ok (impl_along w by1) e_impl_along (dn FTA n_impl_along [.agg (((GWalk.row false) w).map .t), .t (.v (.int .i64 by1))]) := by
 intro w by1
 rw [den_ev FTA (fn := k_impl_along) rfl (xN rfl rfl _) (lB rfl)]
 have k0 := @k_impl_along.eq_1; have f0 := @impl_along.eq_1; have g0 := impl_WalkOk_ok; have g1 := impl_Places_ok; have g2 := slices_IndexFunc_Sint_along_1_ok; have g3 := impl_in_ok; have g4 := impl_to_ok; have g5 := impl_cloneWalk_ok
 exact gs
theorem impl_Next_ok : ∀ (w : GWalk), Ok (impl_Next w) e_impl_Next (dn FTA n_impl_Next [.agg (((GWalk.row false) w).map .t)]) := by
 intro w
 rw [den_ev FTA (fn := k_impl_Next) rfl (xN rfl rfl _) (lB rfl)]
 have k0 := @k_impl_Next.eq_1; have f0 := @impl_Next.eq_1; have g0 := impl_along_ok
 exact gs
theorem laws_eqDecl_ok : ∀ (a : GDecl) (b : GDecl), Ok (laws_eqDecl a b) e_laws_eqDecl (dn FTA n_laws_eqDecl [.agg ((GDecl.row a).map .t), .agg ((GDecl.row b).map .t)]) := by
 intro a b
 rw [den_ev FTA (fn := k_laws_eqDecl) rfl (xN rfl rfl _) (lB rfl)]
 have k0 := @k_laws_eqDecl.eq_1; have f0 := @laws_eqDecl.eq_1
 exact gs
theorem laws_eqDeclS_l14_ok (a : List GDecl) (b : List GDecl) : ∀ (i : Int), Ok (laws_eqDeclS_l14 a b i) e_laws_eqDeclS (ev FTA c_laws_eqDeclS (.loop k_laws_eqDeclS_l14) [.lv 0, .th k_laws_eqDeclS_r10] (putS (List.replicate 27 .dead) [(0, .t (.sl false (a.map GDecl.row))), (1, .t (.sl false (b.map GDecl.row))), (5, .t (.v (.int .i64 i)))]) (putR (List.replicate 27 []) [])) := by
 unfold Ok
 refine laws_eqDeclS_l14.partial_correctness a b _ ?_
 intro F ih i
 show Ok _ _ _
 have ih : ∀ (i : Int), Ok (F i) _ _ := ih
 rw [ev_loop]
 have k0 := @k_laws_eqDeclS_l14.eq_1; have k1 := @k_laws_eqDeclS_r10.eq_1; have g0 := laws_eqDecl_ok; have t0 := ih
 exact gs
theorem laws_eqDeclS_ok : ∀ (a : List GDecl) (b : List GDecl), Ok (laws_eqDeclS a b) e_laws_eqDeclS (dn FTA n_laws_eqDeclS [.t (.sl false (a.map GDecl.row)), .t (.sl false (b.map GDecl.row))]) := by
 intro a b
 rw [den_ev FTA (fn := k_laws_eqDeclS) rfl (xN rfl rfl _) (lB rfl)]
 have k0 := @k_laws_eqDeclS.eq_1; have f0 := @laws_eqDeclS.eq_1; have t0 := laws_eqDeclS_l14_ok
 exact gs
theorem laws_eqAttr_ok : ∀ (a : GAttr) (b : GAttr), Ok (laws_eqAttr a b) e_laws_eqAttr (dn FTA n_laws_eqAttr [.agg ((GAttr.row a).map .t), .agg ((GAttr.row b).map .t)]) := by
 intro a b
 rw [den_ev FTA (fn := k_laws_eqAttr) rfl (xN rfl rfl _) (lB rfl)]
 have k0 := @k_laws_eqAttr.eq_1; have f0 := @laws_eqAttr.eq_1
 exact gs
theorem laws_eqAttrS_l14_ok (a : List GAttr) (b : List GAttr) : ∀ (i : Int), Ok (laws_eqAttrS_l14 a b i) e_laws_eqAttrS (ev FTA c_laws_eqAttrS (.loop k_laws_eqAttrS_l14) [.lv 0, .th k_laws_eqAttrS_r10] (putS (List.replicate 27 .dead) [(0, .t (.sl false (a.map GAttr.row))), (1, .t (.sl false (b.map GAttr.row))), (5, .t (.v (.int .i64 i)))]) (putR (List.replicate 27 []) [])) := by
 unfold Ok
 refine laws_eqAttrS_l14.partial_correctness a b _ ?_
 intro F ih i
 show Ok _ _ _
 have ih : ∀ (i : Int), Ok (F i) _ _ := ih
 rw [ev_loop]
 have k0 := @k_laws_eqAttrS_l14.eq_1; have k1 := @k_laws_eqAttrS_r10.eq_1; have g0 := laws_eqAttr_ok; have t0 := ih
 exact gs
theorem laws_eqAttrS_ok : ∀ (a : List GAttr) (b : List GAttr), Ok (laws_eqAttrS a b) e_laws_eqAttrS (dn FTA n_laws_eqAttrS [.t (.sl false (a.map GAttr.row)), .t (.sl false (b.map GAttr.row))]) := by
 intro a b
 rw [den_ev FTA (fn := k_laws_eqAttrS) rfl (xN rfl rfl _) (lB rfl)]
 have k0 := @k_laws_eqAttrS.eq_1; have f0 := @laws_eqAttrS.eq_1; have t0 := laws_eqAttrS_l14_ok
 exact gs
theorem G_laws_eqNode : (∀ (a : GNode) (b : GNode), Ok (laws_eqNode a b) e_laws_eqNode (dn FTA n_laws_eqNode [.agg (((GNode.row false) a).map .t), .agg (((GNode.row false) b).map .t)])) ∧
  (∀ (a : List GNode) (b : List GNode), Ok (laws_eqNodeS a b) e_laws_eqNodeS (dn FTA n_laws_eqNodeS [.t (.sl false (a.map (GNode.row false))), .t (.sl false (b.map (GNode.row false)))])) ∧
  (∀ (a : List GNode) (b : List GNode) (i : Int), Ok (laws_eqNodeS_l14 a b i) e_laws_eqNodeS (ev FTA c_laws_eqNodeS (.loop k_laws_eqNodeS_l14) [.lv 0, .th k_laws_eqNodeS_r10] (putS (List.replicate 27 .dead) [(0, .t (.sl false (a.map (GNode.row false)))), (1, .t (.sl false (b.map (GNode.row false)))), (5, .t (.v (.int .i64 i)))]) (putR (List.replicate 27 []) []))) := by
 unfold Ok
 refine laws_eqNode.mutual_partial_correctness _ _ _ ?_ ?_ ?_
 ·intro F1 ih1 a b
  show Ok _ _ _
  have ih1 : ∀ (a : List GNode) (b : List GNode), Ok (F1 a b) _ _ := ih1
  rw [den_ev FTA (fn := k_laws_eqNode) rfl (xN rfl rfl _) (lB rfl)]
  have k0 := @k_laws_eqNode.eq_1; have g0 := laws_eqDeclS_ok; have g1 := laws_eqAttrS_ok; have g2 := ih1
  exact gs
 ·intro F2 ih2 a b
  show Ok _ _ _
  have ih2 : ∀ (a : List GNode) (b : List GNode) (i : Int), Ok (F2 a b i) _ _ := ih2
  rw [den_ev FTA (fn := k_laws_eqNodeS) rfl (xN rfl rfl _) (lB rfl)]
  have k0 := @k_laws_eqNodeS.eq_1; have t0 := ih2
  exact gs
 ·intro F0 F2 ih0 ih2 a b i
  show Ok _ _ _
  have ih0 : ∀ (a : GNode) (b : GNode), Ok (F0 a b) _ _ := ih0
  have ih2 : ∀ (a : List GNode) (b : List GNode) (i : Int), Ok (F2 a b i) _ _ := ih2
  rw [ev_loop]
  have k0 := @k_laws_eqNodeS_l14.eq_1; have k1 := @k_laws_eqNodeS_r10.eq_1; have g0 := ih0; have t0 := ih2
  exact gs
theorem laws_eqNode_ok (a : GNode) (b : GNode) : Ok (laws_eqNode a b) e_laws_eqNode (dn FTA n_laws_eqNode [.agg (((GNode.row false) a).map .t), .agg (((GNode.row false) b).map .t)]) := G_laws_eqNode.1 a b
theorem laws_eqNodeS_ok (a : List GNode) (b : List GNode) : Ok (laws_eqNodeS a b) e_laws_eqNodeS (dn FTA n_laws_eqNodeS [.t (.sl false (a.map (GNode.row false))), .t (.sl false (b.map (GNode.row false)))]) := G_laws_eqNode.2.1 a b
theorem laws_eqIntS_l14_ok (a : List Int) (b : List Int) : ∀ (i : Int), Ok (laws_eqIntS_l14 a b i) e_laws_eqIntS (ev FTA c_laws_eqIntS (.loop k_laws_eqIntS_l14) [.lv 0, .th k_laws_eqIntS_r10] (putS (List.replicate 26 .dead) [(0, .t (.sl false (a.map rI))), (1, .t (.sl false (b.map rI))), (5, .t (.v (.int .i64 i)))]) (putR (List.replicate 26 []) [])) := by
 unfold Ok
 refine laws_eqIntS_l14.partial_correctness a b _ ?_
 intro F ih i
 show Ok _ _ _
 have ih : ∀ (i : Int), Ok (F i) _ _ := ih
 rw [ev_loop]
 have k0 := @k_laws_eqIntS_l14.eq_1; have k1 := @k_laws_eqIntS_r10.eq_1; have t0 := ih
 exact gs
theorem laws_eqIntS_ok : ∀ (a : List Int) (b : List Int), Ok (laws_eqIntS a b) e_laws_eqIntS (dn FTA n_laws_eqIntS [.t (.sl false (a.map rI)), .t (.sl false (b.map rI))]) := by
 intro a b
 rw [den_ev FTA (fn := k_laws_eqIntS) rfl (xN rfl rfl _) (lB rfl)]
 have k0 := @k_laws_eqIntS.eq_1; have f0 := @laws_eqIntS.eq_1; have t0 := laws_eqIntS_l14_ok
 exact gs
theorem laws_eqWalk_ok : ∀ (a : GWalk) (b : GWalk), Ok (laws_eqWalk a b) e_laws_eqWalk (dn FTA n_laws_eqWalk [.agg (((GWalk.row false) a).map .t), .agg (((GWalk.row false) b).map .t)]) := by
 intro a b
 rw [den_ev FTA (fn := k_laws_eqWalk) rfl (xN rfl rfl _) (lB rfl)]
 have k0 := @k_laws_eqWalk.eq_1; have f0 := @laws_eqWalk.eq_1; have g0 := laws_eqNode_ok; have g1 := laws_eqIntS_ok
 exact gs
theorem laws_markText_l14_ok : ∀ (k1 : Int) (out : ByteArray), Ok (laws_markText_l14 k1 out) e_laws_markText (ev FTA c_laws_markText (.loop k_laws_markText_l14) [.lv 0, .th k_laws_markText_r12] (putS (List.replicate 20 .dead) [(0, .t (.v (.int .i64 k1))), (3, .t (.v (.string out)))]) (putR (List.replicate 20 []) [])) := by
 unfold Ok
 refine laws_markText_l14.partial_correctness _ ?_
 intro F ih k1 out
 show Ok _ _ _
 have ih : ∀ (k1 : Int) (out : ByteArray), Ok (F k1 out) _ _ := ih
 rw [ev_loop]
 have k0 := @k_laws_markText_l14.eq_1; have k1 := @k_laws_markText_r12.eq_1; have t0 := ih
 exact gs
theorem laws_markText_ok : ∀ (k : Int), Ok (laws_markText k) e_laws_markText (dn FTA n_laws_markText [.t (.v (.int .i64 k))]) := by
 intro k
 rw [den_ev FTA (fn := k_laws_markText) rfl (xN rfl rfl _) (lB rfl)]
 have k0 := @k_laws_markText.eq_1; have f0 := @laws_markText.eq_1; have t0 := laws_markText_l14_ok
 exact gs
end TT
