import Derived.Test.YtgihjlfmnfbcaaaTKK
import Derived.Test.YtgihjlfmnfbcaaaTDefs
set_option maxHeartbeats 2000000
set_option linter.unusedVariables false
set_option linter.unusedSimpArgs false
set_option linter.defProp false
set_option maxRecDepth 100000
namespace TT
open Go
open Nat (reduceAdd reduceSub reduceMul reduceLeDiff reduceLT reduceEqDiff)
def e_laws_szDecl (r : Int) : Res := ⟨[.t (.v (.int .i64 r))], []⟩
def c_laws_szDecl : Cx := ⟨2, [0, 0], [.tmp 4]⟩
def e_laws_szDeclS (r : Int) : Res := ⟨[.t (.v (.int .i64 r))], []⟩
def c_laws_szDeclS : Cx := ⟨2, [0, 0], [.tmp 4]⟩
def e_laws_szAttr (r : Int) : Res := ⟨[.t (.v (.int .i64 r))], []⟩
def c_laws_szAttr : Cx := ⟨2, [0, 0], [.tmp 4]⟩
def e_laws_szAttrS (r : Int) : Res := ⟨[.t (.v (.int .i64 r))], []⟩
def c_laws_szAttrS : Cx := ⟨2, [0, 0], [.tmp 4]⟩
def e_laws_szNode (r : Int) : Res := ⟨[.t (.v (.int .i64 r))], []⟩
def c_laws_szNode : Cx := ⟨2, [0, 0], [.tmp 4]⟩
def e_laws_szNodeS (r : Int) : Res := ⟨[.t (.v (.int .i64 r))], []⟩
def c_laws_szNodeS : Cx := ⟨2, [0, 0], [.tmp 4]⟩
def e_laws_toDecl (r : GDecl) : Res := ⟨[.agg [.v (.string r.Pre), .v (.string r.Uri)]], []⟩
def c_laws_toDecl : Cx := ⟨1, [0], [.cell 2 2 true]⟩
def e_laws_toDeclS (r : List GDecl) : Res := ⟨[.t (.sl true (r.map GDecl.row))], []⟩
def c_laws_toDeclS : Cx := ⟨1, [0], [.tmp 2]⟩
def e_laws_toAttr (r : GAttr) : Res := ⟨[.agg [.v (.string r.Pre), .v (.string r.Local), .v (.string r.Uri), .v (.string r.Val)]], []⟩
def c_laws_toAttr : Cx := ⟨1, [0], [.cell 2 4 true]⟩
def e_laws_toAttrS (r : List GAttr) : Res := ⟨[.t (.sl true (r.map GAttr.row))], []⟩
def c_laws_toAttrS : Cx := ⟨1, [0], [.tmp 2]⟩
def e_laws_toNode (r : GNode) : Res := ⟨[.agg [.v (.int .i64 r.Kind), .v (.string r.Pre), .v (.string r.Local), .v (.string r.Uri), .sl true (r.Decls.map GDecl.row), .sl true (r.Attrs.map GAttr.row), .sl true (r.Kids.map (GNode.row true)), .v (.string r.Text)]], []⟩
def c_laws_toNode : Cx := ⟨1, [0], [.cell 2 8 true]⟩
def e_laws_toNodeS (r : List GNode) : Res := ⟨[.t (.sl true (r.map (GNode.row true)))], []⟩
def c_laws_toNodeS : Cx := ⟨1, [0], [.tmp 2]⟩
def e_spec_Nodes (r : Int) : Res := ⟨[.t (.v (.int .i64 r))], []⟩
def c_spec_Nodes : Cx := ⟨1, [0], [.tmp 2]⟩
def e_spec_l5All (r : List GNode) : Res := ⟨[.t (.sl true (r.map (GNode.row true)))], []⟩
def c_spec_l5All : Cx := ⟨1, [0], [.tmp 2]⟩
def e_spec_l5Copy (r : GNode) : Res := ⟨[.agg [.v (.int .i64 r.Kind), .v (.string r.Pre), .v (.string r.Local), .v (.string r.Uri), .sl true (r.Decls.map GDecl.row), .sl true (r.Attrs.map GAttr.row), .sl true (r.Kids.map (GNode.row true)), .v (.string r.Text)]], []⟩
def c_spec_l5Copy : Cx := ⟨1, [0], [.cell 2 8 true]⟩
def e_spec_Alone (r : GNode) : Res := ⟨[.agg [.v (.int .i64 r.Kind), .v (.string r.Pre), .v (.string r.Local), .v (.string r.Uri), .sl true (r.Decls.map GDecl.row), .sl true (r.Attrs.map GAttr.row), .sl true (r.Kids.map (GNode.row true)), .v (.string r.Text)]], []⟩
def c_spec_Alone : Cx := ⟨1, [0], [.cell 2 8 true]⟩
def e_spec_l18Post (r : List GNode × List Int) : Res := ⟨[.t (.sl true (r.1.map (GNode.row true))), .t (.sl true (r.2.map rI))], []⟩
def c_spec_l18Post : Cx := ⟨2, [0, 0], [.tmp 4, .tmp 5]⟩
def e_spec_l18Grid (r : List (List Int)) : Res := ⟨[.t (.sl true (r.map (rL true rI)))], []⟩
def c_spec_l18Grid : Cx := ⟨2, [0, 0], [.tmp 4]⟩
def e_spec_l18Keys (r : List Int) : Res := ⟨[.t (.sl true (r.map rI))], []⟩
def c_spec_l18Keys : Cx := ⟨1, [0], [.tmp 2]⟩
def e_spec_l18Min (r : Int) : Res := ⟨[.t (.v (.int .i64 r))], []⟩
def c_spec_l18Min : Cx := ⟨2, [0, 0], [.tmp 4]⟩
def e_spec_SameNode (r : Bool) : Res := ⟨[.t (.v (.bool r))], []⟩
def c_spec_SameNode : Cx := ⟨2, [0, 0], [.tmp 4]⟩
def e_spec_l18Forest (r : List (List Int)) : Res := ⟨[], [some (r.map (rL true rI))]⟩
def c_spec_l18Forest : Cx := ⟨7, [0, 0, 0, 0, 0, 0, 1], []⟩
def e_spec_Gap (r : Int) : Res := ⟨[.t (.v (.int .i64 r))], []⟩
def c_spec_Gap : Cx := ⟨2, [0, 0], [.tmp 4]⟩
def e_impl_Nodes (r : Int) : Res := ⟨[.t (.v (.int .i64 r))], []⟩
def c_impl_Nodes : Cx := ⟨1, [0], [.tmp 2]⟩
def e_slices_Clone_Decl (r : List GDecl) : Res := ⟨[.t (.sl true (r.map GDecl.row))], []⟩
def c_slices_Clone_Decl : Cx := ⟨1, [0], [.tmp 2]⟩
def e_slices_Clone_Attr (r : List GAttr) : Res := ⟨[.t (.sl true (r.map GAttr.row))], []⟩
def c_slices_Clone_Attr : Cx := ⟨1, [0], [.tmp 2]⟩
def e_impl_cloneNode (r : GNode) : Res := ⟨[.agg [.v (.int .i64 r.Kind), .v (.string r.Pre), .v (.string r.Local), .v (.string r.Uri), .sl true (r.Decls.map GDecl.row), .sl true (r.Attrs.map GAttr.row), .sl true (r.Kids.map (GNode.row true)), .v (.string r.Text)]], []⟩
def c_impl_cloneNode : Cx := ⟨1, [0], [.cell 2 8 true]⟩
def e_impl_cloneNodes (r : List GNode) : Res := ⟨[.t (.sl true (r.map (GNode.row true)))], []⟩
def c_impl_cloneNodes : Cx := ⟨1, [0], [.tmp 2]⟩
def e_impl_Alone (r : GNode) : Res := ⟨[.agg [.v (.int .i64 r.Kind), .v (.string r.Pre), .v (.string r.Local), .v (.string r.Uri), .sl true (r.Decls.map GDecl.row), .sl true (r.Attrs.map GAttr.row), .sl true (r.Kids.map (GNode.row true)), .v (.string r.Text)]], []⟩
def c_impl_Alone : Cx := ⟨1, [0], [.cell 2 8 true]⟩
def e_impl_row_put' (r : Ggaps) : Res := ⟨[], [some [[.sl true (r.xa.xnodes.map (GNode.row true)), .sl true (r.xa.xfirst.map rI), .sl true (r.xb.xnodes.map (GNode.row true)), .sl true (r.xb.xfirst.map rI), .sl true (r.xtree.map (rL true rI))]]]⟩
def c_impl_row_put' : Cx := ⟨2, [1, 0], []⟩
def e_impl_row_put (r : Ggaps) : Res := ⟨[], [some [[.sl true (r.xa.xnodes.map (GNode.row true)), .sl true (r.xa.xfirst.map rI), .sl true (r.xb.xnodes.map (GNode.row true)), .sl true (r.xb.xfirst.map rI), .sl true (r.xtree.map (rL true rI))]]]⟩
def c_impl_row_put : Cx := ⟨2, [1, 0], []⟩
def e_impl_row_put'' (r : Ggaps) : Res := ⟨[], [some [[.sl true (r.xa.xnodes.map (GNode.row true)), .sl true (r.xa.xfirst.map rI), .sl true (r.xb.xnodes.map (GNode.row true)), .sl true (r.xb.xfirst.map rI), .sl true (r.xtree.map (rL true rI))]]]⟩
def c_impl_row_put'' : Cx := ⟨2, [1, 0], []⟩
def e_slices_Equal_Decl (r : Bool) : Res := ⟨[.t (.v (.bool r))], []⟩
def c_slices_Equal_Decl : Cx := ⟨2, [0, 0], [.tmp 4]⟩
def e_slices_Equal_Attr (r : Bool) : Res := ⟨[.t (.v (.bool r))], []⟩
def c_slices_Equal_Attr : Cx := ⟨2, [0, 0], [.tmp 4]⟩
def e_impl_sameAlone (r : Bool) : Res := ⟨[.t (.v (.bool r))], []⟩
def c_impl_sameAlone : Cx := ⟨2, [0, 0], [.tmp 4]⟩
def e_impl_gaps_least (r : Int × Ggaps) : Res := ⟨[.t (.v (.int .i64 r.1))], [some [[.sl true (r.2.xa.xnodes.map (GNode.row true)), .sl true (r.2.xa.xfirst.map rI), .sl true (r.2.xb.xnodes.map (GNode.row true)), .sl true (r.2.xb.xfirst.map rI), .sl true (r.2.xtree.map (rL true rI))]]]⟩
def c_impl_gaps_least : Cx := ⟨6, [1, 0, 0, 0, 0, 0], [.tmp 12]⟩
def e_impl_gaps_count (r : Ggaps) : Res := ⟨[], [some [[.sl true (r.xa.xnodes.map (GNode.row true)), .sl true (r.xa.xfirst.map rI), .sl true (r.xb.xnodes.map (GNode.row true)), .sl true (r.xb.xfirst.map rI), .sl true (r.xtree.map (rL true rI))]]]⟩
def c_impl_gaps_count : Cx := ⟨3, [1, 0, 0], []⟩
def e_impl_Gap (r : Int) : Res := ⟨[.t (.v (.int .i64 r))], []⟩
def c_impl_Gap : Cx := ⟨2, [0, 0], [.tmp 4]⟩
def e_laws_eqDecl (r : Bool) : Res := ⟨[.t (.v (.bool r))], []⟩
def c_laws_eqDecl : Cx := ⟨2, [0, 0], [.tmp 4]⟩
def e_laws_eqDeclS (r : Bool) : Res := ⟨[.t (.v (.bool r))], []⟩
def c_laws_eqDeclS : Cx := ⟨2, [0, 0], [.tmp 4]⟩
def e_laws_eqAttr (r : Bool) : Res := ⟨[.t (.v (.bool r))], []⟩
def c_laws_eqAttr : Cx := ⟨2, [0, 0], [.tmp 4]⟩
def e_laws_eqAttrS (r : Bool) : Res := ⟨[.t (.v (.bool r))], []⟩
def c_laws_eqAttrS : Cx := ⟨2, [0, 0], [.tmp 4]⟩
def e_laws_eqNode (r : Bool) : Res := ⟨[.t (.v (.bool r))], []⟩
def c_laws_eqNode : Cx := ⟨2, [0, 0], [.tmp 4]⟩
def e_laws_eqNodeS (r : Bool) : Res := ⟨[.t (.v (.bool r))], []⟩
def c_laws_eqNodeS : Cx := ⟨2, [0, 0], [.tmp 4]⟩
def e_laws_FnExactGap (r : Bool) : Res := ⟨[.t (.v (.bool r))], []⟩
def c_laws_FnExactGap : Cx := ⟨2, [0, 0], [.tmp 4]⟩
theorem lT {α : Type} (l : List α) : ((lenL l).toNat < l.length + 1) = True := by simp [lenL]
def ES := And.intro @lT <| And.intro (@e_laws_szDecl.eq_1) <| And.intro (@c_laws_szDecl.eq_1) <| And.intro (@e_laws_szDeclS.eq_1) <| And.intro (@c_laws_szDeclS.eq_1) <| And.intro (@e_laws_szAttr.eq_1) <| And.intro (@c_laws_szAttr.eq_1) <| And.intro (@e_laws_szAttrS.eq_1) <| And.intro (@c_laws_szAttrS.eq_1) <| And.intro (@e_laws_szNode.eq_1) <| And.intro (@c_laws_szNode.eq_1) <| And.intro (@e_laws_szNodeS.eq_1) <| And.intro (@c_laws_szNodeS.eq_1) <| And.intro (@e_laws_toDecl.eq_1) <| And.intro (@c_laws_toDecl.eq_1) <| And.intro (@e_laws_toDeclS.eq_1) <| And.intro (@c_laws_toDeclS.eq_1) <| And.intro (@e_laws_toAttr.eq_1) <| And.intro (@c_laws_toAttr.eq_1) <| And.intro (@e_laws_toAttrS.eq_1) <| And.intro (@c_laws_toAttrS.eq_1) <| And.intro (@e_laws_toNode.eq_1) <| And.intro (@c_laws_toNode.eq_1) <| And.intro (@e_laws_toNodeS.eq_1) <| And.intro (@c_laws_toNodeS.eq_1) <| And.intro (@e_spec_Nodes.eq_1) <| And.intro (@c_spec_Nodes.eq_1) <| And.intro (@e_spec_l5All.eq_1) <| And.intro (@c_spec_l5All.eq_1) <| And.intro (@e_spec_l5Copy.eq_1) <| And.intro (@c_spec_l5Copy.eq_1) <| And.intro (@e_spec_Alone.eq_1) <| And.intro (@c_spec_Alone.eq_1) <| And.intro (@e_spec_l18Post.eq_1) <| And.intro (@c_spec_l18Post.eq_1) <| And.intro (@e_spec_l18Grid.eq_1) <| And.intro (@c_spec_l18Grid.eq_1) <| And.intro (@e_spec_l18Keys.eq_1) <| And.intro (@c_spec_l18Keys.eq_1) <| And.intro (@e_spec_l18Min.eq_1) <| And.intro (@c_spec_l18Min.eq_1) <| And.intro (@e_spec_SameNode.eq_1) <| And.intro (@c_spec_SameNode.eq_1) <| And.intro (@e_spec_l18Forest.eq_1) <| And.intro (@c_spec_l18Forest.eq_1) <| And.intro (@e_spec_Gap.eq_1) <| And.intro (@c_spec_Gap.eq_1) <| And.intro (@e_impl_Nodes.eq_1) <| And.intro (@c_impl_Nodes.eq_1) <| And.intro (@e_slices_Clone_Decl.eq_1) <| And.intro (@c_slices_Clone_Decl.eq_1) <| And.intro (@e_slices_Clone_Attr.eq_1) <| And.intro (@c_slices_Clone_Attr.eq_1) <| And.intro (@e_impl_cloneNode.eq_1) <| And.intro (@c_impl_cloneNode.eq_1) <| And.intro (@e_impl_cloneNodes.eq_1) <| And.intro (@c_impl_cloneNodes.eq_1) <| And.intro (@e_impl_Alone.eq_1) <| And.intro (@c_impl_Alone.eq_1) <| And.intro (@e_impl_row_put'.eq_1) <| And.intro (@c_impl_row_put'.eq_1) <| And.intro (@e_impl_row_put.eq_1) <| And.intro (@c_impl_row_put.eq_1) <| And.intro (@e_impl_row_put''.eq_1) <| And.intro (@c_impl_row_put''.eq_1) <| And.intro (@e_slices_Equal_Decl.eq_1) <| And.intro (@c_slices_Equal_Decl.eq_1) <| And.intro (@e_slices_Equal_Attr.eq_1) <| And.intro (@c_slices_Equal_Attr.eq_1) <| And.intro (@e_impl_sameAlone.eq_1) <| And.intro (@c_impl_sameAlone.eq_1) <| And.intro (@e_impl_gaps_least.eq_1) <| And.intro (@c_impl_gaps_least.eq_1) <| And.intro (@e_impl_gaps_count.eq_1) <| And.intro (@c_impl_gaps_count.eq_1) <| And.intro (@e_impl_Gap.eq_1) <| And.intro (@c_impl_Gap.eq_1) <| And.intro (@e_laws_eqDecl.eq_1) <| And.intro (@c_laws_eqDecl.eq_1) <| And.intro (@e_laws_eqDeclS.eq_1) <| And.intro (@c_laws_eqDeclS.eq_1) <| And.intro (@e_laws_eqAttr.eq_1) <| And.intro (@c_laws_eqAttr.eq_1) <| And.intro (@e_laws_eqAttrS.eq_1) <| And.intro (@c_laws_eqAttrS.eq_1) <| And.intro (@e_laws_eqNode.eq_1) <| And.intro (@c_laws_eqNode.eq_1) <| And.intro (@e_laws_eqNodeS.eq_1) <| And.intro (@c_laws_eqNodeS.eq_1) <| And.intro (@e_laws_FnExactGap.eq_1) <| @c_laws_FnExactGap.eq_1
theorem xN {f : FuncId} (h : FTA.cl.contains f = false) (h2 : (FTA.lb.all fun p => p.1 != f) = true) (args : List Arg) : xOf FTA f args = none := xOf_none h h2 args
theorem lB {a b : Nat} (h : Nat.ble a b = true) : a ≤ b := Nat.le_of_ble_eq_true h
theorem gs {p : Prop} (h : p := by
 try simp only [SSA, RS, reduceAdd, reduceSub, reduceMul, reduceLeDiff, reduceLT, reduceEqDiff, Nat.reduceBEq, ↓reduceIte, reduceCtorEq] at g0
 try simp only [SSA, RS, reduceAdd, reduceSub, reduceMul, reduceLeDiff, reduceLT, reduceEqDiff, Nat.reduceBEq, ↓reduceIte, reduceCtorEq] at g1
 try simp only [SSA, RS, reduceAdd, reduceSub, reduceMul, reduceLeDiff, reduceLT, reduceEqDiff, Nat.reduceBEq, ↓reduceIte, reduceCtorEq] at g2
 try simp only [SSA, RS, reduceAdd, reduceSub, reduceMul, reduceLeDiff, reduceLT, reduceEqDiff, Nat.reduceBEq, ↓reduceIte, reduceCtorEq] at g3
 try simp only [SSA, RS, reduceAdd, reduceSub, reduceMul, reduceLeDiff, reduceLT, reduceEqDiff, Nat.reduceBEq, ↓reduceIte, reduceCtorEq] at g4
 simp only [SSA, RS, ES, *, reduceAdd, reduceSub, reduceMul, reduceLeDiff, reduceLT, reduceEqDiff, Nat.reduceBEq, ↓reduceIte, reduceCtorEq]
 try clear k0
 try clear f0
 repeat' first
  | with_reducible exact Ok_none
  | ((with_reducible refine Ok_ret ?_); first | rfl | simp only [SSA, RS, ES])
  | ((with_reducible first
   | refine Ok_tail (t0 ..) ?_
   | refine Ok_tail (t1 ..) ?_); first | rfl | (simp only [SSA, RS, ES, reduceAdd, reduceSub, reduceMul, reduceLeDiff, reduceLT, reduceEqDiff, Nat.reduceBEq, ↓reduceIte, reduceCtorEq] <;> rfl) | (simp only [SSA, RS, ES, *, reduceAdd, reduceSub, reduceMul, reduceLeDiff, reduceLT, reduceEqDiff, Nat.reduceBEq, ↓reduceIte, reduceCtorEq] <;> rfl))
  | ((first
   | (with_reducible first
    | refine Ok_if (fun h => ?_) (fun h => ?_)
    | refine Ok_get fun a h => ?_
    | refine Ok_call (g0 ..) fun v => ?_
    | refine Ok_call (g1 ..) fun v => ?_
    | refine Ok_call (g2 ..) fun v => ?_
    | refine Ok_call (g3 ..) fun v => ?_
    | refine Ok_call (g4 ..) fun v => ?_
    | refine Ok_call g0 fun v => ?_
    | refine Ok_call g1 fun v => ?_
    | refine Ok_call g2 fun v => ?_
    | refine Ok_prim (p := catS _ _) fun a h => ?_
    | refine Ok_prim (p := room _ _) fun a h => ?_
    | refine Ok_prim (p := mkN _ _) fun a h => ?_
    | refine Ok_prim (p := subS _ _ _) fun a h => ?_
    | refine Ok_prim (p := slL _ _ _) fun a h => ?_
    | refine Ok_prim (p := atS _ _) fun a h => ?_
    | refine Ok_prim (p := quoI _ _) fun a h => ?_
    | refine Ok_prim (p := remI _ _) fun a h => ?_
    | refine Ok_prim (p := quoK _ _ _) fun a h => ?_
    | refine Ok_prim (p := remK _ _ _) fun a h => ?_
    | refine Ok_prim (p := shlK _ _ _) fun a h => ?_
    | refine Ok_prim (p := shrK _ _ _) fun a h => ?_
    | refine Ok_same fun h => ?_)
   | refine Ok_call (g0 ..) fun v => ?_
   | refine Ok_call (g1 ..) fun v => ?_
   | refine Ok_call (g2 ..) fun v => ?_
   | refine Ok_call (g3 ..) fun v => ?_
   | refine Ok_call (g4 ..) fun v => ?_) <;> simp only [SSA, RS, ES, *, reduceAdd, reduceSub, reduceMul, reduceLeDiff, reduceLT, reduceEqDiff, Nat.reduceBEq, ↓reduceIte, reduceCtorEq])) : p := h
theorem laws_szDecl_ok : ∀ (a : GDecl) (left : Int), Ok (laws_szDecl a left) e_laws_szDecl (dn FTA n_laws_szDecl [.agg ((GDecl.row a).map .t), .t (.v (.int .i64 left))]) := by
 intro a left
 rw [den_ev FTA (fn := k_laws_szDecl) rfl (xN rfl rfl _) (lB rfl)]
 have k0 := @k_laws_szDecl.eq_1; have f0 := @laws_szDecl.eq_1
 exact gs
theorem laws_szDeclS_l16_ok (a : List GDecl) : ∀ (left1 : Int) (i : Int), Ok (laws_szDeclS_l16 a left1 i) e_laws_szDeclS (ev FTA c_laws_szDeclS (.loop k_laws_szDeclS_l16) [.lv 0, .th k_laws_szDeclS_r12] (putS (List.replicate 27 .dead) [(0, .t (.sl false (a.map GDecl.row))), (1, .t (.v (.int .i64 left1))), (5, .t (.v (.int .i64 i)))]) (putR (List.replicate 27 []) [])) := by
 unfold Ok
 refine laws_szDeclS_l16.partial_correctness a _ ?_
 intro F ih left1 i
 show Ok _ _ _
 have ih : ∀ (left1 : Int) (i : Int), Ok (F left1 i) _ _ := ih
 rw [ev_loop]
 have k0 := @k_laws_szDeclS_l16.eq_1; have k1 := @k_laws_szDeclS_r12.eq_1; have g0 := laws_szDecl_ok; have t0 := ih
 exact gs
theorem laws_szDeclS_ok : ∀ (a : List GDecl) (left : Int), Ok (laws_szDeclS a left) e_laws_szDeclS (dn FTA n_laws_szDeclS [.t (.sl false (a.map GDecl.row)), .t (.v (.int .i64 left))]) := by
 intro a left
 rw [den_ev FTA (fn := k_laws_szDeclS) rfl (xN rfl rfl _) (lB rfl)]
 have k0 := @k_laws_szDeclS.eq_1; have f0 := @laws_szDeclS.eq_1; have t0 := laws_szDeclS_l16_ok
 exact gs
theorem laws_szAttr_ok : ∀ (a : GAttr) (left : Int), Ok (laws_szAttr a left) e_laws_szAttr (dn FTA n_laws_szAttr [.agg ((GAttr.row a).map .t), .t (.v (.int .i64 left))]) := by
 intro a left
 rw [den_ev FTA (fn := k_laws_szAttr) rfl (xN rfl rfl _) (lB rfl)]
 have k0 := @k_laws_szAttr.eq_1; have f0 := @laws_szAttr.eq_1
 exact gs
theorem laws_szAttrS_l16_ok (a : List GAttr) : ∀ (left1 : Int) (i : Int), Ok (laws_szAttrS_l16 a left1 i) e_laws_szAttrS (ev FTA c_laws_szAttrS (.loop k_laws_szAttrS_l16) [.lv 0, .th k_laws_szAttrS_r12] (putS (List.replicate 27 .dead) [(0, .t (.sl false (a.map GAttr.row))), (1, .t (.v (.int .i64 left1))), (5, .t (.v (.int .i64 i)))]) (putR (List.replicate 27 []) [])) := by
 unfold Ok
 refine laws_szAttrS_l16.partial_correctness a _ ?_
 intro F ih left1 i
 show Ok _ _ _
 have ih : ∀ (left1 : Int) (i : Int), Ok (F left1 i) _ _ := ih
 rw [ev_loop]
 have k0 := @k_laws_szAttrS_l16.eq_1; have k1 := @k_laws_szAttrS_r12.eq_1; have g0 := laws_szAttr_ok; have t0 := ih
 exact gs
theorem laws_szAttrS_ok : ∀ (a : List GAttr) (left : Int), Ok (laws_szAttrS a left) e_laws_szAttrS (dn FTA n_laws_szAttrS [.t (.sl false (a.map GAttr.row)), .t (.v (.int .i64 left))]) := by
 intro a left
 rw [den_ev FTA (fn := k_laws_szAttrS) rfl (xN rfl rfl _) (lB rfl)]
 have k0 := @k_laws_szAttrS.eq_1; have f0 := @laws_szAttrS.eq_1; have t0 := laws_szAttrS_l16_ok
 exact gs
theorem G_laws_szNode : (∀ (a : GNode) (left : Int), Ok (laws_szNode a left) e_laws_szNode (dn FTA n_laws_szNode [.agg (((GNode.row false) a).map .t), .t (.v (.int .i64 left))])) ∧
  (∀ (a : List GNode) (left : Int), Ok (laws_szNodeS a left) e_laws_szNodeS (dn FTA n_laws_szNodeS [.t (.sl false (a.map (GNode.row false))), .t (.v (.int .i64 left))])) ∧
  (∀ (a : List GNode) (left1 : Int) (i : Int), Ok (laws_szNodeS_l16 a left1 i) e_laws_szNodeS (ev FTA c_laws_szNodeS (.loop k_laws_szNodeS_l16) [.lv 0, .th k_laws_szNodeS_r12] (putS (List.replicate 27 .dead) [(0, .t (.sl false (a.map (GNode.row false)))), (1, .t (.v (.int .i64 left1))), (5, .t (.v (.int .i64 i)))]) (putR (List.replicate 27 []) []))) := by
 unfold Ok
 refine laws_szNode.mutual_partial_correctness _ _ _ ?_ ?_ ?_
 ·intro F1 ih1 a left
  show Ok _ _ _
  have ih1 : ∀ (a : List GNode) (left : Int), Ok (F1 a left) _ _ := ih1
  rw [den_ev FTA (fn := k_laws_szNode) rfl (xN rfl rfl _) (lB rfl)]
  have k0 := @k_laws_szNode.eq_1; have g0 := laws_szDeclS_ok; have g1 := laws_szAttrS_ok; have g2 := ih1
  exact gs
 ·intro F2 ih2 a left
  show Ok _ _ _
  have ih2 : ∀ (a : List GNode) (left1 : Int) (i : Int), Ok (F2 a left1 i) _ _ := ih2
  rw [den_ev FTA (fn := k_laws_szNodeS) rfl (xN rfl rfl _) (lB rfl)]
  have k0 := @k_laws_szNodeS.eq_1; have t0 := ih2
  exact gs
 ·intro F0 F2 ih0 ih2 a left1 i
  show Ok _ _ _
  have ih0 : ∀ (a : GNode) (left : Int), Ok (F0 a left) _ _ := ih0
  have ih2 : ∀ (a : List GNode) (left1 : Int) (i : Int), Ok (F2 a left1 i) _ _ := ih2
  rw [ev_loop]
  have k0 := @k_laws_szNodeS_l16.eq_1; have k1 := @k_laws_szNodeS_r12.eq_1; have g0 := ih0; have t0 := ih2
  exact gs
theorem laws_szNode_ok (a : GNode) (left : Int) : Ok (laws_szNode a left) e_laws_szNode (dn FTA n_laws_szNode [.agg (((GNode.row false) a).map .t), .t (.v (.int .i64 left))]) := G_laws_szNode.1 a left
theorem laws_szNodeS_ok (a : List GNode) (left : Int) : Ok (laws_szNodeS a left) e_laws_szNodeS (dn FTA n_laws_szNodeS [.t (.sl false (a.map (GNode.row false))), .t (.v (.int .i64 left))]) := G_laws_szNode.2.1 a left
theorem laws_toDecl_ok : ∀ (a : GDecl), Ok (laws_toDecl a) e_laws_toDecl (dn FTA n_laws_toDecl [.agg ((GDecl.row a).map .t)]) := by
 intro a
 rw [den_ev FTA (fn := k_laws_toDecl) rfl (xN rfl rfl _) (lB rfl)]
 have k0 := @k_laws_toDecl.eq_1; have f0 := @laws_toDecl.eq_1
 exact gs
theorem laws_toDeclS_l8_ok (a : List GDecl) : ∀ (out : List (GDecl)) (i : Int), Ok (laws_toDeclS_l8 a out i) e_laws_toDeclS (ev FTA c_laws_toDeclS (.loop k_laws_toDeclS_l8) [.lv 0, .th k_laws_toDeclS_r4] (putS (List.replicate 23 .dead) [(0, .t (.sl false (a.map GDecl.row))), (3, .ref (7, 0) out.length), (4, .t (.v (.int .i64 i)))]) (putR (List.replicate 23 []) [(7, [.mem (out.map GDecl.row) 0 false])])) := by
 unfold Ok
 refine laws_toDeclS_l8.partial_correctness a _ ?_
 intro F ih out i
 show Ok _ _ _
 have ih : ∀ (out : List (GDecl)) (i : Int), Ok (F out i) _ _ := ih
 rw [ev_loop]
 have k0 := @k_laws_toDeclS_l8.eq_1; have k1 := @k_laws_toDeclS_r4.eq_1; have g0 := laws_toDecl_ok; have t0 := ih
 exact gs
theorem laws_toDeclS_ok : ∀ (a : List GDecl), Ok (laws_toDeclS a) e_laws_toDeclS (dn FTA n_laws_toDeclS [.t (.sl false (a.map GDecl.row))]) := by
 intro a
 rw [den_ev FTA (fn := k_laws_toDeclS) rfl (xN rfl rfl _) (lB rfl)]
 have k0 := @k_laws_toDeclS.eq_1; have f0 := @laws_toDeclS.eq_1; have t0 := laws_toDeclS_l8_ok
 exact gs
theorem laws_toAttr_ok : ∀ (a : GAttr), Ok (laws_toAttr a) e_laws_toAttr (dn FTA n_laws_toAttr [.agg ((GAttr.row a).map .t)]) := by
 intro a
 rw [den_ev FTA (fn := k_laws_toAttr) rfl (xN rfl rfl _) (lB rfl)]
 have k0 := @k_laws_toAttr.eq_1; have f0 := @laws_toAttr.eq_1
 exact gs
theorem laws_toAttrS_l8_ok (a : List GAttr) : ∀ (out : List (GAttr)) (i : Int), Ok (laws_toAttrS_l8 a out i) e_laws_toAttrS (ev FTA c_laws_toAttrS (.loop k_laws_toAttrS_l8) [.lv 0, .th k_laws_toAttrS_r4] (putS (List.replicate 23 .dead) [(0, .t (.sl false (a.map GAttr.row))), (3, .ref (7, 0) out.length), (4, .t (.v (.int .i64 i)))]) (putR (List.replicate 23 []) [(7, [.mem (out.map GAttr.row) 0 false])])) := by
 unfold Ok
 refine laws_toAttrS_l8.partial_correctness a _ ?_
 intro F ih out i
 show Ok _ _ _
 have ih : ∀ (out : List (GAttr)) (i : Int), Ok (F out i) _ _ := ih
 rw [ev_loop]
 have k0 := @k_laws_toAttrS_l8.eq_1; have k1 := @k_laws_toAttrS_r4.eq_1; have g0 := laws_toAttr_ok; have t0 := ih
 exact gs
theorem laws_toAttrS_ok : ∀ (a : List GAttr), Ok (laws_toAttrS a) e_laws_toAttrS (dn FTA n_laws_toAttrS [.t (.sl false (a.map GAttr.row))]) := by
 intro a
 rw [den_ev FTA (fn := k_laws_toAttrS) rfl (xN rfl rfl _) (lB rfl)]
 have k0 := @k_laws_toAttrS.eq_1; have f0 := @laws_toAttrS.eq_1; have t0 := laws_toAttrS_l8_ok
 exact gs
theorem G_laws_toNode : (∀ (a : GNode), Ok (laws_toNode a) e_laws_toNode (dn FTA n_laws_toNode [.agg (((GNode.row false) a).map .t)])) ∧
  (∀ (a : List GNode), Ok (laws_toNodeS a) e_laws_toNodeS (dn FTA n_laws_toNodeS [.t (.sl false (a.map (GNode.row false)))])) ∧
  (∀ (a : List GNode) (out : List (GNode)) (i : Int), Ok (laws_toNodeS_l8 a out i) e_laws_toNodeS (ev FTA c_laws_toNodeS (.loop k_laws_toNodeS_l8) [.lv 0, .th k_laws_toNodeS_r4] (putS (List.replicate 23 .dead) [(0, .t (.sl false (a.map (GNode.row false)))), (3, .ref (7, 0) out.length), (4, .t (.v (.int .i64 i)))]) (putR (List.replicate 23 []) [(7, [.mem (out.map (GNode.row true)) 0 false])]))) := by
 unfold Ok
 refine laws_toNode.mutual_partial_correctness _ _ _ ?_ ?_ ?_
 ·intro F1 ih1 a
  show Ok _ _ _
  have ih1 : ∀ (a : List GNode), Ok (F1 a) _ _ := ih1
  rw [den_ev FTA (fn := k_laws_toNode) rfl (xN rfl rfl _) (lB rfl)]
  have k0 := @k_laws_toNode.eq_1; have g0 := laws_toDeclS_ok; have g1 := laws_toAttrS_ok; have g2 := ih1
  exact gs
 ·intro F2 ih2 a
  show Ok _ _ _
  have ih2 : ∀ (a : List GNode) (out : List (GNode)) (i : Int), Ok (F2 a out i) _ _ := ih2
  rw [den_ev FTA (fn := k_laws_toNodeS) rfl (xN rfl rfl _) (lB rfl)]
  have k0 := @k_laws_toNodeS.eq_1; have t0 := ih2
  exact gs
 ·intro F0 F2 ih0 ih2 a out i
  show Ok _ _ _
  have ih0 : ∀ (a : GNode), Ok (F0 a) _ _ := ih0
  have ih2 : ∀ (a : List GNode) (out : List (GNode)) (i : Int), Ok (F2 a out i) _ _ := ih2
  rw [ev_loop]
  have k0 := @k_laws_toNodeS_l8.eq_1; have k1 := @k_laws_toNodeS_r4.eq_1; have g0 := ih0; have t0 := ih2
  exact gs
theorem laws_toNode_ok (a : GNode) : Ok (laws_toNode a) e_laws_toNode (dn FTA n_laws_toNode [.agg (((GNode.row false) a).map .t)]) := G_laws_toNode.1 a
theorem laws_toNodeS_ok (a : List GNode) : Ok (laws_toNodeS a) e_laws_toNodeS (dn FTA n_laws_toNodeS [.t (.sl false (a.map (GNode.row false)))]) := G_laws_toNode.2.1 a
theorem G_spec_Nodes : (∀ (n : GNode), Ok (spec_Nodes n) e_spec_Nodes (dn FTA n_spec_Nodes [.agg (((GNode.row false) n).map .t)])) ∧
  (∀ (k : Int) (i : Int) (n : GNode), Ok (spec_Nodes_l8 k i n) e_spec_Nodes (ev FTA c_spec_Nodes (.loop k_spec_Nodes_l8) [.lv 0, .th k_spec_Nodes_r4] (putS (List.replicate 21 .dead) [(1, .ptr (1, 0) [] 0 0 1 0), (3, .t (.v (.int .i64 k))), (4, .t (.v (.int .i64 i)))]) (putR (List.replicate 21 []) [(1, [.mem [[.v (.int .i64 n.Kind), .v (.string n.Pre), .v (.string n.Local), .v (.string n.Uri), .sl false (n.Decls.map GDecl.row), .sl false (n.Attrs.map GAttr.row), .sl false (n.Kids.map (GNode.row false)), .v (.string n.Text)]] 0 false])]))) := by
 unfold Ok
 refine spec_Nodes.mutual_partial_correctness _ _ ?_ ?_
 ·intro F1 ih1 n
  show Ok _ _ _
  have ih1 : ∀ (k : Int) (i : Int) (n : GNode), Ok (F1 k i n) _ _ := ih1
  rw [den_ev FTA (fn := k_spec_Nodes) rfl (xN rfl rfl _) (lB rfl)]
  have k0 := @k_spec_Nodes.eq_1; have t0 := ih1
  exact gs
 ·intro F0 F1 ih0 ih1 k i n
  show Ok _ _ _
  have ih0 : ∀ (n : GNode), Ok (F0 n) _ _ := ih0
  have ih1 : ∀ (k : Int) (i : Int) (n : GNode), Ok (F1 k i n) _ _ := ih1
  rw [ev_loop]
  have k0 := @k_spec_Nodes_l8.eq_1; have k1 := @k_spec_Nodes_r4.eq_1; have g0 := ih0; have t0 := ih1
  exact gs
theorem spec_Nodes_ok (n : GNode) : Ok (spec_Nodes n) e_spec_Nodes (dn FTA n_spec_Nodes [.agg (((GNode.row false) n).map .t)]) := G_spec_Nodes.1 n
theorem G_spec_l5All : (∀ (l : List GNode), Ok (spec_l5All l) e_spec_l5All (dn FTA n_spec_l5All [.t (.sl false (l.map (GNode.row false)))])) ∧
  (∀ (l : List GNode) (out : List (GNode)) (i : Int), Ok (spec_l5All_l8 l out i) e_spec_l5All (ev FTA c_spec_l5All (.loop k_spec_l5All_l8) [.lv 0, .th k_spec_l5All_r4] (putS (List.replicate 23 .dead) [(0, .t (.sl false (l.map (GNode.row false)))), (3, .ref (6, 0) out.length), (4, .t (.v (.int .i64 i)))]) (putR (List.replicate 23 []) [(6, [.mem (out.map (GNode.row true)) 0 false])]))) ∧
  (∀ (n : GNode), Ok (spec_l5Copy n) e_spec_l5Copy (dn FTA n_spec_l5Copy [.agg (((GNode.row false) n).map .t)])) := by
 unfold Ok
 refine spec_l5All.mutual_partial_correctness _ _ _ ?_ ?_ ?_
 ·intro F1 ih1 l
  show Ok _ _ _
  have ih1 : ∀ (l : List GNode) (out : List (GNode)) (i : Int), Ok (F1 l out i) _ _ := ih1
  rw [den_ev FTA (fn := k_spec_l5All) rfl (xN rfl rfl _) (lB rfl)]
  have k0 := @k_spec_l5All.eq_1; have t0 := ih1
  exact gs
 ·intro F1 F2 ih1 ih2 l out i
  show Ok _ _ _
  have ih2 : ∀ (n : GNode), Ok (F2 n) _ _ := ih2
  have ih1 : ∀ (l : List GNode) (out : List (GNode)) (i : Int), Ok (F1 l out i) _ _ := ih1
  rw [ev_loop]
  have k0 := @k_spec_l5All_l8.eq_1; have k1 := @k_spec_l5All_r4.eq_1; have g0 := ih2; have t0 := ih1
  exact gs
 ·intro F0 ih0 n
  show Ok _ _ _
  have ih0 : ∀ (l : List GNode), Ok (F0 l) _ _ := ih0
  rw [den_ev FTA (fn := k_spec_l5Copy) rfl (xN rfl rfl _) (lB rfl)]
  have k0 := @k_spec_l5Copy.eq_1; have g0 := ih0
  exact gs
theorem spec_l5All_ok (l : List GNode) : Ok (spec_l5All l) e_spec_l5All (dn FTA n_spec_l5All [.t (.sl false (l.map (GNode.row false)))]) := G_spec_l5All.1 l
theorem spec_l5Copy_ok (n : GNode) : Ok (spec_l5Copy n) e_spec_l5Copy (dn FTA n_spec_l5Copy [.agg (((GNode.row false) n).map .t)]) := G_spec_l5All.2.2 n
theorem spec_Alone_ok : ∀ (n : GNode), Ok (spec_Alone n) e_spec_Alone (dn FTA n_spec_Alone [.agg (((GNode.row false) n).map .t)]) := by
 intro n
 rw [den_ev FTA (fn := k_spec_Alone) rfl (xN rfl rfl _) (lB rfl)]
 have k0 := @k_spec_Alone.eq_1; have f0 := @spec_Alone.eq_1; have g0 := spec_l5Copy_ok
 exact gs
theorem G_spec_l18Post : (∀ (n : GNode) (at1 : Int), Ok (spec_l18Post n at1) e_spec_l18Post (dn FTA n_spec_l18Post [.agg (((GNode.row false) n).map .t), .t (.v (.int .i64 at1))])) ∧
  (∀ (at1 : Int) (l : List (GNode)) (first : List (Int)) (i : Int) (n : GNode), Ok (spec_l18Post_l10 at1 l first i n) e_spec_l18Post (ev FTA c_spec_l18Post (.loop k_spec_l18Post_l10) [.lv 0, .th k_spec_l18Post_r6] (putS (List.replicate 50 .dead) [(1, .t (.v (.int .i64 at1))), (2, .ptr (2, 0) [] 0 0 1 0), (6, .ref (12, 0) l.length), (7, .ref (13, 0) first.length), (8, .t (.v (.int .i64 i)))]) (putR (List.replicate 50 []) [(2, [.mem [[.v (.int .i64 n.Kind), .v (.string n.Pre), .v (.string n.Local), .v (.string n.Uri), .sl false (n.Decls.map GDecl.row), .sl false (n.Attrs.map GAttr.row), .sl false (n.Kids.map (GNode.row false)), .v (.string n.Text)]] 0 false]), (12, [.mem (l.map (GNode.row true)) 0 false]), (13, [.mem (first.map rI) 0 false])]))) := by
 unfold Ok
 refine spec_l18Post.mutual_partial_correctness _ _ ?_ ?_
 ·intro F1 ih1 n at1
  show Ok _ _ _
  have ih1 : ∀ (at1 : Int) (l : List (GNode)) (first : List (Int)) (i : Int) (n : GNode), Ok (F1 at1 l first i n) _ _ := ih1
  rw [den_ev FTA (fn := k_spec_l18Post) rfl (xN rfl rfl _) (lB rfl)]
  have k0 := @k_spec_l18Post.eq_1; have t0 := ih1
  exact gs
 ·intro F0 F1 ih0 ih1 at1 l first i n
  show Ok _ _ _
  have ih0 : ∀ (n : GNode) (at1 : Int), Ok (F0 n at1) _ _ := ih0
  have ih1 : ∀ (at1 : Int) (l : List (GNode)) (first : List (Int)) (i : Int) (n : GNode), Ok (F1 at1 l first i n) _ _ := ih1
  rw [ev_loop]
  have k0 := @k_spec_l18Post_l10.eq_1; have k1 := @k_spec_l18Post_r6.eq_1; have g0 := ih0; have g1 := spec_Alone_ok; have t0 := ih1
  exact gs
end TT
