import Derived.Test.YtdpdfjkjlkmjaaaTKK
import Derived.Test.YtdpdfjkjlkmjaaaTDefs
set_option maxHeartbeats 2000000
set_option linter.unusedVariables false
set_option linter.unusedSimpArgs false
set_option linter.defProp false
set_option maxRecDepth 100000
namespace TT
open Go
open Nat (reduceAdd reduceSub reduceMul reduceLeDiff reduceLT reduceEqDiff)
def e_laws_big (r : Bool) : Res := ⟨[.t (.v (.bool r))], []⟩
def c_laws_big : Cx := ⟨1, [0], [.tmp 2]⟩
def e_spec_l1New (r : Gl1Cur) : Res := ⟨[.box [.sl false (r.xb.map (rK .u8)), .v (.int .i64 r.xi), .v (.int .i64 r.xh)]], []⟩
def c_spec_l1New : Cx := ⟨1, [0], [.tmp 2]⟩
def e_spec_l1Byte (r : Int × Gl1Cur) : Res := ⟨[.t (.v (.int .i64 r.1))], [some [[.sl false (r.2.xb.map (rK .u8)), .v (.int .i64 r.2.xi), .v (.int .i64 r.2.xh)]]]⟩
def c_spec_l1Byte : Cx := ⟨1, [1], [.tmp 2]⟩
def e_spec_l1Below (r : Int × Gl1Cur) : Res := ⟨[.t (.v (.int .i64 r.1))], [some [[.sl false (r.2.xb.map (rK .u8)), .v (.int .i64 r.2.xi), .v (.int .i64 r.2.xh)]]]⟩
def c_spec_l1Below : Cx := ⟨2, [1, 0], [.tmp 4]⟩
def e_spec_l1Str (r : ByteArray × Gl1Cur) : Res := ⟨[.t (.v (.string r.1))], [some [[.sl false (r.2.xb.map (rK .u8)), .v (.int .i64 r.2.xi), .v (.int .i64 r.2.xh)]]]⟩
def c_spec_l1Str : Cx := ⟨2, [1, 0], [.tmp 4]⟩
def e_spec_l18Small (r : GNode × Gl1Cur × Int) : Res := ⟨[.agg [.v (.int .i64 r.1.Kind), .v (.string r.1.Pre), .v (.string r.1.Local), .v (.string r.1.Uri), .sl true (r.1.Decls.map GDecl.row), .sl true (r.1.Attrs.map GAttr.row), .sl true (r.1.Kids.map (GNode.row true)), .v (.string r.1.Text)]], [some [[.sl false (r.2.1.xb.map (rK .u8)), .v (.int .i64 r.2.1.xi), .v (.int .i64 r.2.1.xh)]], some [[.v (.int .i64 r.2.2)]]]⟩
def c_spec_l18Small : Cx := ⟨2, [1, 1], [.cell 4 8 true]⟩
def e_spec_DrawSmall (r : GNode × GNode × GNode) : Res := ⟨[.agg [.v (.int .i64 r.1.Kind), .v (.string r.1.Pre), .v (.string r.1.Local), .v (.string r.1.Uri), .sl true (r.1.Decls.map GDecl.row), .sl true (r.1.Attrs.map GAttr.row), .sl true (r.1.Kids.map (GNode.row true)), .v (.string r.1.Text)], .agg [.v (.int .i64 r.2.1.Kind), .v (.string r.2.1.Pre), .v (.string r.2.1.Local), .v (.string r.2.1.Uri), .sl true (r.2.1.Decls.map GDecl.row), .sl true (r.2.1.Attrs.map GAttr.row), .sl true (r.2.1.Kids.map (GNode.row true)), .v (.string r.2.1.Text)], .agg [.v (.int .i64 r.2.2.Kind), .v (.string r.2.2.Pre), .v (.string r.2.2.Local), .v (.string r.2.2.Uri), .sl true (r.2.2.Decls.map GDecl.row), .sl true (r.2.2.Attrs.map GAttr.row), .sl true (r.2.2.Kids.map (GNode.row true)), .v (.string r.2.2.Text)]], []⟩
def c_spec_DrawSmall : Cx := ⟨1, [0], [.cell 2 8 true, .cell 3 8 true, .cell 4 8 true]⟩
def e_impl_Nodes (r : Int) : Res := ⟨[.t (.v (.int .i64 r))], []⟩
def c_impl_Nodes : Cx := ⟨1, [0], [.tmp 2]⟩
def e_slices_Clone_Decl (r : List GDecl) : Res := ⟨[.t (.sl true (r.map GDecl.row))], []⟩
def c_slices_Clone_Decl : Cx := ⟨1, [0], [.tmp 2]⟩
def e_slices_Clone_Attr (r : List GAttr) : Res := ⟨[.t (.sl true (r.map GAttr.row))], []⟩
def c_slices_Clone_Attr : Cx := ⟨1, [0], [.tmp 2]⟩
def e_impl_cloneNode (r : GNode) : Res := ⟨[.agg [.v (.int .i64 r.Kind), .v (.string r.Pre), .v (.string r.Local), .v (.string r.Uri), .sl true (r.Decls.map GDecl.row), .sl true (r.Attrs.map GAttr.row), .sl true (r.Kids.map (GNode.row true)), .v (.string r.Text)]], []⟩
def c_impl_cloneNode : Cx := ⟨1, [0], [.cell 2 8 true]⟩
def e_impl_cloneNodes (r : List GNode) : Res := ⟨[.t (.sl true (r.map (GNode.row true)))], []⟩
def c_impl_cloneNodes : Cx := ⟨1, [0], [.tmp 2]⟩
def e_impl_Alone (r : GNode) : Res := ⟨[.agg [.v (.int .i64 r.Kind), .v (.string r.Pre), .v (.string r.Local), .v (.string r.Uri), .sl true (r.Decls.map GDecl.row), .sl true (r.Attrs.map GAttr.row), .sl true (r.Kids.map (GNode.row true)), .v (.string r.Text)]], []⟩
def c_impl_Alone : Cx := ⟨1, [0], [.cell 2 8 true]⟩
def e_impl_row_put' (r : Ggaps) : Res := ⟨[], [some [[.sl true (r.xa.xnodes.map (GNode.row true)), .sl true (r.xa.xfirst.map rI), .sl true (r.xb.xnodes.map (GNode.row true)), .sl true (r.xb.xfirst.map rI), .sl true (r.xtree.map (rL true rI))]]]⟩
def c_impl_row_put' : Cx := ⟨2, [1, 0], []⟩
def e_impl_row_put (r : Ggaps) : Res := ⟨[], [some [[.sl true (r.xa.xnodes.map (GNode.row true)), .sl true (r.xa.xfirst.map rI), .sl true (r.xb.xnodes.map (GNode.row true)), .sl true (r.xb.xfirst.map rI), .sl true (r.xtree.map (rL true rI))]]]⟩
def c_impl_row_put : Cx := ⟨2, [1, 0], []⟩
def e_impl_row_put'' (r : Ggaps) : Res := ⟨[], [some [[.sl true (r.xa.xnodes.map (GNode.row true)), .sl true (r.xa.xfirst.map rI), .sl true (r.xb.xnodes.map (GNode.row true)), .sl true (r.xb.xfirst.map rI), .sl true (r.xtree.map (rL true rI))]]]⟩
def c_impl_row_put'' : Cx := ⟨2, [1, 0], []⟩
def e_slices_Equal_Decl (r : Bool) : Res := ⟨[.t (.v (.bool r))], []⟩
def c_slices_Equal_Decl : Cx := ⟨2, [0, 0], [.tmp 4]⟩
def e_slices_Equal_Attr (r : Bool) : Res := ⟨[.t (.v (.bool r))], []⟩
def c_slices_Equal_Attr : Cx := ⟨2, [0, 0], [.tmp 4]⟩
def e_impl_sameAlone (r : Bool) : Res := ⟨[.t (.v (.bool r))], []⟩
def c_impl_sameAlone : Cx := ⟨2, [0, 0], [.tmp 4]⟩
def e_impl_gaps_least (r : Int × Ggaps) : Res := ⟨[.t (.v (.int .i64 r.1))], [some [[.sl true (r.2.xa.xnodes.map (GNode.row true)), .sl true (r.2.xa.xfirst.map rI), .sl true (r.2.xb.xnodes.map (GNode.row true)), .sl true (r.2.xb.xfirst.map rI), .sl true (r.2.xtree.map (rL true rI))]]]⟩
def c_impl_gaps_least : Cx := ⟨6, [1, 0, 0, 0, 0, 0], [.tmp 12]⟩
def e_impl_gaps_count (r : Ggaps) : Res := ⟨[], [some [[.sl true (r.xa.xnodes.map (GNode.row true)), .sl true (r.xa.xfirst.map rI), .sl true (r.xb.xnodes.map (GNode.row true)), .sl true (r.xb.xfirst.map rI), .sl true (r.xtree.map (rL true rI))]]]⟩
def c_impl_gaps_count : Cx := ⟨3, [1, 0, 0], []⟩
def e_impl_Gap (r : Int) : Res := ⟨[.t (.v (.int .i64 r))], []⟩
def c_impl_Gap : Cx := ⟨2, [0, 0], [.tmp 4]⟩
def e_spec_Nodes (r : Int) : Res := ⟨[.t (.v (.int .i64 r))], []⟩
def c_spec_Nodes : Cx := ⟨1, [0], [.tmp 2]⟩
def e_spec_l5All (r : List GNode) : Res := ⟨[.t (.sl true (r.map (GNode.row true)))], []⟩
def c_spec_l5All : Cx := ⟨1, [0], [.tmp 2]⟩
def e_spec_l5Copy (r : GNode) : Res := ⟨[.agg [.v (.int .i64 r.Kind), .v (.string r.Pre), .v (.string r.Local), .v (.string r.Uri), .sl true (r.Decls.map GDecl.row), .sl true (r.Attrs.map GAttr.row), .sl true (r.Kids.map (GNode.row true)), .v (.string r.Text)]], []⟩
def c_spec_l5Copy : Cx := ⟨1, [0], [.cell 2 8 true]⟩
def e_spec_Alone (r : GNode) : Res := ⟨[.agg [.v (.int .i64 r.Kind), .v (.string r.Pre), .v (.string r.Local), .v (.string r.Uri), .sl true (r.Decls.map GDecl.row), .sl true (r.Attrs.map GAttr.row), .sl true (r.Kids.map (GNode.row true)), .v (.string r.Text)]], []⟩
def c_spec_Alone : Cx := ⟨1, [0], [.cell 2 8 true]⟩
def e_spec_l18Post (r : List GNode × List Int) : Res := ⟨[.t (.sl true (r.1.map (GNode.row true))), .t (.sl true (r.2.map rI))], []⟩
def c_spec_l18Post : Cx := ⟨2, [0, 0], [.tmp 4, .tmp 5]⟩
def e_spec_l18Grid (r : List (List Int)) : Res := ⟨[.t (.sl true (r.map (rL true rI)))], []⟩
def c_spec_l18Grid : Cx := ⟨2, [0, 0], [.tmp 4]⟩
def e_spec_l18Keys (r : List Int) : Res := ⟨[.t (.sl true (r.map rI))], []⟩
def c_spec_l18Keys : Cx := ⟨1, [0], [.tmp 2]⟩
def e_spec_l18Min (r : Int) : Res := ⟨[.t (.v (.int .i64 r))], []⟩
def c_spec_l18Min : Cx := ⟨2, [0, 0], [.tmp 4]⟩
def e_spec_SameNode (r : Bool) : Res := ⟨[.t (.v (.bool r))], []⟩
def c_spec_SameNode : Cx := ⟨2, [0, 0], [.tmp 4]⟩
def e_spec_l18Forest (r : List (List Int)) : Res := ⟨[], [some (r.map (rL true rI))]⟩
def c_spec_l18Forest : Cx := ⟨7, [0, 0, 0, 0, 0, 0, 1], []⟩
def e_spec_Gap (r : Int) : Res := ⟨[.t (.v (.int .i64 r))], []⟩
def c_spec_Gap : Cx := ⟨2, [0, 0], [.tmp 4]⟩
def e_laws_FnWayRound (r : Bool) : Res := ⟨[.t (.v (.bool r))], []⟩
def c_laws_FnWayRound : Cx := ⟨1, [0], [.tmp 2]⟩
theorem lT {α : Type} (l : List α) : ((lenL l).toNat < l.length + 1) = True := by simp [lenL]
def ES := And.intro @lT <| And.intro (@e_laws_big.eq_1) <| And.intro (@c_laws_big.eq_1) <| And.intro (@e_spec_l1New.eq_1) <| And.intro (@c_spec_l1New.eq_1) <| And.intro (@e_spec_l1Byte.eq_1) <| And.intro (@c_spec_l1Byte.eq_1) <| And.intro (@e_spec_l1Below.eq_1) <| And.intro (@c_spec_l1Below.eq_1) <| And.intro (@e_spec_l1Str.eq_1) <| And.intro (@c_spec_l1Str.eq_1) <| And.intro (@e_spec_l18Small.eq_1) <| And.intro (@c_spec_l18Small.eq_1) <| And.intro (@e_spec_DrawSmall.eq_1) <| And.intro (@c_spec_DrawSmall.eq_1) <| And.intro (@e_impl_Nodes.eq_1) <| And.intro (@c_impl_Nodes.eq_1) <| And.intro (@e_slices_Clone_Decl.eq_1) <| And.intro (@c_slices_Clone_Decl.eq_1) <| And.intro (@e_slices_Clone_Attr.eq_1) <| And.intro (@c_slices_Clone_Attr.eq_1) <| And.intro (@e_impl_cloneNode.eq_1) <| And.intro (@c_impl_cloneNode.eq_1) <| And.intro (@e_impl_cloneNodes.eq_1) <| And.intro (@c_impl_cloneNodes.eq_1) <| And.intro (@e_impl_Alone.eq_1) <| And.intro (@c_impl_Alone.eq_1) <| And.intro (@e_impl_row_put'.eq_1) <| And.intro (@c_impl_row_put'.eq_1) <| And.intro (@e_impl_row_put.eq_1) <| And.intro (@c_impl_row_put.eq_1) <| And.intro (@e_impl_row_put''.eq_1) <| And.intro (@c_impl_row_put''.eq_1) <| And.intro (@e_slices_Equal_Decl.eq_1) <| And.intro (@c_slices_Equal_Decl.eq_1) <| And.intro (@e_slices_Equal_Attr.eq_1) <| And.intro (@c_slices_Equal_Attr.eq_1) <| And.intro (@e_impl_sameAlone.eq_1) <| And.intro (@c_impl_sameAlone.eq_1) <| And.intro (@e_impl_gaps_least.eq_1) <| And.intro (@c_impl_gaps_least.eq_1) <| And.intro (@e_impl_gaps_count.eq_1) <| And.intro (@c_impl_gaps_count.eq_1) <| And.intro (@e_impl_Gap.eq_1) <| And.intro (@c_impl_Gap.eq_1) <| And.intro (@e_spec_Nodes.eq_1) <| And.intro (@c_spec_Nodes.eq_1) <| And.intro (@e_spec_l5All.eq_1) <| And.intro (@c_spec_l5All.eq_1) <| And.intro (@e_spec_l5Copy.eq_1) <| And.intro (@c_spec_l5Copy.eq_1) <| And.intro (@e_spec_Alone.eq_1) <| And.intro (@c_spec_Alone.eq_1) <| And.intro (@e_spec_l18Post.eq_1) <| And.intro (@c_spec_l18Post.eq_1) <| And.intro (@e_spec_l18Grid.eq_1) <| And.intro (@c_spec_l18Grid.eq_1) <| And.intro (@e_spec_l18Keys.eq_1) <| And.intro (@c_spec_l18Keys.eq_1) <| And.intro (@e_spec_l18Min.eq_1) <| And.intro (@c_spec_l18Min.eq_1) <| And.intro (@e_spec_SameNode.eq_1) <| And.intro (@c_spec_SameNode.eq_1) <| And.intro (@e_spec_l18Forest.eq_1) <| And.intro (@c_spec_l18Forest.eq_1) <| And.intro (@e_spec_Gap.eq_1) <| And.intro (@c_spec_Gap.eq_1) <| And.intro (@e_laws_FnWayRound.eq_1) <| @c_laws_FnWayRound.eq_1
theorem xN {f : FuncId} (h : FTA.cl.contains f = false) (h2 : (FTA.lb.all fun p => p.1 != f) = true) (args : List Arg) : xOf FTA f args = none := xOf_none h h2 args
theorem lB {a b : Nat} (h : Nat.ble a b = true) : a ≤ b := Nat.le_of_ble_eq_true h
theorem gs {p : Prop} (h : p := by
 try simp only [SSA, RS, reduceAdd, reduceSub, reduceMul, reduceLeDiff, reduceLT, reduceEqDiff, Nat.reduceBEq, ↓reduceIte, reduceCtorEq] at g0
 try simp only [SSA, RS, reduceAdd, reduceSub, reduceMul, reduceLeDiff, reduceLT, reduceEqDiff, Nat.reduceBEq, ↓reduceIte, reduceCtorEq] at g1
 try simp only [SSA, RS, reduceAdd, reduceSub, reduceMul, reduceLeDiff, reduceLT, reduceEqDiff, Nat.reduceBEq, ↓reduceIte, reduceCtorEq] at g2
 try simp only [SSA, RS, reduceAdd, reduceSub, reduceMul, reduceLeDiff, reduceLT, reduceEqDiff, Nat.reduceBEq, ↓reduceIte, reduceCtorEq] at g3
 simp only [SSA, RS, ES, *, reduceAdd, reduceSub, reduceMul, reduceLeDiff, reduceLT, reduceEqDiff, Nat.reduceBEq, ↓reduceIte, reduceCtorEq]
 try clear k0
 try clear f0
 repeat' first
  | with_reducible exact Ok_none
  | ((with_reducible refine Ok_ret ?_); first | rfl | simp only [SSA, RS, ES])
  | ((with_reducible first
   | refine Ok_tail (t0 ..) ?_
   | refine Ok_tail (t1 ..) ?_); first | rfl | (simp only [SSA, RS, ES, reduceAdd, reduceSub, reduceMul, reduceLeDiff, reduceLT, reduceEqDiff, Nat.reduceBEq, ↓reduceIte, reduceCtorEq] <;> rfl) | (simp only [SSA, RS, ES, *, reduceAdd, reduceSub, reduceMul, reduceLeDiff, reduceLT, reduceEqDiff, Nat.reduceBEq, ↓reduceIte, reduceCtorEq] <;> rfl))
  | ((first
   | (with_reducible first
    | refine Ok_if (fun h => ?_) (fun h => ?_)
    | refine Ok_get fun a h => ?_
    | refine Ok_call (g0 ..) fun v => ?_
    | refine Ok_call (g1 ..) fun v => ?_
    | refine Ok_call (g2 ..) fun v => ?_
    | refine Ok_call (g3 ..) fun v => ?_
    | refine Ok_call g0 fun v => ?_
    | refine Ok_call g1 fun v => ?_
    | refine Ok_call g2 fun v => ?_
    | refine Ok_prim (p := catS _ _) fun a h => ?_
    | refine Ok_prim (p := room _ _) fun a h => ?_
    | refine Ok_prim (p := mkN _ _) fun a h => ?_
    | refine Ok_prim (p := subS _ _ _) fun a h => ?_
    | refine Ok_prim (p := slL _ _ _) fun a h => ?_
    | refine Ok_prim (p := atS _ _) fun a h => ?_
    | refine Ok_prim (p := quoI _ _) fun a h => ?_
    | refine Ok_prim (p := remI _ _) fun a h => ?_
    | refine Ok_prim (p := quoK _ _ _) fun a h => ?_
    | refine Ok_prim (p := remK _ _ _) fun a h => ?_
    | refine Ok_prim (p := shlK _ _ _) fun a h => ?_
    | refine Ok_prim (p := shrK _ _ _) fun a h => ?_
    | refine Ok_same fun h => ?_)
   | refine Ok_call (g0 ..) fun v => ?_
   | refine Ok_call (g1 ..) fun v => ?_
   | refine Ok_call (g2 ..) fun v => ?_
   | refine Ok_call (g3 ..) fun v => ?_
   | refine Ok_callq (g0 _) (by simp only [SSA, RS, List.map_cons, List.map_nil]) fun v => ?_
   | refine Ok_callq (g0 _ _) (by simp only [SSA, RS, List.map_cons, List.map_nil]) fun v => ?_
   | refine Ok_callq (g1 _) (by simp only [SSA, RS, List.map_cons, List.map_nil]) fun v => ?_
   | refine Ok_callq (g1 _ _) (by simp only [SSA, RS, List.map_cons, List.map_nil]) fun v => ?_
   | refine Ok_callq (g2 _) (by simp only [SSA, RS, List.map_cons, List.map_nil]) fun v => ?_
   | refine Ok_callq (g2 _ _) (by simp only [SSA, RS, List.map_cons, List.map_nil]) fun v => ?_
   | refine Ok_callq (g3 _) (by simp only [SSA, RS, List.map_cons, List.map_nil]) fun v => ?_
   | refine Ok_callq (g3 _ _) (by simp only [SSA, RS, List.map_cons, List.map_nil]) fun v => ?_) <;> simp only [SSA, RS, ES, *, reduceAdd, reduceSub, reduceMul, reduceLeDiff, reduceLT, reduceEqDiff, Nat.reduceBEq, ↓reduceIte, reduceCtorEq])) : p := h
theorem laws_big_ok : ∀ (code : List Int), Ok (laws_big code) e_laws_big (dn FTA n_laws_big [.t (.sl false (code.map (rK .u8)))]) := by
 intro code
 rw [den_ev FTA (fn := k_laws_big) rfl (xN rfl rfl _) (lB rfl)]
 have k0 := @k_laws_big.eq_1; have f0 := @laws_big.eq_1
 exact gs
theorem spec_l1New_l8_ok (code : List Int) : ∀ (h : Int) (i : Int), Ok (spec_l1New_l8 code h i) e_spec_l1New (ev FTA c_spec_l1New (.loop k_spec_l1New_l8) [.lv 0, .th k_spec_l1New_r4] (putS (List.replicate 32 .dead) [(0, .t (.sl false (code.map (rK .u8)))), (3, .t (.v (.int .i64 h))), (4, .t (.v (.int .i64 i)))]) (putR (List.replicate 32 []) [])) := by
 unfold Ok
 refine spec_l1New_l8.partial_correctness code _ ?_
 intro F ih h i
 show Ok _ _ _
 have ih : ∀ (h : Int) (i : Int), Ok (F h i) _ _ := ih
 rw [ev_loop]
 have k0 := @k_spec_l1New_l8.eq_1; have k1 := @k_spec_l1New_r4.eq_1; have t0 := ih
 exact gs
theorem spec_l1New_ok : ∀ (code : List Int), Ok (spec_l1New code) e_spec_l1New (dn FTA n_spec_l1New [.t (.sl false (code.map (rK .u8)))]) := by
 intro code
 rw [den_ev FTA (fn := k_spec_l1New) rfl (xN rfl rfl _) (lB rfl)]
 have k0 := @k_spec_l1New.eq_1; have f0 := @spec_l1New.eq_1; have t0 := spec_l1New_l8_ok
 exact gs
theorem spec_l1Byte_ok : ∀ (c : Gl1Cur), Ok (spec_l1Byte c) e_spec_l1Byte (dn FTA n_spec_l1Byte [.lp [.sl false (c.xb.map (rK .u8)), .v (.int .i64 c.xi), .v (.int .i64 c.xh)] 0]) := by
 intro c
 rw [den_ev FTA (fn := k_spec_l1Byte) rfl (xN rfl rfl _) (lB rfl)]
 have k0 := @k_spec_l1Byte.eq_1; have f0 := @spec_l1Byte.eq_1
 exact gs
theorem spec_l1Below_ok : ∀ (c : Gl1Cur) (n : Int), Ok (spec_l1Below c n) e_spec_l1Below (dn FTA n_spec_l1Below [.lp [.sl false (c.xb.map (rK .u8)), .v (.int .i64 c.xi), .v (.int .i64 c.xh)] 0, .t (.v (.int .i64 n))]) := by
 intro c n
 rw [den_ev FTA (fn := k_spec_l1Below) rfl (xN rfl rfl _) (lB rfl)]
 have k0 := @k_spec_l1Below.eq_1; have f0 := @spec_l1Below.eq_1; have g0 := spec_l1Byte_ok
 exact gs
theorem spec_l1Str_ok : ∀ (c : Gl1Cur) (list : List ByteArray), Ok (spec_l1Str c list) e_spec_l1Str (dn FTA n_spec_l1Str [.lp [.sl false (c.xb.map (rK .u8)), .v (.int .i64 c.xi), .v (.int .i64 c.xh)] 0, .t (.sl false (list.map rS))]) := by
 intro c list
 rw [den_ev FTA (fn := k_spec_l1Str) rfl (xN rfl rfl _) (lB rfl)]
 have k0 := @k_spec_l1Str.eq_1; have f0 := @spec_l1Str.eq_1; have g0 := spec_l1Below_ok
 exact gs
theorem G_spec_l18Small : (∀ (c : Gl1Cur) (most : Int), Ok (spec_l18Small c most) e_spec_l18Small (dn FTA n_spec_l18Small [.lp [.sl false (c.xb.map (rK .u8)), .v (.int .i64 c.xi), .v (.int .i64 c.xh)] 0, .lp [.v (.int .i64 most)] 0])) ∧
  (∀ (i : Int) (c1 : Gl1Cur) (most1 : Int) (r : ByteArray × Gl1Cur) (nKids : List (GNode)), Ok (spec_l18Small_l8 i c1 most1 r nKids) e_spec_l18Small (ev FTA c_spec_l18Small (.loop k_spec_l18Small_l8) [.lv 0, .th k_spec_l18Small_r4] (putS (List.replicate 40 .dead) [(0, .ptr (0, 0) [] 0 0 1 0), (1, .ptr (1, 0) [] 0 0 1 0), (4, .ptr (4, 0) [] 0 0 1 0), (5, .ptr (5, 0) [] 0 0 1 0), (6, .t (.v (.int .i64 i)))]) (putR (List.replicate 40 []) [(0, [.mem [[.sl false (c1.xb.map (rK .u8)), .v (.int .i64 c1.xi), .v (.int .i64 c1.xh)]] 0 true]), (1, [.mem [[.v (.int .i64 most1)]] 0 true]), (4, [.mem [[.v (.int .i64 0), .v (.string (⟨#[]⟩)), .v (.string (⟨#[]⟩)), .v (.string (⟨#[]⟩)), .sl true [], .sl true [], .sl true [], .v (.string (⟨#[]⟩))]] 0 false]), (5, [.mem [[.v (.int .i64 1), .v (.string (⟨#[]⟩)), .v (.string r.1), .v (.string (⟨#[]⟩)), .sl true [], .sl true [], .sl true (nKids.map (GNode.row true)), .v (.string (⟨#[]⟩))]] 0 false])]))) := by
 unfold Ok
 refine spec_l18Small.mutual_partial_correctness _ _ ?_ ?_
 ·intro F1 ih1 c most
  show Ok _ _ _
  have ih1 : ∀ (i : Int) (c1 : Gl1Cur) (most1 : Int) (r : ByteArray × Gl1Cur) (nKids : List (GNode)), Ok (F1 i c1 most1 r nKids) _ _ := ih1
  rw [den_ev FTA (fn := k_spec_l18Small) rfl (xN rfl rfl _) (lB rfl)]
  have k0 := @k_spec_l18Small.eq_1; have g0 := spec_l1Str_ok; have g1 := spec_l1Below_ok; have t0 := ih1
  exact gs
 ·intro F0 F1 ih0 ih1 i c1 most1 r nKids
  show Ok _ _ _
  have ih0 : ∀ (c : Gl1Cur) (most : Int), Ok (F0 c most) _ _ := ih0
  have ih1 : ∀ (i : Int) (c1 : Gl1Cur) (most1 : Int) (r : ByteArray × Gl1Cur) (nKids : List (GNode)), Ok (F1 i c1 most1 r nKids) _ _ := ih1
  rw [ev_loop]
  have k0 := @k_spec_l18Small_l8.eq_1; have k1 := @k_spec_l18Small_r4.eq_1; have g0 := ih0; have t0 := ih1
  exact gs
theorem spec_l18Small_ok (c : Gl1Cur) (most : Int) : Ok (spec_l18Small c most) e_spec_l18Small (dn FTA n_spec_l18Small [.lp [.sl false (c.xb.map (rK .u8)), .v (.int .i64 c.xi), .v (.int .i64 c.xh)] 0, .lp [.v (.int .i64 most)] 0]) := G_spec_l18Small.1 c most
theorem spec_DrawSmall_ok : ∀ (code : List Int), Ok (spec_DrawSmall code) e_spec_DrawSmall (dn FTA n_spec_DrawSmall [.t (.sl false (code.map (rK .u8)))]) := by
 intro code
 rw [den_ev FTA (fn := k_spec_DrawSmall) rfl (xN rfl rfl _) (lB rfl)]
 have k0 := @k_spec_DrawSmall.eq_1; have f0 := @spec_DrawSmall.eq_1; have g0 := spec_l1New_ok; have g1 := spec_l1Below_ok; have g2 := spec_l18Small_ok
 exact gs
theorem G_impl_Nodes : (∀ (n : GNode), Ok (impl_Nodes n) e_impl_Nodes (dn FTA n_impl_Nodes [.agg (((GNode.row false) n).map .t)])) ∧
  (∀ (out : Int) (n : GNode) (x1 : Int), Ok (impl_Nodes_l8 out n x1) e_impl_Nodes (ev FTA c_impl_Nodes (.loop k_impl_Nodes_l8) [.lv 0, .th k_impl_Nodes_r4] (putS (List.replicate 19 .dead) [(3, .t (.v (.int .i64 out))), (7, .t (.sl false (n.Kids.map (GNode.row false)))), (8, .t (.v (.int .i64 (lenL n.Kids)))), (9, .t (.v (.int .i64 x1)))]) (putR (List.replicate 19 []) []))) := by
 unfold Ok
 refine impl_Nodes.mutual_partial_correctness _ _ ?_ ?_
 ·intro F1 ih1 n
  show Ok _ _ _
  have ih1 : ∀ (out : Int) (n : GNode) (x1 : Int), Ok (F1 out n x1) _ _ := ih1
  rw [den_ev FTA (fn := k_impl_Nodes) rfl (xN rfl rfl _) (lB rfl)]
  have k0 := @k_impl_Nodes.eq_1; have t0 := ih1
  exact gs
 ·intro F0 F1 ih0 ih1 out n x1
  show Ok _ _ _
  have ih0 : ∀ (n : GNode), Ok (F0 n) _ _ := ih0
  have ih1 : ∀ (out : Int) (n : GNode) (x1 : Int), Ok (F1 out n x1) _ _ := ih1
  rw [ev_loop]
  have k0 := @k_impl_Nodes_l8.eq_1; have k1 := @k_impl_Nodes_r4.eq_1; have g0 := ih0; have t0 := ih1
  exact gs
theorem impl_Nodes_ok (n : GNode) : Ok (impl_Nodes n) e_impl_Nodes (dn FTA n_impl_Nodes [.agg (((GNode.row false) n).map .t)]) := G_impl_Nodes.1 n
theorem slices_Clone_Decl_ok : ∀ (s : List (GDecl)), Ok (slices_Clone_Decl s) e_slices_Clone_Decl (dn FTA n_slices_Clone_Decl [.t (.sl false (s.map GDecl.row))]) := by
 intro s
 cases s with
 | nil =>
  intro r hr
  unfold slices_Clone_Decl at hr
  obtain ⟨_, _, h⟩ := Option.bind_eq_some_iff.1 hr
  cases h
  exact den_ext FTA.ft (xOf FTA) (xOf_nil rfl)
 | cons x s =>
  simp only [List.map_cons]
  rw [den_ev FTA (fn := k_slices_Clone_Decl) rfl (xOf_cons rfl _ _) (Nat.le_of_ble_eq_true rfl)]
  simp only [SSA, RS, c_slices_Clone_Decl, k_slices_Clone_Decl, slices_Clone_Decl, reduceAdd, reduceSub, reduceMul, reduceLeDiff, reduceLT, reduceEqDiff, Nat.reduceBEq, ↓reduceIte, reduceCtorEq]
  refine Ok_prim fun a h => ?_
  simp only [SSA, RS, *, reduceAdd, reduceSub, reduceMul, reduceLeDiff, reduceLT, reduceEqDiff, Nat.reduceBEq, ↓reduceIte, reduceCtorEq]
  exact Ok_ret rfl
theorem slices_Clone_Attr_ok : ∀ (s : List (GAttr)), Ok (slices_Clone_Attr s) e_slices_Clone_Attr (dn FTA n_slices_Clone_Attr [.t (.sl false (s.map GAttr.row))]) := by
 intro s
 cases s with
 | nil =>
  intro r hr
  unfold slices_Clone_Attr at hr
  obtain ⟨_, _, h⟩ := Option.bind_eq_some_iff.1 hr
  cases h
  exact den_ext FTA.ft (xOf FTA) (xOf_nil rfl)
 | cons x s =>
  simp only [List.map_cons]
  rw [den_ev FTA (fn := k_slices_Clone_Attr) rfl (xOf_cons rfl _ _) (Nat.le_of_ble_eq_true rfl)]
  simp only [SSA, RS, c_slices_Clone_Attr, k_slices_Clone_Attr, slices_Clone_Attr, reduceAdd, reduceSub, reduceMul, reduceLeDiff, reduceLT, reduceEqDiff, Nat.reduceBEq, ↓reduceIte, reduceCtorEq]
  refine Ok_prim fun a h => ?_
  simp only [SSA, RS, *, reduceAdd, reduceSub, reduceMul, reduceLeDiff, reduceLT, reduceEqDiff, Nat.reduceBEq, ↓reduceIte, reduceCtorEq]
  exact Ok_ret rfl
theorem G_impl_cloneNode : (∀ (n : GNode), Ok (impl_cloneNode n) e_impl_cloneNode (dn FTA n_impl_cloneNode [.agg (((GNode.row false) n).map .t)])) ∧
  (∀ (l : List GNode), Ok (impl_cloneNodes l) e_impl_cloneNodes (dn FTA n_impl_cloneNodes [.t (.sl false (l.map (GNode.row false)))])) ∧
  (∀ (out : List (GNode)) (l : List GNode) (x1 : Int), Ok (impl_cloneNodes_l8 out l x1) e_impl_cloneNodes (ev FTA c_impl_cloneNodes (.loop k_impl_cloneNodes_l8) [.lv 0, .th k_impl_cloneNodes_r4] (putS (List.replicate 19 .dead) [(3, .ref (16, 0) out.length), (6, .t (.sl false (l.map (GNode.row false)))), (7, .t (.v (.int .i64 (lenL l)))), (8, .t (.v (.int .i64 x1)))]) (putR (List.replicate 19 []) [(16, [.mem (out.map (GNode.row true)) 0 false])]))) := by
 unfold Ok
 refine impl_cloneNode.mutual_partial_correctness _ _ _ ?_ ?_ ?_
 ·intro F1 ih1 n
  show Ok _ _ _
  have ih1 : ∀ (l : List GNode), Ok (F1 l) _ _ := ih1
  rw [den_ev FTA (fn := k_impl_cloneNode) rfl (xN rfl rfl _) (lB rfl)]
  have k0 := @k_impl_cloneNode.eq_1; have g0 := slices_Clone_Decl_ok; have g1 := slices_Clone_Attr_ok; have g2 := ih1
  exact gs
 ·intro F2 ih2 l
  show Ok _ _ _
  have ih2 : ∀ (out : List (GNode)) (l : List GNode) (x1 : Int), Ok (F2 out l x1) _ _ := ih2
  rw [den_ev FTA (fn := k_impl_cloneNodes) rfl (xN rfl rfl _) (lB rfl)]
  have k0 := @k_impl_cloneNodes.eq_1; have t0 := ih2
  exact gs
 ·intro F0 F2 ih0 ih2 out l x1
  show Ok _ _ _
  have ih0 : ∀ (n : GNode), Ok (F0 n) _ _ := ih0
  have ih2 : ∀ (out : List (GNode)) (l : List GNode) (x1 : Int), Ok (F2 out l x1) _ _ := ih2
  rw [ev_loop]
  have k0 := @k_impl_cloneNodes_l8.eq_1; have k1 := @k_impl_cloneNodes_r4.eq_1; have g0 := ih0; have t0 := ih2
  exact gs
theorem impl_cloneNode_ok (n : GNode) : Ok (impl_cloneNode n) e_impl_cloneNode (dn FTA n_impl_cloneNode [.agg (((GNode.row false) n).map .t)]) := G_impl_cloneNode.1 n
theorem impl_cloneNodes_ok (l : List GNode) : Ok (impl_cloneNodes l) e_impl_cloneNodes (dn FTA n_impl_cloneNodes [.t (.sl false (l.map (GNode.row false)))]) := G_impl_cloneNode.2.1 l
theorem impl_Alone_ok : ∀ (n : GNode), Ok (impl_Alone n) e_impl_Alone (dn FTA n_impl_Alone [.agg (((GNode.row false) n).map .t)]) := by
 intro n
 rw [den_ev FTA (fn := k_impl_Alone) rfl (xN rfl rfl _) (lB rfl)]
 have k0 := @k_impl_Alone.eq_1; have f0 := @impl_Alone.eq_1; have g0 := impl_cloneNode_ok
 exact gs
theorem G_impl_row_put' : (∀ (r : Ggaps) (n : GNode), Ok (impl_row_put' r n) e_impl_row_put' (dn FTA n_impl_row_put [.lp [.sl true (r.xa.xnodes.map (GNode.row true)), .sl true (r.xa.xfirst.map rI), .sl true (r.xb.xnodes.map (GNode.row true)), .sl true (r.xb.xfirst.map rI), .sl true (r.xtree.map (rL true rI))] 0, .agg (((GNode.row false) n).map .t)])) ∧
  (∀ (r : Ggaps) (n : GNode) (x2 : Int) (r3 : Ggaps), Ok (impl_row_put'_l8 r n x2 r3) e_impl_row_put' (ev FTA c_impl_row_put' (.loop k_impl_row_put_l8) [.lv 0, .th k_impl_row_put_r4] (putS (List.replicate 45 .dead) [(0, .ptr (0, 0) [] 0 0 1 0), (3, .ptr (3, 0) [] 0 0 1 0), (4, .t (.v (.int .i64 (lenL r.xa.xnodes)))), (13, .t (.sl false (n.Kids.map (GNode.row false)))), (14, .t (.v (.int .i64 (lenL n.Kids)))), (15, .t (.v (.int .i64 x2)))]) (putR (List.replicate 45 []) [(0, [.mem [[.sl true (r3.xa.xnodes.map (GNode.row true)), .sl true (r3.xa.xfirst.map rI), .sl true (r3.xb.xnodes.map (GNode.row true)), .sl true (r3.xb.xfirst.map rI), .sl true (r3.xtree.map (rL true rI))]] 0 true]), (3, [.mem [[.v (.int .i64 n.Kind), .v (.string n.Pre), .v (.string n.Local), .v (.string n.Uri), .sl false (n.Decls.map GDecl.row), .sl false (n.Attrs.map GAttr.row), .sl false (n.Kids.map (GNode.row false)), .v (.string n.Text)]] 0 false])]))) := by
 unfold Ok
 refine impl_row_put'.mutual_partial_correctness _ _ ?_ ?_
 ·intro F1 ih1 r n
  show Ok _ _ _
  have ih1 : ∀ (r : Ggaps) (n : GNode) (x2 : Int) (r3 : Ggaps), Ok (F1 r n x2 r3) _ _ := ih1
  rw [den_ev FTA (fn := k_impl_row_put) rfl (xN rfl rfl _) (lB rfl)]
  have k0 := @k_impl_row_put.eq_1; have t0 := ih1
  exact gs
 ·intro F0 F1 ih0 ih1 r n x2 r3
  show Ok _ _ _
  have ih0 : ∀ (r : Ggaps) (n : GNode), Ok (F0 r n) _ _ := ih0
  have ih1 : ∀ (r : Ggaps) (n : GNode) (x2 : Int) (r3 : Ggaps), Ok (F1 r n x2 r3) _ _ := ih1
  rw [ev_loop]
  have k0 := @k_impl_row_put_l8.eq_1; have k1 := @k_impl_row_put_r4.eq_1; have g0 := ih0; have g1 := impl_Alone_ok; have t0 := ih1
  exact gs
theorem impl_row_put'_ok (r : Ggaps) (n : GNode) : Ok (impl_row_put' r n) e_impl_row_put' (dn FTA n_impl_row_put [.lp [.sl true (r.xa.xnodes.map (GNode.row true)), .sl true (r.xa.xfirst.map rI), .sl true (r.xb.xnodes.map (GNode.row true)), .sl true (r.xb.xfirst.map rI), .sl true (r.xtree.map (rL true rI))] 0, .agg (((GNode.row false) n).map .t)]) := G_impl_row_put'.1 r n
theorem impl_row_put_l8_ok (r : Ggaps) (n : GNode) : ∀ (x2 : Int) (r3 : Ggaps), Ok (impl_row_put_l8 r n x2 r3) e_impl_row_put (ev FTA c_impl_row_put (.loop k_impl_row_put_l8) [.lv 0, .th k_impl_row_put_r4] (putS (List.replicate 45 .dead) [(0, .ptr (0, 0) [] 0 0 1 0), (3, .ptr (3, 0) [] 0 0 1 0), (4, .t (.v (.int .i64 (lenL r.xa.xnodes)))), (13, .t (.sl false (n.Kids.map (GNode.row false)))), (14, .t (.v (.int .i64 (lenL n.Kids)))), (15, .t (.v (.int .i64 x2)))]) (putR (List.replicate 45 []) [(0, [.mem [[.sl true (r3.xa.xnodes.map (GNode.row true)), .sl true (r3.xa.xfirst.map rI), .sl true (r3.xb.xnodes.map (GNode.row true)), .sl true (r3.xb.xfirst.map rI), .sl true (r3.xtree.map (rL true rI))]] 0 true]), (3, [.mem [[.v (.int .i64 n.Kind), .v (.string n.Pre), .v (.string n.Local), .v (.string n.Uri), .sl false (n.Decls.map GDecl.row), .sl false (n.Attrs.map GAttr.row), .sl false (n.Kids.map (GNode.row false)), .v (.string n.Text)]] 0 false])])) := by
 unfold Ok
 refine impl_row_put_l8.partial_correctness r n _ ?_
 intro F ih x2 r3
 show Ok _ _ _
 have ih : ∀ (x2 : Int) (r3 : Ggaps), Ok (F x2 r3) _ _ := ih
 rw [ev_loop]
 have k0 := @k_impl_row_put_l8.eq_1; have k1 := @k_impl_row_put_r4.eq_1; have g0 := impl_row_put'_ok; have g1 := impl_Alone_ok; have t0 := ih
 exact gs
theorem impl_row_put_ok : ∀ (r : Ggaps) (n : GNode), Ok (impl_row_put r n) e_impl_row_put (dn FTA n_impl_row_put [.lp [.sl true (r.xa.xnodes.map (GNode.row true)), .sl true (r.xa.xfirst.map rI), .sl true (r.xb.xnodes.map (GNode.row true)), .sl true (r.xb.xfirst.map rI), .sl true (r.xtree.map (rL true rI))] 0, .agg (((GNode.row false) n).map .t)]) := by
 intro r n
 rw [den_ev FTA (fn := k_impl_row_put) rfl (xN rfl rfl _) (lB rfl)]
 have k0 := @k_impl_row_put.eq_1; have f0 := @impl_row_put.eq_1; have t0 := impl_row_put_l8_ok
 exact gs
theorem G_impl_row_put'' : (∀ (r : Ggaps) (n : GNode), Ok (impl_row_put'' r n) e_impl_row_put'' (dn FTA n_impl_row_put [.lp [.sl true (r.xa.xnodes.map (GNode.row true)), .sl true (r.xa.xfirst.map rI), .sl true (r.xb.xnodes.map (GNode.row true)), .sl true (r.xb.xfirst.map rI), .sl true (r.xtree.map (rL true rI))] 2, .agg (((GNode.row false) n).map .t)])) ∧
  (∀ (r : Ggaps) (n : GNode) (x2 : Int) (r3 : Ggaps), Ok (impl_row_put''_l8 r n x2 r3) e_impl_row_put'' (ev FTA c_impl_row_put'' (.loop k_impl_row_put_l8) [.lv 0, .th k_impl_row_put_r4] (putS (List.replicate 45 .dead) [(0, .ptr (0, 0) [] 0 2 1 0), (3, .ptr (3, 0) [] 0 0 1 0), (4, .t (.v (.int .i64 (lenL r.xb.xnodes)))), (13, .t (.sl false (n.Kids.map (GNode.row false)))), (14, .t (.v (.int .i64 (lenL n.Kids)))), (15, .t (.v (.int .i64 x2)))]) (putR (List.replicate 45 []) [(0, [.mem [[.sl true (r3.xa.xnodes.map (GNode.row true)), .sl true (r3.xa.xfirst.map rI), .sl true (r3.xb.xnodes.map (GNode.row true)), .sl true (r3.xb.xfirst.map rI), .sl true (r3.xtree.map (rL true rI))]] 0 true]), (3, [.mem [[.v (.int .i64 n.Kind), .v (.string n.Pre), .v (.string n.Local), .v (.string n.Uri), .sl false (n.Decls.map GDecl.row), .sl false (n.Attrs.map GAttr.row), .sl false (n.Kids.map (GNode.row false)), .v (.string n.Text)]] 0 false])]))) := by
 unfold Ok
 refine impl_row_put''.mutual_partial_correctness _ _ ?_ ?_
 ·intro F1 ih1 r n
  show Ok _ _ _
  have ih1 : ∀ (r : Ggaps) (n : GNode) (x2 : Int) (r3 : Ggaps), Ok (F1 r n x2 r3) _ _ := ih1
  rw [den_ev FTA (fn := k_impl_row_put) rfl (xN rfl rfl _) (lB rfl)]
  have k0 := @k_impl_row_put.eq_1; have t0 := ih1
  exact gs
 ·intro F0 F1 ih0 ih1 r n x2 r3
  show Ok _ _ _
  have ih0 : ∀ (r : Ggaps) (n : GNode), Ok (F0 r n) _ _ := ih0
  have ih1 : ∀ (r : Ggaps) (n : GNode) (x2 : Int) (r3 : Ggaps), Ok (F1 r n x2 r3) _ _ := ih1
  rw [ev_loop]
  have k0 := @k_impl_row_put_l8.eq_1; have k1 := @k_impl_row_put_r4.eq_1; have g0 := ih0; have g1 := impl_Alone_ok; have t0 := ih1
  exact gs
theorem impl_row_put''_ok (r : Ggaps) (n : GNode) : Ok (impl_row_put'' r n) e_impl_row_put'' (dn FTA n_impl_row_put [.lp [.sl true (r.xa.xnodes.map (GNode.row true)), .sl true (r.xa.xfirst.map rI), .sl true (r.xb.xnodes.map (GNode.row true)), .sl true (r.xb.xfirst.map rI), .sl true (r.xtree.map (rL true rI))] 2, .agg (((GNode.row false) n).map .t)]) := G_impl_row_put''.1 r n
theorem slices_Equal_Decl_l14_ok (s1 : List GDecl) (s2 : List GDecl) : ∀ (x2 : Int), Ok (slices_Equal_Decl_l14 s1 s2 x2) e_slices_Equal_Decl (ev FTA c_slices_Equal_Decl (.loop k_slices_Equal_Decl_l14) [.lv 0, .th k_slices_Equal_Decl_r10] (putS (List.replicate 26 .dead) [(0, .t (.sl false (s1.map GDecl.row))), (1, .t (.sl false (s2.map GDecl.row))), (12, .t (.v (.int .i64 (lenL s1)))), (13, .t (.v (.int .i64 x2)))]) (putR (List.replicate 26 []) [])) := by
 unfold Ok
 refine slices_Equal_Decl_l14.partial_correctness s1 s2 _ ?_
 intro F ih x2
 show Ok _ _ _
 have ih : ∀ (x2 : Int), Ok (F x2) _ _ := ih
 rw [ev_loop]
 have k0 := @k_slices_Equal_Decl_l14.eq_1; have k1 := @k_slices_Equal_Decl_r10.eq_1; have t0 := ih
 exact gs
theorem slices_Equal_Decl_ok : ∀ (s1 : List GDecl) (s2 : List GDecl), Ok (slices_Equal_Decl s1 s2) e_slices_Equal_Decl (dn FTA n_slices_Equal_Decl [.t (.sl false (s1.map GDecl.row)), .t (.sl false (s2.map GDecl.row))]) := by
 intro s1 s2
 rw [den_ev FTA (fn := k_slices_Equal_Decl) rfl (xN rfl rfl _) (lB rfl)]
 have k0 := @k_slices_Equal_Decl.eq_1; have f0 := @slices_Equal_Decl.eq_1; have t0 := slices_Equal_Decl_l14_ok
 exact gs
end TT
