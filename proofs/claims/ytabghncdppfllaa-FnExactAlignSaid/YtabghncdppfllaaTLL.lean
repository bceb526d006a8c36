import Derived.Test.YtabghncdppfllaaTKK
import Derived.Test.YtabghncdppfllaaTDefs
set_option linter.unusedVariables false
set_option linter.unusedSimpArgs false
set_option linter.defProp false
set_option maxRecDepth 100000
namespace TT
open Go
def e_laws_szDecl (r : Int) : Res := ⟨[.t (.v (.int .i64 r))], []⟩
def c_laws_szDecl : Cx := ⟨2, [0, 0], [.tmp 4]⟩
theorem laws_szDecl_ok : ∀ (a : GDecl) (left : Int), Ok (laws_szDecl a left) e_laws_szDecl (dn FTA n_laws_szDecl [.agg ((GDecl.row a).map .t), .t (.v (.int .i64 left))]) := by
  intro a left
  rw [den_ev FTA (fn := k_laws_szDecl) rfl (cloneX_none rfl _) (Nat.le_of_ble_eq_true rfl)]
  simp only [SSA, RS, c_laws_szDecl, k_laws_szDecl, laws_szDecl, Nat.reduceAdd, Nat.reduceSub, Nat.reduceMul, Nat.reduceLeDiff, Nat.reduceLT, Nat.reduceEqDiff, Nat.reduceBEq, ↓reduceIte, reduceCtorEq]
  repeat' first
    | with_reducible exact Ok_none
    | ((with_reducible refine Ok_ret ?_); first | rfl | (simp only [SSA, RS, e_laws_szDecl, Nat.reduceAdd, Nat.reduceSub, Nat.reduceMul, Nat.reduceLeDiff, Nat.reduceLT, Nat.reduceEqDiff, Nat.reduceBEq, ↓reduceIte, reduceCtorEq]; done))
    | ((first | with_reducible refine Ok_if (fun h => ?_) (fun h => ?_)) <;> simp only [SSA, RS, *, Nat.reduceAdd, Nat.reduceSub, Nat.reduceMul, Nat.reduceLeDiff, Nat.reduceLT, Nat.reduceEqDiff, Nat.reduceBEq, ↓reduceIte, reduceCtorEq])

def e_laws_szDeclS (r : Int) : Res := ⟨[.t (.v (.int .i64 r))], []⟩
def c_laws_szDeclS : Cx := ⟨2, [0, 0], [.tmp 4]⟩
theorem laws_szDeclS_l16_ok' (a : List GDecl) : ∀ (left1 : Int) (i : Int), Ok (laws_szDeclS_l16 a left1 i) e_laws_szDeclS (ev FTA c_laws_szDeclS (.loop k_laws_szDeclS_l16) [.lv 0, .th k_laws_szDeclS_r12] (putS (List.replicate 27 .dead) [(0, .t (.sl false (a.map GDecl.row))), (1, .t (.v (.int .i64 left1))), (5, .t (.v (.int .i64 i)))]) (putR (List.replicate 27 []) [])) := by
  unfold Ok
  refine laws_szDeclS_l16.partial_correctness a _ ?_
  intro F ih left1 i
  show Ok _ _ _
  have ih : ∀ (left1 : Int) (i : Int), Ok (F left1 i) _ _ := ih
  rw [ev_loop]
  have g0 := laws_szDecl_ok; try simp only [SSA, RS, Nat.reduceAdd, Nat.reduceSub, Nat.reduceMul, Nat.reduceLeDiff, Nat.reduceLT, Nat.reduceEqDiff, Nat.reduceBEq, ↓reduceIte, reduceCtorEq] at g0
  simp only [SSA, RS, c_laws_szDeclS, k_laws_szDeclS_l16, k_laws_szDeclS_r12, e_laws_szDecl, Nat.reduceAdd, Nat.reduceSub, Nat.reduceMul, Nat.reduceLeDiff, Nat.reduceLT, Nat.reduceEqDiff, Nat.reduceBEq, ↓reduceIte, reduceCtorEq]
  repeat' first
    | with_reducible exact Ok_none
    | ((with_reducible refine Ok_ret ?_); first | rfl | (simp only [SSA, RS, e_laws_szDeclS, Nat.reduceAdd, Nat.reduceSub, Nat.reduceMul, Nat.reduceLeDiff, Nat.reduceLT, Nat.reduceEqDiff, Nat.reduceBEq, ↓reduceIte, reduceCtorEq]; done))
    | ((with_reducible refine Ok_tail (ih _ _) ?_); first | rfl | (simp only [SSA, RS, c_laws_szDeclS, Nat.reduceAdd, Nat.reduceSub, Nat.reduceMul, Nat.reduceLeDiff, Nat.reduceLT, Nat.reduceEqDiff, Nat.reduceBEq, ↓reduceIte, reduceCtorEq]; done) | (simp only [SSA, RS, c_laws_szDeclS, Nat.reduceAdd, Nat.reduceSub, Nat.reduceMul, Nat.reduceLeDiff, Nat.reduceLT, Nat.reduceEqDiff, Nat.reduceBEq, ↓reduceIte, reduceCtorEq]; rfl))
    | ((first | with_reducible refine Ok_if (fun h => ?_) (fun h => ?_) | with_reducible refine Ok_get fun a h => ?_ | with_reducible refine Ok_call (g0 _ _) fun v => ?_ | refine Ok_call (g0 _ _) fun v => ?_) <;> simp only [SSA, RS, *, k_laws_szDeclS_r12, e_laws_szDecl, Nat.reduceAdd, Nat.reduceSub, Nat.reduceMul, Nat.reduceLeDiff, Nat.reduceLT, Nat.reduceEqDiff, Nat.reduceBEq, ↓reduceIte, reduceCtorEq])
theorem laws_szDeclS_l16_ok (a : List GDecl) (left1 : Int) (i : Int) : Ok (laws_szDeclS_l16 a left1 i) e_laws_szDeclS (ev FTA c_laws_szDeclS (.loop k_laws_szDeclS_l16) [.lv 0, .th k_laws_szDeclS_r12] (putS (List.replicate 27 .dead) [(0, .t (.sl false (a.map GDecl.row))), (1, .t (.v (.int .i64 left1))), (5, .t (.v (.int .i64 i)))]) (putR (List.replicate 27 []) [])) := laws_szDeclS_l16_ok' a left1 i

theorem laws_szDeclS_ok : ∀ (a : List GDecl) (left : Int), Ok (laws_szDeclS a left) e_laws_szDeclS (dn FTA n_laws_szDeclS [.t (.sl false (a.map GDecl.row)), .t (.v (.int .i64 left))]) := by
  intro a left
  rw [den_ev FTA (fn := k_laws_szDeclS) rfl (cloneX_none rfl _) (Nat.le_of_ble_eq_true rfl)]
  simp only [SSA, RS, c_laws_szDeclS, k_laws_szDeclS, laws_szDeclS, Nat.reduceAdd, Nat.reduceSub, Nat.reduceMul, Nat.reduceLeDiff, Nat.reduceLT, Nat.reduceEqDiff, Nat.reduceBEq, ↓reduceIte, reduceCtorEq]
  repeat' first
    | with_reducible exact Ok_none
    | ((with_reducible refine Ok_ret ?_); first | rfl | (simp only [SSA, RS, e_laws_szDeclS, Nat.reduceAdd, Nat.reduceSub, Nat.reduceMul, Nat.reduceLeDiff, Nat.reduceLT, Nat.reduceEqDiff, Nat.reduceBEq, ↓reduceIte, reduceCtorEq]; done))
    | ((with_reducible refine Ok_tail (laws_szDeclS_l16_ok _ _ _) ?_); first | rfl | (simp only [SSA, RS, c_laws_szDeclS, Nat.reduceAdd, Nat.reduceSub, Nat.reduceMul, Nat.reduceLeDiff, Nat.reduceLT, Nat.reduceEqDiff, Nat.reduceBEq, ↓reduceIte, reduceCtorEq]; done) | (simp only [SSA, RS, c_laws_szDeclS, Nat.reduceAdd, Nat.reduceSub, Nat.reduceMul, Nat.reduceLeDiff, Nat.reduceLT, Nat.reduceEqDiff, Nat.reduceBEq, ↓reduceIte, reduceCtorEq]; rfl))
    | ((first | with_reducible refine Ok_if (fun h => ?_) (fun h => ?_)) <;> simp only [SSA, RS, *, Nat.reduceAdd, Nat.reduceSub, Nat.reduceMul, Nat.reduceLeDiff, Nat.reduceLT, Nat.reduceEqDiff, Nat.reduceBEq, ↓reduceIte, reduceCtorEq])

def e_laws_szAttr (r : Int) : Res := ⟨[.t (.v (.int .i64 r))], []⟩
def c_laws_szAttr : Cx := ⟨2, [0, 0], [.tmp 4]⟩
theorem laws_szAttr_ok : ∀ (a : GAttr) (left : Int), Ok (laws_szAttr a left) e_laws_szAttr (dn FTA n_laws_szAttr [.agg ((GAttr.row a).map .t), .t (.v (.int .i64 left))]) := by
  intro a left
  rw [den_ev FTA (fn := k_laws_szAttr) rfl (cloneX_none rfl _) (Nat.le_of_ble_eq_true rfl)]
  simp only [SSA, RS, c_laws_szAttr, k_laws_szAttr, laws_szAttr, Nat.reduceAdd, Nat.reduceSub, Nat.reduceMul, Nat.reduceLeDiff, Nat.reduceLT, Nat.reduceEqDiff, Nat.reduceBEq, ↓reduceIte, reduceCtorEq]
  repeat' first
    | with_reducible exact Ok_none
    | ((with_reducible refine Ok_ret ?_); first | rfl | (simp only [SSA, RS, e_laws_szAttr, Nat.reduceAdd, Nat.reduceSub, Nat.reduceMul, Nat.reduceLeDiff, Nat.reduceLT, Nat.reduceEqDiff, Nat.reduceBEq, ↓reduceIte, reduceCtorEq]; done))
    | ((first | with_reducible refine Ok_if (fun h => ?_) (fun h => ?_)) <;> simp only [SSA, RS, *, Nat.reduceAdd, Nat.reduceSub, Nat.reduceMul, Nat.reduceLeDiff, Nat.reduceLT, Nat.reduceEqDiff, Nat.reduceBEq, ↓reduceIte, reduceCtorEq])

def e_laws_szAttrS (r : Int) : Res := ⟨[.t (.v (.int .i64 r))], []⟩
def c_laws_szAttrS : Cx := ⟨2, [0, 0], [.tmp 4]⟩
theorem laws_szAttrS_l16_ok' (a : List GAttr) : ∀ (left1 : Int) (i : Int), Ok (laws_szAttrS_l16 a left1 i) e_laws_szAttrS (ev FTA c_laws_szAttrS (.loop k_laws_szAttrS_l16) [.lv 0, .th k_laws_szAttrS_r12] (putS (List.replicate 27 .dead) [(0, .t (.sl false (a.map GAttr.row))), (1, .t (.v (.int .i64 left1))), (5, .t (.v (.int .i64 i)))]) (putR (List.replicate 27 []) [])) := by
  unfold Ok
  refine laws_szAttrS_l16.partial_correctness a _ ?_
  intro F ih left1 i
  show Ok _ _ _
  have ih : ∀ (left1 : Int) (i : Int), Ok (F left1 i) _ _ := ih
  rw [ev_loop]
  have g0 := laws_szAttr_ok; try simp only [SSA, RS, Nat.reduceAdd, Nat.reduceSub, Nat.reduceMul, Nat.reduceLeDiff, Nat.reduceLT, Nat.reduceEqDiff, Nat.reduceBEq, ↓reduceIte, reduceCtorEq] at g0
  simp only [SSA, RS, c_laws_szAttrS, k_laws_szAttrS_l16, k_laws_szAttrS_r12, e_laws_szAttr, Nat.reduceAdd, Nat.reduceSub, Nat.reduceMul, Nat.reduceLeDiff, Nat.reduceLT, Nat.reduceEqDiff, Nat.reduceBEq, ↓reduceIte, reduceCtorEq]
  repeat' first
    | with_reducible exact Ok_none
    | ((with_reducible refine Ok_ret ?_); first | rfl | (simp only [SSA, RS, e_laws_szAttrS, Nat.reduceAdd, Nat.reduceSub, Nat.reduceMul, Nat.reduceLeDiff, Nat.reduceLT, Nat.reduceEqDiff, Nat.reduceBEq, ↓reduceIte, reduceCtorEq]; done))
    | ((with_reducible refine Ok_tail (ih _ _) ?_); first | rfl | (simp only [SSA, RS, c_laws_szAttrS, Nat.reduceAdd, Nat.reduceSub, Nat.reduceMul, Nat.reduceLeDiff, Nat.reduceLT, Nat.reduceEqDiff, Nat.reduceBEq, ↓reduceIte, reduceCtorEq]; done) | (simp only [SSA, RS, c_laws_szAttrS, Nat.reduceAdd, Nat.reduceSub, Nat.reduceMul, Nat.reduceLeDiff, Nat.reduceLT, Nat.reduceEqDiff, Nat.reduceBEq, ↓reduceIte, reduceCtorEq]; rfl))
    | ((first | with_reducible refine Ok_if (fun h => ?_) (fun h => ?_) | with_reducible refine Ok_get fun a h => ?_ | with_reducible refine Ok_call (g0 _ _) fun v => ?_ | refine Ok_call (g0 _ _) fun v => ?_) <;> simp only [SSA, RS, *, k_laws_szAttrS_r12, e_laws_szAttr, Nat.reduceAdd, Nat.reduceSub, Nat.reduceMul, Nat.reduceLeDiff, Nat.reduceLT, Nat.reduceEqDiff, Nat.reduceBEq, ↓reduceIte, reduceCtorEq])
theorem laws_szAttrS_l16_ok (a : List GAttr) (left1 : Int) (i : Int) : Ok (laws_szAttrS_l16 a left1 i) e_laws_szAttrS (ev FTA c_laws_szAttrS (.loop k_laws_szAttrS_l16) [.lv 0, .th k_laws_szAttrS_r12] (putS (List.replicate 27 .dead) [(0, .t (.sl false (a.map GAttr.row))), (1, .t (.v (.int .i64 left1))), (5, .t (.v (.int .i64 i)))]) (putR (List.replicate 27 []) [])) := laws_szAttrS_l16_ok' a left1 i

theorem laws_szAttrS_ok : ∀ (a : List GAttr) (left : Int), Ok (laws_szAttrS a left) e_laws_szAttrS (dn FTA n_laws_szAttrS [.t (.sl false (a.map GAttr.row)), .t (.v (.int .i64 left))]) := by
  intro a left
  rw [den_ev FTA (fn := k_laws_szAttrS) rfl (cloneX_none rfl _) (Nat.le_of_ble_eq_true rfl)]
  simp only [SSA, RS, c_laws_szAttrS, k_laws_szAttrS, laws_szAttrS, Nat.reduceAdd, Nat.reduceSub, Nat.reduceMul, Nat.reduceLeDiff, Nat.reduceLT, Nat.reduceEqDiff, Nat.reduceBEq, ↓reduceIte, reduceCtorEq]
  repeat' first
    | with_reducible exact Ok_none
    | ((with_reducible refine Ok_ret ?_); first | rfl | (simp only [SSA, RS, e_laws_szAttrS, Nat.reduceAdd, Nat.reduceSub, Nat.reduceMul, Nat.reduceLeDiff, Nat.reduceLT, Nat.reduceEqDiff, Nat.reduceBEq, ↓reduceIte, reduceCtorEq]; done))
    | ((with_reducible refine Ok_tail (laws_szAttrS_l16_ok _ _ _) ?_); first | rfl | (simp only [SSA, RS, c_laws_szAttrS, Nat.reduceAdd, Nat.reduceSub, Nat.reduceMul, Nat.reduceLeDiff, Nat.reduceLT, Nat.reduceEqDiff, Nat.reduceBEq, ↓reduceIte, reduceCtorEq]; done) | (simp only [SSA, RS, c_laws_szAttrS, Nat.reduceAdd, Nat.reduceSub, Nat.reduceMul, Nat.reduceLeDiff, Nat.reduceLT, Nat.reduceEqDiff, Nat.reduceBEq, ↓reduceIte, reduceCtorEq]; rfl))
    | ((first | with_reducible refine Ok_if (fun h => ?_) (fun h => ?_)) <;> simp only [SSA, RS, *, Nat.reduceAdd, Nat.reduceSub, Nat.reduceMul, Nat.reduceLeDiff, Nat.reduceLT, Nat.reduceEqDiff, Nat.reduceBEq, ↓reduceIte, reduceCtorEq])

def e_laws_szNode (r : Int) : Res := ⟨[.t (.v (.int .i64 r))], []⟩
def c_laws_szNode : Cx := ⟨2, [0, 0], [.tmp 4]⟩
def e_laws_szNodeS (r : Int) : Res := ⟨[.t (.v (.int .i64 r))], []⟩
def c_laws_szNodeS : Cx := ⟨2, [0, 0], [.tmp 4]⟩
theorem G_laws_szNode : (∀ (a : GNode) (left : Int), Ok (laws_szNode a left) e_laws_szNode (dn FTA n_laws_szNode [.agg (((GNode.row false) a).map .t), .t (.v (.int .i64 left))])) ∧
    (∀ (a : List GNode) (left : Int), Ok (laws_szNodeS a left) e_laws_szNodeS (dn FTA n_laws_szNodeS [.t (.sl false (a.map (GNode.row false))), .t (.v (.int .i64 left))])) ∧
    (∀ (a : List GNode) (left1 : Int) (i : Int), Ok (laws_szNodeS_l16 a left1 i) e_laws_szNodeS (ev FTA c_laws_szNodeS (.loop k_laws_szNodeS_l16) [.lv 0, .th k_laws_szNodeS_r12] (putS (List.replicate 27 .dead) [(0, .t (.sl false (a.map (GNode.row false)))), (1, .t (.v (.int .i64 left1))), (5, .t (.v (.int .i64 i)))]) (putR (List.replicate 27 []) []))) := by
  unfold Ok
  refine laws_szNode.mutual_partial_correctness _ _ _ ?_ ?_ ?_ 
  · intro F1 ih1 a left
    show Ok _ _ _
    have ih1 : ∀ (a : List GNode) (left : Int), Ok (F1 a left) _ _ := ih1
    rw [den_ev FTA (fn := k_laws_szNode) rfl (cloneX_none rfl _) (Nat.le_of_ble_eq_true rfl)]
    have g0 := laws_szDeclS_ok; try simp only [SSA, RS, Nat.reduceAdd, Nat.reduceSub, Nat.reduceMul, Nat.reduceLeDiff, Nat.reduceLT, Nat.reduceEqDiff, Nat.reduceBEq, ↓reduceIte, reduceCtorEq] at g0
    have g1 := laws_szAttrS_ok; try simp only [SSA, RS, Nat.reduceAdd, Nat.reduceSub, Nat.reduceMul, Nat.reduceLeDiff, Nat.reduceLT, Nat.reduceEqDiff, Nat.reduceBEq, ↓reduceIte, reduceCtorEq] at g1
    have g2 := ih1; try simp only [SSA, RS, Nat.reduceAdd, Nat.reduceSub, Nat.reduceMul, Nat.reduceLeDiff, Nat.reduceLT, Nat.reduceEqDiff, Nat.reduceBEq, ↓reduceIte, reduceCtorEq] at g2
    simp only [SSA, RS, c_laws_szNode, k_laws_szNode, e_laws_szAttrS, e_laws_szDeclS, e_laws_szNodeS, Nat.reduceAdd, Nat.reduceSub, Nat.reduceMul, Nat.reduceLeDiff, Nat.reduceLT, Nat.reduceEqDiff, Nat.reduceBEq, ↓reduceIte, reduceCtorEq]
    repeat' first
      | with_reducible exact Ok_none
      | ((with_reducible refine Ok_ret ?_); first | rfl | (simp only [SSA, RS, e_laws_szNode, Nat.reduceAdd, Nat.reduceSub, Nat.reduceMul, Nat.reduceLeDiff, Nat.reduceLT, Nat.reduceEqDiff, Nat.reduceBEq, ↓reduceIte, reduceCtorEq]; done))
      | ((first | with_reducible refine Ok_if (fun h => ?_) (fun h => ?_) | with_reducible refine Ok_call (g0 _ _) fun v => ?_ | with_reducible refine Ok_call (g1 _ _) fun v => ?_ | with_reducible refine Ok_call (g2 _ _) fun v => ?_ | refine Ok_call (g0 _ _) fun v => ?_ | refine Ok_call (g1 _ _) fun v => ?_ | refine Ok_call (g2 _ _) fun v => ?_) <;> simp only [SSA, RS, *, e_laws_szAttrS, e_laws_szDeclS, e_laws_szNodeS, Nat.reduceAdd, Nat.reduceSub, Nat.reduceMul, Nat.reduceLeDiff, Nat.reduceLT, Nat.reduceEqDiff, Nat.reduceBEq, ↓reduceIte, reduceCtorEq])
  · intro F2 ih2 a left
    show Ok _ _ _
    have ih2 : ∀ (a : List GNode) (left1 : Int) (i : Int), Ok (F2 a left1 i) _ _ := ih2
    rw [den_ev FTA (fn := k_laws_szNodeS) rfl (cloneX_none rfl _) (Nat.le_of_ble_eq_true rfl)]
    simp only [SSA, RS, c_laws_szNodeS, k_laws_szNodeS, Nat.reduceAdd, Nat.reduceSub, Nat.reduceMul, Nat.reduceLeDiff, Nat.reduceLT, Nat.reduceEqDiff, Nat.reduceBEq, ↓reduceIte, reduceCtorEq]
    repeat' first
      | with_reducible exact Ok_none
      | ((with_reducible refine Ok_ret ?_); first | rfl | (simp only [SSA, RS, e_laws_szNodeS, Nat.reduceAdd, Nat.reduceSub, Nat.reduceMul, Nat.reduceLeDiff, Nat.reduceLT, Nat.reduceEqDiff, Nat.reduceBEq, ↓reduceIte, reduceCtorEq]; done))
      | ((with_reducible refine Ok_tail (ih2 _ _ _) ?_); first | rfl | (simp only [SSA, RS, c_laws_szNodeS, Nat.reduceAdd, Nat.reduceSub, Nat.reduceMul, Nat.reduceLeDiff, Nat.reduceLT, Nat.reduceEqDiff, Nat.reduceBEq, ↓reduceIte, reduceCtorEq]; done) | (simp only [SSA, RS, c_laws_szNodeS, Nat.reduceAdd, Nat.reduceSub, Nat.reduceMul, Nat.reduceLeDiff, Nat.reduceLT, Nat.reduceEqDiff, Nat.reduceBEq, ↓reduceIte, reduceCtorEq]; rfl))
      | ((first | with_reducible refine Ok_if (fun h => ?_) (fun h => ?_)) <;> simp only [SSA, RS, *, Nat.reduceAdd, Nat.reduceSub, Nat.reduceMul, Nat.reduceLeDiff, Nat.reduceLT, Nat.reduceEqDiff, Nat.reduceBEq, ↓reduceIte, reduceCtorEq])
  · intro F0 F2 ih0 ih2 a left1 i
    show Ok _ _ _
    have ih0 : ∀ (a : GNode) (left : Int), Ok (F0 a left) _ _ := ih0
    have ih2 : ∀ (a : List GNode) (left1 : Int) (i : Int), Ok (F2 a left1 i) _ _ := ih2
    rw [ev_loop]
    have g0 := ih0; try simp only [SSA, RS, Nat.reduceAdd, Nat.reduceSub, Nat.reduceMul, Nat.reduceLeDiff, Nat.reduceLT, Nat.reduceEqDiff, Nat.reduceBEq, ↓reduceIte, reduceCtorEq] at g0
    simp only [SSA, RS, c_laws_szNodeS, k_laws_szNodeS_l16, k_laws_szNodeS_r12, e_laws_szNode, Nat.reduceAdd, Nat.reduceSub, Nat.reduceMul, Nat.reduceLeDiff, Nat.reduceLT, Nat.reduceEqDiff, Nat.reduceBEq, ↓reduceIte, reduceCtorEq]
    repeat' first
      | with_reducible exact Ok_none
      | ((with_reducible refine Ok_ret ?_); first | rfl | (simp only [SSA, RS, e_laws_szNodeS, Nat.reduceAdd, Nat.reduceSub, Nat.reduceMul, Nat.reduceLeDiff, Nat.reduceLT, Nat.reduceEqDiff, Nat.reduceBEq, ↓reduceIte, reduceCtorEq]; done))
      | ((with_reducible refine Ok_tail (ih2 _ _ _) ?_); first | rfl | (simp only [SSA, RS, c_laws_szNodeS, Nat.reduceAdd, Nat.reduceSub, Nat.reduceMul, Nat.reduceLeDiff, Nat.reduceLT, Nat.reduceEqDiff, Nat.reduceBEq, ↓reduceIte, reduceCtorEq]; done) | (simp only [SSA, RS, c_laws_szNodeS, Nat.reduceAdd, Nat.reduceSub, Nat.reduceMul, Nat.reduceLeDiff, Nat.reduceLT, Nat.reduceEqDiff, Nat.reduceBEq, ↓reduceIte, reduceCtorEq]; rfl))
      | ((first | with_reducible refine Ok_if (fun h => ?_) (fun h => ?_) | with_reducible refine Ok_get fun a h => ?_ | with_reducible refine Ok_call (g0 _ _) fun v => ?_ | refine Ok_call (g0 _ _) fun v => ?_) <;> simp only [SSA, RS, *, k_laws_szNodeS_r12, e_laws_szNode, Nat.reduceAdd, Nat.reduceSub, Nat.reduceMul, Nat.reduceLeDiff, Nat.reduceLT, Nat.reduceEqDiff, Nat.reduceBEq, ↓reduceIte, reduceCtorEq])
theorem laws_szNode_ok (a : GNode) (left : Int) : Ok (laws_szNode a left) e_laws_szNode (dn FTA n_laws_szNode [.agg (((GNode.row false) a).map .t), .t (.v (.int .i64 left))]) := G_laws_szNode.1 a left
theorem laws_szNodeS_ok (a : List GNode) (left : Int) : Ok (laws_szNodeS a left) e_laws_szNodeS (dn FTA n_laws_szNodeS [.t (.sl false (a.map (GNode.row false))), .t (.v (.int .i64 left))]) := G_laws_szNode.2.1 a left
theorem laws_szNodeS_l16_ok (a : List GNode) (left1 : Int) (i : Int) : Ok (laws_szNodeS_l16 a left1 i) e_laws_szNodeS (ev FTA c_laws_szNodeS (.loop k_laws_szNodeS_l16) [.lv 0, .th k_laws_szNodeS_r12] (putS (List.replicate 27 .dead) [(0, .t (.sl false (a.map (GNode.row false)))), (1, .t (.v (.int .i64 left1))), (5, .t (.v (.int .i64 i)))]) (putR (List.replicate 27 []) [])) := G_laws_szNode.2.2 a left1 i

def e_laws_toDecl (r : GDecl) : Res := ⟨[.agg [.v (.string r.Pre), .v (.string r.Uri)]], []⟩
def c_laws_toDecl : Cx := ⟨1, [0], [.cell 2 2 true]⟩
theorem laws_toDecl_ok : ∀ (a : GDecl), Ok (laws_toDecl a) e_laws_toDecl (dn FTA n_laws_toDecl [.agg ((GDecl.row a).map .t)]) := by
  intro a
  rw [den_ev FTA (fn := k_laws_toDecl) rfl (cloneX_none rfl _) (Nat.le_of_ble_eq_true rfl)]
  simp only [SSA, RS, c_laws_toDecl, k_laws_toDecl, laws_toDecl, Nat.reduceAdd, Nat.reduceSub, Nat.reduceMul, Nat.reduceLeDiff, Nat.reduceLT, Nat.reduceEqDiff, Nat.reduceBEq, ↓reduceIte, reduceCtorEq]
  repeat' first
    | with_reducible exact Ok_none
    | ((with_reducible refine Ok_ret ?_); first | rfl | (simp only [SSA, RS, e_laws_toDecl, Nat.reduceAdd, Nat.reduceSub, Nat.reduceMul, Nat.reduceLeDiff, Nat.reduceLT, Nat.reduceEqDiff, Nat.reduceBEq, ↓reduceIte, reduceCtorEq]; done))

def e_laws_toDeclS (r : List GDecl) : Res := ⟨[.t (.sl true (r.map GDecl.row))], []⟩
def c_laws_toDeclS : Cx := ⟨1, [0], [.tmp 2]⟩
theorem laws_toDeclS_l8_ok' (a : List GDecl) : ∀ (out : List (GDecl)) (i : Int), Ok (laws_toDeclS_l8 a out i) e_laws_toDeclS (ev FTA c_laws_toDeclS (.loop k_laws_toDeclS_l8) [.lv 0, .th k_laws_toDeclS_r4] (putS (List.replicate 23 .dead) [(0, .t (.sl false (a.map GDecl.row))), (3, .ref (7, 0) out.length), (4, .t (.v (.int .i64 i)))]) (putR (List.replicate 23 []) [(7, [.mem (out.map GDecl.row) 0 false])])) := by
  unfold Ok
  refine laws_toDeclS_l8.partial_correctness a _ ?_
  intro F ih out i
  show Ok _ _ _
  have ih : ∀ (out : List (GDecl)) (i : Int), Ok (F out i) _ _ := ih
  rw [ev_loop]
  have g0 := laws_toDecl_ok; try simp only [SSA, RS, Nat.reduceAdd, Nat.reduceSub, Nat.reduceMul, Nat.reduceLeDiff, Nat.reduceLT, Nat.reduceEqDiff, Nat.reduceBEq, ↓reduceIte, reduceCtorEq] at g0
  simp only [SSA, RS, c_laws_toDeclS, k_laws_toDeclS_l8, k_laws_toDeclS_r4, e_laws_toDecl, Nat.reduceAdd, Nat.reduceSub, Nat.reduceMul, Nat.reduceLeDiff, Nat.reduceLT, Nat.reduceEqDiff, Nat.reduceBEq, ↓reduceIte, reduceCtorEq]
  repeat' first
    | with_reducible exact Ok_none
    | ((with_reducible refine Ok_ret ?_); first | rfl | (simp only [SSA, RS, e_laws_toDeclS, Nat.reduceAdd, Nat.reduceSub, Nat.reduceMul, Nat.reduceLeDiff, Nat.reduceLT, Nat.reduceEqDiff, Nat.reduceBEq, ↓reduceIte, reduceCtorEq]; done))
    | ((with_reducible refine Ok_tail (ih _ _) ?_); first | rfl | (simp only [SSA, RS, c_laws_toDeclS, Nat.reduceAdd, Nat.reduceSub, Nat.reduceMul, Nat.reduceLeDiff, Nat.reduceLT, Nat.reduceEqDiff, Nat.reduceBEq, ↓reduceIte, reduceCtorEq]; done) | (simp only [SSA, RS, c_laws_toDeclS, Nat.reduceAdd, Nat.reduceSub, Nat.reduceMul, Nat.reduceLeDiff, Nat.reduceLT, Nat.reduceEqDiff, Nat.reduceBEq, ↓reduceIte, reduceCtorEq]; rfl))
    | ((first | with_reducible refine Ok_if (fun h => ?_) (fun h => ?_) | with_reducible refine Ok_get fun a h => ?_ | with_reducible refine Ok_call (g0 _) fun v => ?_ | refine Ok_call (g0 _) fun v => ?_) <;> simp only [SSA, RS, *, k_laws_toDeclS_r4, e_laws_toDecl, Nat.reduceAdd, Nat.reduceSub, Nat.reduceMul, Nat.reduceLeDiff, Nat.reduceLT, Nat.reduceEqDiff, Nat.reduceBEq, ↓reduceIte, reduceCtorEq])
theorem laws_toDeclS_l8_ok (a : List GDecl) (out : List (GDecl)) (i : Int) : Ok (laws_toDeclS_l8 a out i) e_laws_toDeclS (ev FTA c_laws_toDeclS (.loop k_laws_toDeclS_l8) [.lv 0, .th k_laws_toDeclS_r4] (putS (List.replicate 23 .dead) [(0, .t (.sl false (a.map GDecl.row))), (3, .ref (7, 0) out.length), (4, .t (.v (.int .i64 i)))]) (putR (List.replicate 23 []) [(7, [.mem (out.map GDecl.row) 0 false])])) := laws_toDeclS_l8_ok' a out i

theorem laws_toDeclS_ok : ∀ (a : List GDecl), Ok (laws_toDeclS a) e_laws_toDeclS (dn FTA n_laws_toDeclS [.t (.sl false (a.map GDecl.row))]) := by
  intro a
  rw [den_ev FTA (fn := k_laws_toDeclS) rfl (cloneX_none rfl _) (Nat.le_of_ble_eq_true rfl)]
  simp only [SSA, RS, c_laws_toDeclS, k_laws_toDeclS, laws_toDeclS, Nat.reduceAdd, Nat.reduceSub, Nat.reduceMul, Nat.reduceLeDiff, Nat.reduceLT, Nat.reduceEqDiff, Nat.reduceBEq, ↓reduceIte, reduceCtorEq]
  repeat' first
    | with_reducible exact Ok_none
    | ((with_reducible refine Ok_ret ?_); first | rfl | (simp only [SSA, RS, e_laws_toDeclS, Nat.reduceAdd, Nat.reduceSub, Nat.reduceMul, Nat.reduceLeDiff, Nat.reduceLT, Nat.reduceEqDiff, Nat.reduceBEq, ↓reduceIte, reduceCtorEq]; done))
    | ((with_reducible refine Ok_tail (laws_toDeclS_l8_ok _ _ _) ?_); first | rfl | (simp only [SSA, RS, c_laws_toDeclS, Nat.reduceAdd, Nat.reduceSub, Nat.reduceMul, Nat.reduceLeDiff, Nat.reduceLT, Nat.reduceEqDiff, Nat.reduceBEq, ↓reduceIte, reduceCtorEq]; done) | (simp only [SSA, RS, c_laws_toDeclS, Nat.reduceAdd, Nat.reduceSub, Nat.reduceMul, Nat.reduceLeDiff, Nat.reduceLT, Nat.reduceEqDiff, Nat.reduceBEq, ↓reduceIte, reduceCtorEq]; rfl))
    | ((first | with_reducible refine Ok_prim (p := mkN _ _) fun a h => ?_) <;> simp only [SSA, RS, *, Nat.reduceAdd, Nat.reduceSub, Nat.reduceMul, Nat.reduceLeDiff, Nat.reduceLT, Nat.reduceEqDiff, Nat.reduceBEq, ↓reduceIte, reduceCtorEq])

def e_laws_toAttr (r : GAttr) : Res := ⟨[.agg [.v (.string r.Pre), .v (.string r.Local), .v (.string r.Uri), .v (.string r.Val)]], []⟩
def c_laws_toAttr : Cx := ⟨1, [0], [.cell 2 4 true]⟩
theorem laws_toAttr_ok : ∀ (a : GAttr), Ok (laws_toAttr a) e_laws_toAttr (dn FTA n_laws_toAttr [.agg ((GAttr.row a).map .t)]) := by
  intro a
  rw [den_ev FTA (fn := k_laws_toAttr) rfl (cloneX_none rfl _) (Nat.le_of_ble_eq_true rfl)]
  simp only [SSA, RS, c_laws_toAttr, k_laws_toAttr, laws_toAttr, Nat.reduceAdd, Nat.reduceSub, Nat.reduceMul, Nat.reduceLeDiff, Nat.reduceLT, Nat.reduceEqDiff, Nat.reduceBEq, ↓reduceIte, reduceCtorEq]
  repeat' first
    | with_reducible exact Ok_none
    | ((with_reducible refine Ok_ret ?_); first | rfl | (simp only [SSA, RS, e_laws_toAttr, Nat.reduceAdd, Nat.reduceSub, Nat.reduceMul, Nat.reduceLeDiff, Nat.reduceLT, Nat.reduceEqDiff, Nat.reduceBEq, ↓reduceIte, reduceCtorEq]; done))

def e_laws_toAttrS (r : List GAttr) : Res := ⟨[.t (.sl true (r.map GAttr.row))], []⟩
def c_laws_toAttrS : Cx := ⟨1, [0], [.tmp 2]⟩
theorem laws_toAttrS_l8_ok' (a : List GAttr) : ∀ (out : List (GAttr)) (i : Int), Ok (laws_toAttrS_l8 a out i) e_laws_toAttrS (ev FTA c_laws_toAttrS (.loop k_laws_toAttrS_l8) [.lv 0, .th k_laws_toAttrS_r4] (putS (List.replicate 23 .dead) [(0, .t (.sl false (a.map GAttr.row))), (3, .ref (7, 0) out.length), (4, .t (.v (.int .i64 i)))]) (putR (List.replicate 23 []) [(7, [.mem (out.map GAttr.row) 0 false])])) := by
  unfold Ok
  refine laws_toAttrS_l8.partial_correctness a _ ?_
  intro F ih out i
  show Ok _ _ _
  have ih : ∀ (out : List (GAttr)) (i : Int), Ok (F out i) _ _ := ih
  rw [ev_loop]
  have g0 := laws_toAttr_ok; try simp only [SSA, RS, Nat.reduceAdd, Nat.reduceSub, Nat.reduceMul, Nat.reduceLeDiff, Nat.reduceLT, Nat.reduceEqDiff, Nat.reduceBEq, ↓reduceIte, reduceCtorEq] at g0
  simp only [SSA, RS, c_laws_toAttrS, k_laws_toAttrS_l8, k_laws_toAttrS_r4, e_laws_toAttr, Nat.reduceAdd, Nat.reduceSub, Nat.reduceMul, Nat.reduceLeDiff, Nat.reduceLT, Nat.reduceEqDiff, Nat.reduceBEq, ↓reduceIte, reduceCtorEq]
  repeat' first
    | with_reducible exact Ok_none
    | ((with_reducible refine Ok_ret ?_); first | rfl | (simp only [SSA, RS, e_laws_toAttrS, Nat.reduceAdd, Nat.reduceSub, Nat.reduceMul, Nat.reduceLeDiff, Nat.reduceLT, Nat.reduceEqDiff, Nat.reduceBEq, ↓reduceIte, reduceCtorEq]; done))
    | ((with_reducible refine Ok_tail (ih _ _) ?_); first | rfl | (simp only [SSA, RS, c_laws_toAttrS, Nat.reduceAdd, Nat.reduceSub, Nat.reduceMul, Nat.reduceLeDiff, Nat.reduceLT, Nat.reduceEqDiff, Nat.reduceBEq, ↓reduceIte, reduceCtorEq]; done) | (simp only [SSA, RS, c_laws_toAttrS, Nat.reduceAdd, Nat.reduceSub, Nat.reduceMul, Nat.reduceLeDiff, Nat.reduceLT, Nat.reduceEqDiff, Nat.reduceBEq, ↓reduceIte, reduceCtorEq]; rfl))
    | ((first | with_reducible refine Ok_if (fun h => ?_) (fun h => ?_) | with_reducible refine Ok_get fun a h => ?_ | with_reducible refine Ok_call (g0 _) fun v => ?_ | refine Ok_call (g0 _) fun v => ?_) <;> simp only [SSA, RS, *, k_laws_toAttrS_r4, e_laws_toAttr, Nat.reduceAdd, Nat.reduceSub, Nat.reduceMul, Nat.reduceLeDiff, Nat.reduceLT, Nat.reduceEqDiff, Nat.reduceBEq, ↓reduceIte, reduceCtorEq])
theorem laws_toAttrS_l8_ok (a : List GAttr) (out : List (GAttr)) (i : Int) : Ok (laws_toAttrS_l8 a out i) e_laws_toAttrS (ev FTA c_laws_toAttrS (.loop k_laws_toAttrS_l8) [.lv 0, .th k_laws_toAttrS_r4] (putS (List.replicate 23 .dead) [(0, .t (.sl false (a.map GAttr.row))), (3, .ref (7, 0) out.length), (4, .t (.v (.int .i64 i)))]) (putR (List.replicate 23 []) [(7, [.mem (out.map GAttr.row) 0 false])])) := laws_toAttrS_l8_ok' a out i

theorem laws_toAttrS_ok : ∀ (a : List GAttr), Ok (laws_toAttrS a) e_laws_toAttrS (dn FTA n_laws_toAttrS [.t (.sl false (a.map GAttr.row))]) := by
  intro a
  rw [den_ev FTA (fn := k_laws_toAttrS) rfl (cloneX_none rfl _) (Nat.le_of_ble_eq_true rfl)]
  simp only [SSA, RS, c_laws_toAttrS, k_laws_toAttrS, laws_toAttrS, Nat.reduceAdd, Nat.reduceSub, Nat.reduceMul, Nat.reduceLeDiff, Nat.reduceLT, Nat.reduceEqDiff, Nat.reduceBEq, ↓reduceIte, reduceCtorEq]
  repeat' first
    | with_reducible exact Ok_none
    | ((with_reducible refine Ok_ret ?_); first | rfl | (simp only [SSA, RS, e_laws_toAttrS, Nat.reduceAdd, Nat.reduceSub, Nat.reduceMul, Nat.reduceLeDiff, Nat.reduceLT, Nat.reduceEqDiff, Nat.reduceBEq, ↓reduceIte, reduceCtorEq]; done))
    | ((with_reducible refine Ok_tail (laws_toAttrS_l8_ok _ _ _) ?_); first | rfl | (simp only [SSA, RS, c_laws_toAttrS, Nat.reduceAdd, Nat.reduceSub, Nat.reduceMul, Nat.reduceLeDiff, Nat.reduceLT, Nat.reduceEqDiff, Nat.reduceBEq, ↓reduceIte, reduceCtorEq]; done) | (simp only [SSA, RS, c_laws_toAttrS, Nat.reduceAdd, Nat.reduceSub, Nat.reduceMul, Nat.reduceLeDiff, Nat.reduceLT, Nat.reduceEqDiff, Nat.reduceBEq, ↓reduceIte, reduceCtorEq]; rfl))
    | ((first | with_reducible refine Ok_prim (p := mkN _ _) fun a h => ?_) <;> simp only [SSA, RS, *, Nat.reduceAdd, Nat.reduceSub, Nat.reduceMul, Nat.reduceLeDiff, Nat.reduceLT, Nat.reduceEqDiff, Nat.reduceBEq, ↓reduceIte, reduceCtorEq])

def e_laws_toNode (r : GNode) : Res := ⟨[.agg [.v (.int .i64 r.Kind), .v (.string r.Pre), .v (.string r.Local), .v (.string r.Uri), .sl true (r.Decls.map GDecl.row), .sl true (r.Attrs.map GAttr.row), .sl true (r.Kids.map (GNode.row true)), .v (.string r.Text)]], []⟩
def c_laws_toNode : Cx := ⟨1, [0], [.cell 2 8 true]⟩
def e_laws_toNodeS (r : List GNode) : Res := ⟨[.t (.sl true (r.map (GNode.row true)))], []⟩
def c_laws_toNodeS : Cx := ⟨1, [0], [.tmp 2]⟩
theorem G_laws_toNode : (∀ (a : GNode), Ok (laws_toNode a) e_laws_toNode (dn FTA n_laws_toNode [.agg (((GNode.row false) a).map .t)])) ∧
    (∀ (a : List GNode), Ok (laws_toNodeS a) e_laws_toNodeS (dn FTA n_laws_toNodeS [.t (.sl false (a.map (GNode.row false)))])) ∧
    (∀ (a : List GNode) (out : List (GNode)) (i : Int), Ok (laws_toNodeS_l8 a out i) e_laws_toNodeS (ev FTA c_laws_toNodeS (.loop k_laws_toNodeS_l8) [.lv 0, .th k_laws_toNodeS_r4] (putS (List.replicate 23 .dead) [(0, .t (.sl false (a.map (GNode.row false)))), (3, .ref (7, 0) out.length), (4, .t (.v (.int .i64 i)))]) (putR (List.replicate 23 []) [(7, [.mem (out.map (GNode.row true)) 0 false])]))) := by
  unfold Ok
  refine laws_toNode.mutual_partial_correctness _ _ _ ?_ ?_ ?_ 
  · intro F1 ih1 a
    show Ok _ _ _
    have ih1 : ∀ (a : List GNode), Ok (F1 a) _ _ := ih1
    rw [den_ev FTA (fn := k_laws_toNode) rfl (cloneX_none rfl _) (Nat.le_of_ble_eq_true rfl)]
    have g0 := laws_toDeclS_ok; try simp only [SSA, RS, Nat.reduceAdd, Nat.reduceSub, Nat.reduceMul, Nat.reduceLeDiff, Nat.reduceLT, Nat.reduceEqDiff, Nat.reduceBEq, ↓reduceIte, reduceCtorEq] at g0
    have g1 := laws_toAttrS_ok; try simp only [SSA, RS, Nat.reduceAdd, Nat.reduceSub, Nat.reduceMul, Nat.reduceLeDiff, Nat.reduceLT, Nat.reduceEqDiff, Nat.reduceBEq, ↓reduceIte, reduceCtorEq] at g1
    have g2 := ih1; try simp only [SSA, RS, Nat.reduceAdd, Nat.reduceSub, Nat.reduceMul, Nat.reduceLeDiff, Nat.reduceLT, Nat.reduceEqDiff, Nat.reduceBEq, ↓reduceIte, reduceCtorEq] at g2
    simp only [SSA, RS, c_laws_toNode, k_laws_toNode, e_laws_toAttrS, e_laws_toDeclS, e_laws_toNodeS, Nat.reduceAdd, Nat.reduceSub, Nat.reduceMul, Nat.reduceLeDiff, Nat.reduceLT, Nat.reduceEqDiff, Nat.reduceBEq, ↓reduceIte, reduceCtorEq]
    repeat' first
      | with_reducible exact Ok_none
      | ((with_reducible refine Ok_ret ?_); first | rfl | (simp only [SSA, RS, e_laws_toNode, Nat.reduceAdd, Nat.reduceSub, Nat.reduceMul, Nat.reduceLeDiff, Nat.reduceLT, Nat.reduceEqDiff, Nat.reduceBEq, ↓reduceIte, reduceCtorEq]; done))
      | ((first | with_reducible refine Ok_call (g0 _) fun v => ?_ | with_reducible refine Ok_call (g1 _) fun v => ?_ | with_reducible refine Ok_call (g2 _) fun v => ?_ | refine Ok_call (g0 _) fun v => ?_ | refine Ok_call (g1 _) fun v => ?_ | refine Ok_call (g2 _) fun v => ?_) <;> simp only [SSA, RS, *, e_laws_toAttrS, e_laws_toDeclS, e_laws_toNodeS, Nat.reduceAdd, Nat.reduceSub, Nat.reduceMul, Nat.reduceLeDiff, Nat.reduceLT, Nat.reduceEqDiff, Nat.reduceBEq, ↓reduceIte, reduceCtorEq])
  · intro F2 ih2 a
    show Ok _ _ _
    have ih2 : ∀ (a : List GNode) (out : List (GNode)) (i : Int), Ok (F2 a out i) _ _ := ih2
    rw [den_ev FTA (fn := k_laws_toNodeS) rfl (cloneX_none rfl _) (Nat.le_of_ble_eq_true rfl)]
    simp only [SSA, RS, c_laws_toNodeS, k_laws_toNodeS, Nat.reduceAdd, Nat.reduceSub, Nat.reduceMul, Nat.reduceLeDiff, Nat.reduceLT, Nat.reduceEqDiff, Nat.reduceBEq, ↓reduceIte, reduceCtorEq]
    repeat' first
      | with_reducible exact Ok_none
      | ((with_reducible refine Ok_ret ?_); first | rfl | (simp only [SSA, RS, e_laws_toNodeS, Nat.reduceAdd, Nat.reduceSub, Nat.reduceMul, Nat.reduceLeDiff, Nat.reduceLT, Nat.reduceEqDiff, Nat.reduceBEq, ↓reduceIte, reduceCtorEq]; done))
      | ((with_reducible refine Ok_tail (ih2 _ _ _) ?_); first | rfl | (simp only [SSA, RS, c_laws_toNodeS, Nat.reduceAdd, Nat.reduceSub, Nat.reduceMul, Nat.reduceLeDiff, Nat.reduceLT, Nat.reduceEqDiff, Nat.reduceBEq, ↓reduceIte, reduceCtorEq]; done) | (simp only [SSA, RS, c_laws_toNodeS, Nat.reduceAdd, Nat.reduceSub, Nat.reduceMul, Nat.reduceLeDiff, Nat.reduceLT, Nat.reduceEqDiff, Nat.reduceBEq, ↓reduceIte, reduceCtorEq]; rfl))
      | ((first | with_reducible refine Ok_prim (p := mkN _ _) fun a h => ?_) <;> simp only [SSA, RS, *, Nat.reduceAdd, Nat.reduceSub, Nat.reduceMul, Nat.reduceLeDiff, Nat.reduceLT, Nat.reduceEqDiff, Nat.reduceBEq, ↓reduceIte, reduceCtorEq])
  · intro F0 F2 ih0 ih2 a out i
    show Ok _ _ _
    have ih0 : ∀ (a : GNode), Ok (F0 a) _ _ := ih0
    have ih2 : ∀ (a : List GNode) (out : List (GNode)) (i : Int), Ok (F2 a out i) _ _ := ih2
    rw [ev_loop]
    have g0 := ih0; try simp only [SSA, RS, Nat.reduceAdd, Nat.reduceSub, Nat.reduceMul, Nat.reduceLeDiff, Nat.reduceLT, Nat.reduceEqDiff, Nat.reduceBEq, ↓reduceIte, reduceCtorEq] at g0
    simp only [SSA, RS, c_laws_toNodeS, k_laws_toNodeS_l8, k_laws_toNodeS_r4, e_laws_toNode, Nat.reduceAdd, Nat.reduceSub, Nat.reduceMul, Nat.reduceLeDiff, Nat.reduceLT, Nat.reduceEqDiff, Nat.reduceBEq, ↓reduceIte, reduceCtorEq]
    repeat' first
      | with_reducible exact Ok_none
      | ((with_reducible refine Ok_ret ?_); first | rfl | (simp only [SSA, RS, e_laws_toNodeS, Nat.reduceAdd, Nat.reduceSub, Nat.reduceMul, Nat.reduceLeDiff, Nat.reduceLT, Nat.reduceEqDiff, Nat.reduceBEq, ↓reduceIte, reduceCtorEq]; done))
      | ((with_reducible refine Ok_tail (ih2 _ _ _) ?_); first | rfl | (simp only [SSA, RS, c_laws_toNodeS, Nat.reduceAdd, Nat.reduceSub, Nat.reduceMul, Nat.reduceLeDiff, Nat.reduceLT, Nat.reduceEqDiff, Nat.reduceBEq, ↓reduceIte, reduceCtorEq]; done) | (simp only [SSA, RS, c_laws_toNodeS, Nat.reduceAdd, Nat.reduceSub, Nat.reduceMul, Nat.reduceLeDiff, Nat.reduceLT, Nat.reduceEqDiff, Nat.reduceBEq, ↓reduceIte, reduceCtorEq]; rfl))
      | ((first | with_reducible refine Ok_if (fun h => ?_) (fun h => ?_) | with_reducible refine Ok_get fun a h => ?_ | with_reducible refine Ok_call (g0 _) fun v => ?_ | refine Ok_call (g0 _) fun v => ?_) <;> simp only [SSA, RS, *, k_laws_toNodeS_r4, e_laws_toNode, Nat.reduceAdd, Nat.reduceSub, Nat.reduceMul, Nat.reduceLeDiff, Nat.reduceLT, Nat.reduceEqDiff, Nat.reduceBEq, ↓reduceIte, reduceCtorEq])
theorem laws_toNode_ok (a : GNode) : Ok (laws_toNode a) e_laws_toNode (dn FTA n_laws_toNode [.agg (((GNode.row false) a).map .t)]) := G_laws_toNode.1 a
theorem laws_toNodeS_ok (a : List GNode) : Ok (laws_toNodeS a) e_laws_toNodeS (dn FTA n_laws_toNodeS [.t (.sl false (a.map (GNode.row false)))]) := G_laws_toNode.2.1 a
theorem laws_toNodeS_l8_ok (a : List GNode) (out : List (GNode)) (i : Int) : Ok (laws_toNodeS_l8 a out i) e_laws_toNodeS (ev FTA c_laws_toNodeS (.loop k_laws_toNodeS_l8) [.lv 0, .th k_laws_toNodeS_r4] (putS (List.replicate 23 .dead) [(0, .t (.sl false (a.map (GNode.row false)))), (3, .ref (7, 0) out.length), (4, .t (.v (.int .i64 i)))]) (putR (List.replicate 23 []) [(7, [.mem (out.map (GNode.row true)) 0 false])])) := G_laws_toNode.2.2 a out i

def e_spec_SameNode (r : Bool) : Res := ⟨[.t (.v (.bool r))], []⟩
def c_spec_SameNode : Cx := ⟨2, [0, 0], [.tmp 4]⟩
theorem G_spec_SameNode : (∀ (a : GNode) (b : GNode), Ok (spec_SameNode a b) e_spec_SameNode (dn FTA n_spec_SameNode [.agg (((GNode.row false) a).map .t), .agg (((GNode.row false) b).map .t)])) ∧
    (∀ (i3 : Int) (a : GNode) (b : GNode), Ok (spec_SameNode_l14 i3 a b) e_spec_SameNode (ev FTA c_spec_SameNode (.loop k_spec_SameNode_l14) [.lv 0, .th k_spec_SameNode_r10] (putS (List.replicate 123 .dead) [(2, .ptr (2, 0) [] 0 0 1 0), (3, .ptr (3, 0) [] 0 0 1 0), (5, .t (.v (.int .i64 i3)))]) (putR (List.replicate 123 []) [(2, [.mem [[.v (.int .i64 a.Kind), .v (.string a.Pre), .v (.string a.Local), .v (.string a.Uri), .sl false (a.Decls.map GDecl.row), .sl false (a.Attrs.map GAttr.row), .sl false (a.Kids.map (GNode.row false)), .v (.string a.Text)]] 0 false]), (3, [.mem [[.v (.int .i64 b.Kind), .v (.string b.Pre), .v (.string b.Local), .v (.string b.Uri), .sl false (b.Decls.map GDecl.row), .sl false (b.Attrs.map GAttr.row), .sl false (b.Kids.map (GNode.row false)), .v (.string b.Text)]] 0 false])]))) ∧
    (∀ (i5 : Int) (a : GNode) (b : GNode), Ok (spec_SameNode_l35 i5 a b) e_spec_SameNode (ev FTA c_spec_SameNode (.loop k_spec_SameNode_l35) [.lv 2, .th k_spec_SameNode_r31] (putS (List.replicate 123 .dead) [(2, .ptr (2, 0) [] 0 0 1 0), (3, .ptr (3, 0) [] 0 0 1 0), (6, .t (.v (.int .i64 i5)))]) (putR (List.replicate 123 []) [(2, [.mem [[.v (.int .i64 a.Kind), .v (.string a.Pre), .v (.string a.Local), .v (.string a.Uri), .sl false (a.Decls.map GDecl.row), .sl false (a.Attrs.map GAttr.row), .sl false (a.Kids.map (GNode.row false)), .v (.string a.Text)]] 0 false]), (3, [.mem [[.v (.int .i64 b.Kind), .v (.string b.Pre), .v (.string b.Local), .v (.string b.Uri), .sl false (b.Decls.map GDecl.row), .sl false (b.Attrs.map GAttr.row), .sl false (b.Kids.map (GNode.row false)), .v (.string b.Text)]] 0 false])]))) ∧
    (∀ (i6 : Int) (a : GNode) (b : GNode), Ok (spec_SameNode_l56 i6 a b) e_spec_SameNode (ev FTA c_spec_SameNode (.loop k_spec_SameNode_l56) [.lv 4, .th k_spec_SameNode_r52] (putS (List.replicate 123 .dead) [(2, .ptr (2, 0) [] 0 0 1 0), (3, .ptr (3, 0) [] 0 0 1 0), (7, .t (.v (.int .i64 i6)))]) (putR (List.replicate 123 []) [(2, [.mem [[.v (.int .i64 a.Kind), .v (.string a.Pre), .v (.string a.Local), .v (.string a.Uri), .sl false (a.Decls.map GDecl.row), .sl false (a.Attrs.map GAttr.row), .sl false (a.Kids.map (GNode.row false)), .v (.string a.Text)]] 0 false]), (3, [.mem [[.v (.int .i64 b.Kind), .v (.string b.Pre), .v (.string b.Local), .v (.string b.Uri), .sl false (b.Decls.map GDecl.row), .sl false (b.Attrs.map GAttr.row), .sl false (b.Kids.map (GNode.row false)), .v (.string b.Text)]] 0 false])]))) := by
  unfold Ok
  refine spec_SameNode.mutual_partial_correctness _ _ _ _ ?_ ?_ ?_ ?_ 
  · intro F1 ih1 a b
    show Ok _ _ _
    have ih1 : ∀ (i3 : Int) (a : GNode) (b : GNode), Ok (F1 i3 a b) _ _ := ih1
    rw [den_ev FTA (fn := k_spec_SameNode) rfl (cloneX_none rfl _) (Nat.le_of_ble_eq_true rfl)]
    simp only [SSA, RS, c_spec_SameNode, k_spec_SameNode, Nat.reduceAdd, Nat.reduceSub, Nat.reduceMul, Nat.reduceLeDiff, Nat.reduceLT, Nat.reduceEqDiff, Nat.reduceBEq, ↓reduceIte, reduceCtorEq]
    repeat' first
      | with_reducible exact Ok_none
      | ((with_reducible refine Ok_ret ?_); first | rfl | (simp only [SSA, RS, e_spec_SameNode, Nat.reduceAdd, Nat.reduceSub, Nat.reduceMul, Nat.reduceLeDiff, Nat.reduceLT, Nat.reduceEqDiff, Nat.reduceBEq, ↓reduceIte, reduceCtorEq]; done))
      | ((with_reducible refine Ok_tail (ih1 _ _ _) ?_); first | rfl | (simp only [SSA, RS, c_spec_SameNode, Nat.reduceAdd, Nat.reduceSub, Nat.reduceMul, Nat.reduceLeDiff, Nat.reduceLT, Nat.reduceEqDiff, Nat.reduceBEq, ↓reduceIte, reduceCtorEq]; done) | (simp only [SSA, RS, c_spec_SameNode, Nat.reduceAdd, Nat.reduceSub, Nat.reduceMul, Nat.reduceLeDiff, Nat.reduceLT, Nat.reduceEqDiff, Nat.reduceBEq, ↓reduceIte, reduceCtorEq]; rfl))
      | ((first | with_reducible refine Ok_if (fun h => ?_) (fun h => ?_)) <;> simp only [SSA, RS, *, Nat.reduceAdd, Nat.reduceSub, Nat.reduceMul, Nat.reduceLeDiff, Nat.reduceLT, Nat.reduceEqDiff, Nat.reduceBEq, ↓reduceIte, reduceCtorEq])
  · intro F1 F2 ih1 ih2 i3 a b
    show Ok _ _ _
    have ih1 : ∀ (i3 : Int) (a : GNode) (b : GNode), Ok (F1 i3 a b) _ _ := ih1
    have ih2 : ∀ (i5 : Int) (a : GNode) (b : GNode), Ok (F2 i5 a b) _ _ := ih2
    rw [ev_loop]
    simp only [SSA, RS, c_spec_SameNode, k_spec_SameNode_l14, k_spec_SameNode_r10, Nat.reduceAdd, Nat.reduceSub, Nat.reduceMul, Nat.reduceLeDiff, Nat.reduceLT, Nat.reduceEqDiff, Nat.reduceBEq, ↓reduceIte, reduceCtorEq]
    repeat' first
      | with_reducible exact Ok_none
      | ((with_reducible refine Ok_ret ?_); first | rfl | (simp only [SSA, RS, e_spec_SameNode, Nat.reduceAdd, Nat.reduceSub, Nat.reduceMul, Nat.reduceLeDiff, Nat.reduceLT, Nat.reduceEqDiff, Nat.reduceBEq, ↓reduceIte, reduceCtorEq]; done))
      | ((with_reducible refine Ok_tail (ih1 _ _ _) ?_); first | rfl | (simp only [SSA, RS, c_spec_SameNode, Nat.reduceAdd, Nat.reduceSub, Nat.reduceMul, Nat.reduceLeDiff, Nat.reduceLT, Nat.reduceEqDiff, Nat.reduceBEq, ↓reduceIte, reduceCtorEq]; done) | (simp only [SSA, RS, c_spec_SameNode, Nat.reduceAdd, Nat.reduceSub, Nat.reduceMul, Nat.reduceLeDiff, Nat.reduceLT, Nat.reduceEqDiff, Nat.reduceBEq, ↓reduceIte, reduceCtorEq]; rfl))
      | ((with_reducible refine Ok_tail (ih2 _ _ _) ?_); first | rfl | (simp only [SSA, RS, c_spec_SameNode, Nat.reduceAdd, Nat.reduceSub, Nat.reduceMul, Nat.reduceLeDiff, Nat.reduceLT, Nat.reduceEqDiff, Nat.reduceBEq, ↓reduceIte, reduceCtorEq]; done) | (simp only [SSA, RS, c_spec_SameNode, Nat.reduceAdd, Nat.reduceSub, Nat.reduceMul, Nat.reduceLeDiff, Nat.reduceLT, Nat.reduceEqDiff, Nat.reduceBEq, ↓reduceIte, reduceCtorEq]; rfl))
      | ((first | with_reducible refine Ok_if (fun h => ?_) (fun h => ?_) | with_reducible refine Ok_get fun a h => ?_) <;> simp only [SSA, RS, *, k_spec_SameNode_r10, Nat.reduceAdd, Nat.reduceSub, Nat.reduceMul, Nat.reduceLeDiff, Nat.reduceLT, Nat.reduceEqDiff, Nat.reduceBEq, ↓reduceIte, reduceCtorEq])
  · intro F2 F3 ih2 ih3 i5 a b
    show Ok _ _ _
    have ih2 : ∀ (i5 : Int) (a : GNode) (b : GNode), Ok (F2 i5 a b) _ _ := ih2
    have ih3 : ∀ (i6 : Int) (a : GNode) (b : GNode), Ok (F3 i6 a b) _ _ := ih3
    rw [ev_loop]
    simp only [SSA, RS, c_spec_SameNode, k_spec_SameNode_l35, k_spec_SameNode_r31, Nat.reduceAdd, Nat.reduceSub, Nat.reduceMul, Nat.reduceLeDiff, Nat.reduceLT, Nat.reduceEqDiff, Nat.reduceBEq, ↓reduceIte, reduceCtorEq]
    repeat' first
      | with_reducible exact Ok_none
      | ((with_reducible refine Ok_ret ?_); first | rfl | (simp only [SSA, RS, e_spec_SameNode, Nat.reduceAdd, Nat.reduceSub, Nat.reduceMul, Nat.reduceLeDiff, Nat.reduceLT, Nat.reduceEqDiff, Nat.reduceBEq, ↓reduceIte, reduceCtorEq]; done))
      | ((with_reducible refine Ok_tail (ih2 _ _ _) ?_); first | rfl | (simp only [SSA, RS, c_spec_SameNode, Nat.reduceAdd, Nat.reduceSub, Nat.reduceMul, Nat.reduceLeDiff, Nat.reduceLT, Nat.reduceEqDiff, Nat.reduceBEq, ↓reduceIte, reduceCtorEq]; done) | (simp only [SSA, RS, c_spec_SameNode, Nat.reduceAdd, Nat.reduceSub, Nat.reduceMul, Nat.reduceLeDiff, Nat.reduceLT, Nat.reduceEqDiff, Nat.reduceBEq, ↓reduceIte, reduceCtorEq]; rfl))
      | ((with_reducible refine Ok_tail (ih3 _ _ _) ?_); first | rfl | (simp only [SSA, RS, c_spec_SameNode, Nat.reduceAdd, Nat.reduceSub, Nat.reduceMul, Nat.reduceLeDiff, Nat.reduceLT, Nat.reduceEqDiff, Nat.reduceBEq, ↓reduceIte, reduceCtorEq]; done) | (simp only [SSA, RS, c_spec_SameNode, Nat.reduceAdd, Nat.reduceSub, Nat.reduceMul, Nat.reduceLeDiff, Nat.reduceLT, Nat.reduceEqDiff, Nat.reduceBEq, ↓reduceIte, reduceCtorEq]; rfl))
      | ((first | with_reducible refine Ok_if (fun h => ?_) (fun h => ?_) | with_reducible refine Ok_get fun a h => ?_) <;> simp only [SSA, RS, *, k_spec_SameNode_r31, Nat.reduceAdd, Nat.reduceSub, Nat.reduceMul, Nat.reduceLeDiff, Nat.reduceLT, Nat.reduceEqDiff, Nat.reduceBEq, ↓reduceIte, reduceCtorEq])
  · intro F0 F3 ih0 ih3 i6 a b
    show Ok _ _ _
    have ih0 : ∀ (a : GNode) (b : GNode), Ok (F0 a b) _ _ := ih0
    have ih3 : ∀ (i6 : Int) (a : GNode) (b : GNode), Ok (F3 i6 a b) _ _ := ih3
    rw [ev_loop]
    have g0 := ih0; try simp only [SSA, RS, Nat.reduceAdd, Nat.reduceSub, Nat.reduceMul, Nat.reduceLeDiff, Nat.reduceLT, Nat.reduceEqDiff, Nat.reduceBEq, ↓reduceIte, reduceCtorEq] at g0
    simp only [SSA, RS, c_spec_SameNode, k_spec_SameNode_l56, k_spec_SameNode_r52, e_spec_SameNode, Nat.reduceAdd, Nat.reduceSub, Nat.reduceMul, Nat.reduceLeDiff, Nat.reduceLT, Nat.reduceEqDiff, Nat.reduceBEq, ↓reduceIte, reduceCtorEq]
    repeat' first
      | with_reducible exact Ok_none
      | ((with_reducible refine Ok_ret ?_); first | rfl | (simp only [SSA, RS, e_spec_SameNode, Nat.reduceAdd, Nat.reduceSub, Nat.reduceMul, Nat.reduceLeDiff, Nat.reduceLT, Nat.reduceEqDiff, Nat.reduceBEq, ↓reduceIte, reduceCtorEq]; done))
      | ((with_reducible refine Ok_tail (ih3 _ _ _) ?_); first | rfl | (simp only [SSA, RS, c_spec_SameNode, Nat.reduceAdd, Nat.reduceSub, Nat.reduceMul, Nat.reduceLeDiff, Nat.reduceLT, Nat.reduceEqDiff, Nat.reduceBEq, ↓reduceIte, reduceCtorEq]; done) | (simp only [SSA, RS, c_spec_SameNode, Nat.reduceAdd, Nat.reduceSub, Nat.reduceMul, Nat.reduceLeDiff, Nat.reduceLT, Nat.reduceEqDiff, Nat.reduceBEq, ↓reduceIte, reduceCtorEq]; rfl))
      | ((first | with_reducible refine Ok_if (fun h => ?_) (fun h => ?_) | with_reducible refine Ok_get fun a h => ?_ | with_reducible refine Ok_call (g0 _ _) fun v => ?_ | refine Ok_call (g0 _ _) fun v => ?_) <;> simp only [SSA, RS, *, k_spec_SameNode_r52, e_spec_SameNode, Nat.reduceAdd, Nat.reduceSub, Nat.reduceMul, Nat.reduceLeDiff, Nat.reduceLT, Nat.reduceEqDiff, Nat.reduceBEq, ↓reduceIte, reduceCtorEq])
theorem spec_SameNode_ok (a : GNode) (b : GNode) : Ok (spec_SameNode a b) e_spec_SameNode (dn FTA n_spec_SameNode [.agg (((GNode.row false) a).map .t), .agg (((GNode.row false) b).map .t)]) := G_spec_SameNode.1 a b
theorem spec_SameNode_l14_ok (i3 : Int) (a : GNode) (b : GNode) : Ok (spec_SameNode_l14 i3 a b) e_spec_SameNode (ev FTA c_spec_SameNode (.loop k_spec_SameNode_l14) [.lv 0, .th k_spec_SameNode_r10] (putS (List.replicate 123 .dead) [(2, .ptr (2, 0) [] 0 0 1 0), (3, .ptr (3, 0) [] 0 0 1 0), (5, .t (.v (.int .i64 i3)))]) (putR (List.replicate 123 []) [(2, [.mem [[.v (.int .i64 a.Kind), .v (.string a.Pre), .v (.string a.Local), .v (.string a.Uri), .sl false (a.Decls.map GDecl.row), .sl false (a.Attrs.map GAttr.row), .sl false (a.Kids.map (GNode.row false)), .v (.string a.Text)]] 0 false]), (3, [.mem [[.v (.int .i64 b.Kind), .v (.string b.Pre), .v (.string b.Local), .v (.string b.Uri), .sl false (b.Decls.map GDecl.row), .sl false (b.Attrs.map GAttr.row), .sl false (b.Kids.map (GNode.row false)), .v (.string b.Text)]] 0 false])])) := G_spec_SameNode.2.1 i3 a b
theorem spec_SameNode_l35_ok (i5 : Int) (a : GNode) (b : GNode) : Ok (spec_SameNode_l35 i5 a b) e_spec_SameNode (ev FTA c_spec_SameNode (.loop k_spec_SameNode_l35) [.lv 2, .th k_spec_SameNode_r31] (putS (List.replicate 123 .dead) [(2, .ptr (2, 0) [] 0 0 1 0), (3, .ptr (3, 0) [] 0 0 1 0), (6, .t (.v (.int .i64 i5)))]) (putR (List.replicate 123 []) [(2, [.mem [[.v (.int .i64 a.Kind), .v (.string a.Pre), .v (.string a.Local), .v (.string a.Uri), .sl false (a.Decls.map GDecl.row), .sl false (a.Attrs.map GAttr.row), .sl false (a.Kids.map (GNode.row false)), .v (.string a.Text)]] 0 false]), (3, [.mem [[.v (.int .i64 b.Kind), .v (.string b.Pre), .v (.string b.Local), .v (.string b.Uri), .sl false (b.Decls.map GDecl.row), .sl false (b.Attrs.map GAttr.row), .sl false (b.Kids.map (GNode.row false)), .v (.string b.Text)]] 0 false])])) := G_spec_SameNode.2.2.1 i5 a b
theorem spec_SameNode_l56_ok (i6 : Int) (a : GNode) (b : GNode) : Ok (spec_SameNode_l56 i6 a b) e_spec_SameNode (ev FTA c_spec_SameNode (.loop k_spec_SameNode_l56) [.lv 4, .th k_spec_SameNode_r52] (putS (List.replicate 123 .dead) [(2, .ptr (2, 0) [] 0 0 1 0), (3, .ptr (3, 0) [] 0 0 1 0), (7, .t (.v (.int .i64 i6)))]) (putR (List.replicate 123 []) [(2, [.mem [[.v (.int .i64 a.Kind), .v (.string a.Pre), .v (.string a.Local), .v (.string a.Uri), .sl false (a.Decls.map GDecl.row), .sl false (a.Attrs.map GAttr.row), .sl false (a.Kids.map (GNode.row false)), .v (.string a.Text)]] 0 false]), (3, [.mem [[.v (.int .i64 b.Kind), .v (.string b.Pre), .v (.string b.Local), .v (.string b.Uri), .sl false (b.Decls.map GDecl.row), .sl false (b.Attrs.map GAttr.row), .sl false (b.Kids.map (GNode.row false)), .v (.string b.Text)]] 0 false])])) := G_spec_SameNode.2.2.2 i6 a b

def e_spec_l17Table (r : List (List Int)) : Res := ⟨[.t (.sl true (r.map (rL true rI)))], []⟩
def c_spec_l17Table : Cx := ⟨2, [0, 0], [.tmp 4]⟩
theorem G_spec_l17Table_j63 (a : List GNode) (b : List GNode) : (∀ (t6 : List (List Int)) (i2 : Int) (k5 : Int) (n7 : Int), Ok (spec_l17Table_j63 a b t6 i2 k5 n7) e_spec_l17Table (ev FTA c_spec_l17Table k_spec_l17Table_r63 [.lv 7, .th k_spec_l17Table_r59, .hk [.clean []], .th (.loop k_spec_l17Table_l52), .lv 6, .lv 5, .th k_spec_l17Table_r47, .hk [.clean []], .th (.loop k_spec_l17Table_l40), .lv 4, .th k_spec_l17Table_r36] (putS (List.replicate 100 .dead) [(0, .t (.sl false (a.map (GNode.row false)))), (1, .t (.sl false (b.map (GNode.row false)))), (5, .ref (12, 0) t6.length), (9, .t (.v (.int .i64 i2))), (10, .t (.v (.int .i64 k5))), (11, .t (.v (.int .i64 n7)))]) (putR (List.replicate 100 []) [(12, [.mem (t6.map (rL true rI)) 0 false])]))) ∧
    (∀ (t6 : List (List Int)) (i2 : Int) (k5 : Int), Ok (spec_l17Table_l52 a b t6 i2 k5) e_spec_l17Table (ev FTA c_spec_l17Table (.loop k_spec_l17Table_l52) [.lv 6, .lv 5, .th k_spec_l17Table_r47, .hk [.clean []], .th (.loop k_spec_l17Table_l40), .lv 4, .th k_spec_l17Table_r36] (putS (List.replicate 100 .dead) [(0, .t (.sl false (a.map (GNode.row false)))), (1, .t (.sl false (b.map (GNode.row false)))), (5, .ref (12, 0) t6.length), (9, .t (.v (.int .i64 i2))), (10, .t (.v (.int .i64 k5)))]) (putR (List.replicate 100 []) [(12, [.mem (t6.map (rL true rI)) 0 false])]))) ∧
    (∀ (t5 : List (List Int)) (i2 : Int), Ok (spec_l17Table_l40 a b t5 i2) e_spec_l17Table (ev FTA c_spec_l17Table (.loop k_spec_l17Table_l40) [.lv 4, .th k_spec_l17Table_r36] (putS (List.replicate 100 .dead) [(0, .t (.sl false (a.map (GNode.row false)))), (1, .t (.sl false (b.map (GNode.row false)))), (5, .ref (12, 0) t5.length), (9, .t (.v (.int .i64 i2)))]) (putR (List.replicate 100 []) [(12, [.mem (t5.map (rL true rI)) 0 false])]))) := by
  unfold Ok
  refine spec_l17Table_j63.mutual_partial_correctness a b _ _ _ ?_ ?_ ?_ 
  · intro F1 ih1 t6 i2 k5 n7
    show Ok _ _ _
    have ih1 : ∀ (t6 : List (List Int)) (i2 : Int) (k5 : Int), Ok (F1 t6 i2 k5) _ _ := ih1
    have g0 := spec_SameNode_ok; try simp only [SSA, RS, Nat.reduceAdd, Nat.reduceSub, Nat.reduceMul, Nat.reduceLeDiff, Nat.reduceLT, Nat.reduceEqDiff, Nat.reduceBEq, ↓reduceIte, reduceCtorEq] at g0
    simp only [SSA, RS, c_spec_l17Table, k_spec_l17Table_r63, k_spec_l17Table_r59, e_spec_SameNode, Nat.reduceAdd, Nat.reduceSub, Nat.reduceMul, Nat.reduceLeDiff, Nat.reduceLT, Nat.reduceEqDiff, Nat.reduceBEq, ↓reduceIte, reduceCtorEq]
    repeat' first
      | with_reducible exact Ok_none
      | ((with_reducible refine Ok_ret ?_); first | rfl | (simp only [SSA, RS, e_spec_l17Table, Nat.reduceAdd, Nat.reduceSub, Nat.reduceMul, Nat.reduceLeDiff, Nat.reduceLT, Nat.reduceEqDiff, Nat.reduceBEq, ↓reduceIte, reduceCtorEq]; done))
      | ((with_reducible refine Ok_tail (ih1 _ _ _) ?_); first | rfl | (simp only [SSA, RS, c_spec_l17Table, Nat.reduceAdd, Nat.reduceSub, Nat.reduceMul, Nat.reduceLeDiff, Nat.reduceLT, Nat.reduceEqDiff, Nat.reduceBEq, ↓reduceIte, reduceCtorEq]; done) | (simp only [SSA, RS, c_spec_l17Table, Nat.reduceAdd, Nat.reduceSub, Nat.reduceMul, Nat.reduceLeDiff, Nat.reduceLT, Nat.reduceEqDiff, Nat.reduceBEq, ↓reduceIte, reduceCtorEq]; rfl))
      | ((first | with_reducible refine Ok_if (fun h => ?_) (fun h => ?_) | with_reducible refine Ok_get fun a h => ?_ | with_reducible refine Ok_call (g0 _ _) fun v => ?_ | refine Ok_call (g0 _ _) fun v => ?_) <;> simp only [SSA, RS, *, k_spec_l17Table_r59, e_spec_SameNode, Nat.reduceAdd, Nat.reduceSub, Nat.reduceMul, Nat.reduceLeDiff, Nat.reduceLT, Nat.reduceEqDiff, Nat.reduceBEq, ↓reduceIte, reduceCtorEq])
  · intro F0 F2 ih0 ih2 t6 i2 k5
    show Ok _ _ _
    have ih0 : ∀ (t6 : List (List Int)) (i2 : Int) (k5 : Int) (n7 : Int), Ok (F0 t6 i2 k5 n7) _ _ := ih0
    have ih2 : ∀ (t5 : List (List Int)) (i2 : Int), Ok (F2 t5 i2) _ _ := ih2
    rw [ev_loop]
    simp only [SSA, RS, c_spec_l17Table, k_spec_l17Table_l52, k_spec_l17Table_r47, Nat.reduceAdd, Nat.reduceSub, Nat.reduceMul, Nat.reduceLeDiff, Nat.reduceLT, Nat.reduceEqDiff, Nat.reduceBEq, ↓reduceIte, reduceCtorEq]
    repeat' first
      | with_reducible exact Ok_none
      | ((with_reducible refine Ok_ret ?_); first | rfl | (simp only [SSA, RS, e_spec_l17Table, Nat.reduceAdd, Nat.reduceSub, Nat.reduceMul, Nat.reduceLeDiff, Nat.reduceLT, Nat.reduceEqDiff, Nat.reduceBEq, ↓reduceIte, reduceCtorEq]; done))
      | ((with_reducible refine Ok_tail (ih0 _ _ _ _) ?_); first | rfl | (simp only [SSA, RS, c_spec_l17Table, Nat.reduceAdd, Nat.reduceSub, Nat.reduceMul, Nat.reduceLeDiff, Nat.reduceLT, Nat.reduceEqDiff, Nat.reduceBEq, ↓reduceIte, reduceCtorEq]; done) | (simp only [SSA, RS, c_spec_l17Table, Nat.reduceAdd, Nat.reduceSub, Nat.reduceMul, Nat.reduceLeDiff, Nat.reduceLT, Nat.reduceEqDiff, Nat.reduceBEq, ↓reduceIte, reduceCtorEq]; rfl))
      | ((with_reducible refine Ok_tail (ih2 _ _) ?_); first | rfl | (simp only [SSA, RS, c_spec_l17Table, Nat.reduceAdd, Nat.reduceSub, Nat.reduceMul, Nat.reduceLeDiff, Nat.reduceLT, Nat.reduceEqDiff, Nat.reduceBEq, ↓reduceIte, reduceCtorEq]; done) | (simp only [SSA, RS, c_spec_l17Table, Nat.reduceAdd, Nat.reduceSub, Nat.reduceMul, Nat.reduceLeDiff, Nat.reduceLT, Nat.reduceEqDiff, Nat.reduceBEq, ↓reduceIte, reduceCtorEq]; rfl))
      | ((first | with_reducible refine Ok_if (fun h => ?_) (fun h => ?_) | with_reducible refine Ok_get fun a h => ?_) <;> simp only [SSA, RS, *, k_spec_l17Table_r47, Nat.reduceAdd, Nat.reduceSub, Nat.reduceMul, Nat.reduceLeDiff, Nat.reduceLT, Nat.reduceEqDiff, Nat.reduceBEq, ↓reduceIte, reduceCtorEq])
  · intro F1 ih1 t5 i2
    show Ok _ _ _
    have ih1 : ∀ (t6 : List (List Int)) (i2 : Int) (k5 : Int), Ok (F1 t6 i2 k5) _ _ := ih1
    rw [ev_loop]
    simp only [SSA, RS, c_spec_l17Table, k_spec_l17Table_l40, k_spec_l17Table_r36, Nat.reduceAdd, Nat.reduceSub, Nat.reduceMul, Nat.reduceLeDiff, Nat.reduceLT, Nat.reduceEqDiff, Nat.reduceBEq, ↓reduceIte, reduceCtorEq]
    repeat' first
      | with_reducible exact Ok_none
      | ((with_reducible refine Ok_ret ?_); first | rfl | (simp only [SSA, RS, e_spec_l17Table, Nat.reduceAdd, Nat.reduceSub, Nat.reduceMul, Nat.reduceLeDiff, Nat.reduceLT, Nat.reduceEqDiff, Nat.reduceBEq, ↓reduceIte, reduceCtorEq]; done))
      | ((with_reducible refine Ok_tail (ih1 _ _ _) ?_); first | rfl | (simp only [SSA, RS, c_spec_l17Table, Nat.reduceAdd, Nat.reduceSub, Nat.reduceMul, Nat.reduceLeDiff, Nat.reduceLT, Nat.reduceEqDiff, Nat.reduceBEq, ↓reduceIte, reduceCtorEq]; done) | (simp only [SSA, RS, c_spec_l17Table, Nat.reduceAdd, Nat.reduceSub, Nat.reduceMul, Nat.reduceLeDiff, Nat.reduceLT, Nat.reduceEqDiff, Nat.reduceBEq, ↓reduceIte, reduceCtorEq]; rfl))
      | ((first | with_reducible refine Ok_if (fun h => ?_) (fun h => ?_)) <;> simp only [SSA, RS, *, k_spec_l17Table_r36, Nat.reduceAdd, Nat.reduceSub, Nat.reduceMul, Nat.reduceLeDiff, Nat.reduceLT, Nat.reduceEqDiff, Nat.reduceBEq, ↓reduceIte, reduceCtorEq])
theorem spec_l17Table_j63_ok (a : List GNode) (b : List GNode) (t6 : List (List Int)) (i2 : Int) (k5 : Int) (n7 : Int) : Ok (spec_l17Table_j63 a b t6 i2 k5 n7) e_spec_l17Table (ev FTA c_spec_l17Table k_spec_l17Table_r63 [.lv 7, .th k_spec_l17Table_r59, .hk [.clean []], .th (.loop k_spec_l17Table_l52), .lv 6, .lv 5, .th k_spec_l17Table_r47, .hk [.clean []], .th (.loop k_spec_l17Table_l40), .lv 4, .th k_spec_l17Table_r36] (putS (List.replicate 100 .dead) [(0, .t (.sl false (a.map (GNode.row false)))), (1, .t (.sl false (b.map (GNode.row false)))), (5, .ref (12, 0) t6.length), (9, .t (.v (.int .i64 i2))), (10, .t (.v (.int .i64 k5))), (11, .t (.v (.int .i64 n7)))]) (putR (List.replicate 100 []) [(12, [.mem (t6.map (rL true rI)) 0 false])])) := (G_spec_l17Table_j63 a b).1 t6 i2 k5 n7
theorem spec_l17Table_l52_ok (a : List GNode) (b : List GNode) (t6 : List (List Int)) (i2 : Int) (k5 : Int) : Ok (spec_l17Table_l52 a b t6 i2 k5) e_spec_l17Table (ev FTA c_spec_l17Table (.loop k_spec_l17Table_l52) [.lv 6, .lv 5, .th k_spec_l17Table_r47, .hk [.clean []], .th (.loop k_spec_l17Table_l40), .lv 4, .th k_spec_l17Table_r36] (putS (List.replicate 100 .dead) [(0, .t (.sl false (a.map (GNode.row false)))), (1, .t (.sl false (b.map (GNode.row false)))), (5, .ref (12, 0) t6.length), (9, .t (.v (.int .i64 i2))), (10, .t (.v (.int .i64 k5)))]) (putR (List.replicate 100 []) [(12, [.mem (t6.map (rL true rI)) 0 false])])) := (G_spec_l17Table_j63 a b).2.1 t6 i2 k5
theorem spec_l17Table_l40_ok (a : List GNode) (b : List GNode) (t5 : List (List Int)) (i2 : Int) : Ok (spec_l17Table_l40 a b t5 i2) e_spec_l17Table (ev FTA c_spec_l17Table (.loop k_spec_l17Table_l40) [.lv 4, .th k_spec_l17Table_r36] (putS (List.replicate 100 .dead) [(0, .t (.sl false (a.map (GNode.row false)))), (1, .t (.sl false (b.map (GNode.row false)))), (5, .ref (12, 0) t5.length), (9, .t (.v (.int .i64 i2)))]) (putR (List.replicate 100 []) [(12, [.mem (t5.map (rL true rI)) 0 false])])) := (G_spec_l17Table_j63 a b).2.2 t5 i2

theorem G_spec_l17Table_l23 (a : List GNode) (b : List GNode) : (∀ (t3 : List (List Int)) (i1 : Int) (row1 : List (Int)) (k3 : Int), Ok (spec_l17Table_l23 a b t3 i1 row1 k3) e_spec_l17Table (ev FTA c_spec_l17Table (.loop k_spec_l17Table_l23) [.lv 2, .th k_spec_l17Table_r19, .lv 1, .th k_spec_l17Table_r15, .hk [.clean [19, 31]], .th (.loop k_spec_l17Table_l8), .lv 0, .th k_spec_l17Table_r4] (putS (List.replicate 100 .dead) [(0, .t (.sl false (a.map (GNode.row false)))), (1, .t (.sl false (b.map (GNode.row false)))), (5, .ref (12, 0) t3.length), (6, .t (.v (.int .i64 i1))), (7, .ref (19, 0) row1.length), (8, .t (.v (.int .i64 k3)))]) (putR (List.replicate 100 []) [(12, [.mem (t3.map (rL true rI)) 0 false]), (19, [.mem (row1.map rI) 0 false])]))) ∧
    (∀ (t3 : List (List Int)) (i1 : Int), Ok (spec_l17Table_l8 a b t3 i1) e_spec_l17Table (ev FTA c_spec_l17Table (.loop k_spec_l17Table_l8) [.lv 0, .th k_spec_l17Table_r4] (putS (List.replicate 100 .dead) [(0, .t (.sl false (a.map (GNode.row false)))), (1, .t (.sl false (b.map (GNode.row false)))), (5, .ref (12, 0) t3.length), (6, .t (.v (.int .i64 i1)))]) (putR (List.replicate 100 []) [(12, [.mem (t3.map (rL true rI)) 0 false])]))) := by
  unfold Ok
  refine spec_l17Table_l23.mutual_partial_correctness a b _ _ ?_ ?_ 
  · intro F0 F1 ih0 ih1 t3 i1 row1 k3
    show Ok _ _ _
    have ih0 : ∀ (t3 : List (List Int)) (i1 : Int) (row1 : List (Int)) (k3 : Int), Ok (F0 t3 i1 row1 k3) _ _ := ih0
    have ih1 : ∀ (t3 : List (List Int)) (i1 : Int), Ok (F1 t3 i1) _ _ := ih1
    rw [ev_loop]
    simp only [SSA, RS, c_spec_l17Table, k_spec_l17Table_l23, k_spec_l17Table_r15, k_spec_l17Table_r19, Nat.reduceAdd, Nat.reduceSub, Nat.reduceMul, Nat.reduceLeDiff, Nat.reduceLT, Nat.reduceEqDiff, Nat.reduceBEq, ↓reduceIte, reduceCtorEq]
    repeat' first
      | with_reducible exact Ok_none
      | ((with_reducible refine Ok_ret ?_); first | rfl | (simp only [SSA, RS, e_spec_l17Table, Nat.reduceAdd, Nat.reduceSub, Nat.reduceMul, Nat.reduceLeDiff, Nat.reduceLT, Nat.reduceEqDiff, Nat.reduceBEq, ↓reduceIte, reduceCtorEq]; done))
      | ((with_reducible refine Ok_tail (ih0 _ _ _ _) ?_); first | rfl | (simp only [SSA, RS, c_spec_l17Table, Nat.reduceAdd, Nat.reduceSub, Nat.reduceMul, Nat.reduceLeDiff, Nat.reduceLT, Nat.reduceEqDiff, Nat.reduceBEq, ↓reduceIte, reduceCtorEq]; done) | (simp only [SSA, RS, c_spec_l17Table, Nat.reduceAdd, Nat.reduceSub, Nat.reduceMul, Nat.reduceLeDiff, Nat.reduceLT, Nat.reduceEqDiff, Nat.reduceBEq, ↓reduceIte, reduceCtorEq]; rfl))
      | ((with_reducible refine Ok_tail (ih1 _ _) ?_); first | rfl | (simp only [SSA, RS, c_spec_l17Table, Nat.reduceAdd, Nat.reduceSub, Nat.reduceMul, Nat.reduceLeDiff, Nat.reduceLT, Nat.reduceEqDiff, Nat.reduceBEq, ↓reduceIte, reduceCtorEq]; done) | (simp only [SSA, RS, c_spec_l17Table, Nat.reduceAdd, Nat.reduceSub, Nat.reduceMul, Nat.reduceLeDiff, Nat.reduceLT, Nat.reduceEqDiff, Nat.reduceBEq, ↓reduceIte, reduceCtorEq]; rfl))
      | ((first | with_reducible refine Ok_if (fun h => ?_) (fun h => ?_) | with_reducible refine Ok_prim (p := room _ _) fun a h => ?_) <;> simp only [SSA, RS, *, k_spec_l17Table_r15, k_spec_l17Table_r19, Nat.reduceAdd, Nat.reduceSub, Nat.reduceMul, Nat.reduceLeDiff, Nat.reduceLT, Nat.reduceEqDiff, Nat.reduceBEq, ↓reduceIte, reduceCtorEq])
  · intro F0 ih0 t3 i1
    show Ok _ _ _
    have ih0 : ∀ (t3 : List (List Int)) (i1 : Int) (row1 : List (Int)) (k3 : Int), Ok (F0 t3 i1 row1 k3) _ _ := ih0
    rw [ev_loop]
    simp only [SSA, RS, c_spec_l17Table, k_spec_l17Table_l8, k_spec_l17Table_r4, Nat.reduceAdd, Nat.reduceSub, Nat.reduceMul, Nat.reduceLeDiff, Nat.reduceLT, Nat.reduceEqDiff, Nat.reduceBEq, ↓reduceIte, reduceCtorEq]
    repeat' first
      | with_reducible exact Ok_none
      | ((with_reducible refine Ok_ret ?_); first | rfl | (simp only [SSA, RS, e_spec_l17Table, Nat.reduceAdd, Nat.reduceSub, Nat.reduceMul, Nat.reduceLeDiff, Nat.reduceLT, Nat.reduceEqDiff, Nat.reduceBEq, ↓reduceIte, reduceCtorEq]; done))
      | ((with_reducible refine Ok_tail (ih0 _ _ _ _) ?_); first | rfl | (simp only [SSA, RS, c_spec_l17Table, Nat.reduceAdd, Nat.reduceSub, Nat.reduceMul, Nat.reduceLeDiff, Nat.reduceLT, Nat.reduceEqDiff, Nat.reduceBEq, ↓reduceIte, reduceCtorEq]; done) | (simp only [SSA, RS, c_spec_l17Table, Nat.reduceAdd, Nat.reduceSub, Nat.reduceMul, Nat.reduceLeDiff, Nat.reduceLT, Nat.reduceEqDiff, Nat.reduceBEq, ↓reduceIte, reduceCtorEq]; rfl))
      | ((with_reducible refine Ok_tail (spec_l17Table_l40_ok _ _ _ _) ?_); first | rfl | (simp only [SSA, RS, c_spec_l17Table, Nat.reduceAdd, Nat.reduceSub, Nat.reduceMul, Nat.reduceLeDiff, Nat.reduceLT, Nat.reduceEqDiff, Nat.reduceBEq, ↓reduceIte, reduceCtorEq]; done) | (simp only [SSA, RS, c_spec_l17Table, Nat.reduceAdd, Nat.reduceSub, Nat.reduceMul, Nat.reduceLeDiff, Nat.reduceLT, Nat.reduceEqDiff, Nat.reduceBEq, ↓reduceIte, reduceCtorEq]; rfl))
      | ((first | with_reducible refine Ok_if (fun h => ?_) (fun h => ?_)) <;> simp only [SSA, RS, *, k_spec_l17Table_r4, Nat.reduceAdd, Nat.reduceSub, Nat.reduceMul, Nat.reduceLeDiff, Nat.reduceLT, Nat.reduceEqDiff, Nat.reduceBEq, ↓reduceIte, reduceCtorEq])
theorem spec_l17Table_l23_ok (a : List GNode) (b : List GNode) (t3 : List (List Int)) (i1 : Int) (row1 : List (Int)) (k3 : Int) : Ok (spec_l17Table_l23 a b t3 i1 row1 k3) e_spec_l17Table (ev FTA c_spec_l17Table (.loop k_spec_l17Table_l23) [.lv 2, .th k_spec_l17Table_r19, .lv 1, .th k_spec_l17Table_r15, .hk [.clean [19, 31]], .th (.loop k_spec_l17Table_l8), .lv 0, .th k_spec_l17Table_r4] (putS (List.replicate 100 .dead) [(0, .t (.sl false (a.map (GNode.row false)))), (1, .t (.sl false (b.map (GNode.row false)))), (5, .ref (12, 0) t3.length), (6, .t (.v (.int .i64 i1))), (7, .ref (19, 0) row1.length), (8, .t (.v (.int .i64 k3)))]) (putR (List.replicate 100 []) [(12, [.mem (t3.map (rL true rI)) 0 false]), (19, [.mem (row1.map rI) 0 false])])) := (G_spec_l17Table_l23 a b).1 t3 i1 row1 k3
theorem spec_l17Table_l8_ok (a : List GNode) (b : List GNode) (t3 : List (List Int)) (i1 : Int) : Ok (spec_l17Table_l8 a b t3 i1) e_spec_l17Table (ev FTA c_spec_l17Table (.loop k_spec_l17Table_l8) [.lv 0, .th k_spec_l17Table_r4] (putS (List.replicate 100 .dead) [(0, .t (.sl false (a.map (GNode.row false)))), (1, .t (.sl false (b.map (GNode.row false)))), (5, .ref (12, 0) t3.length), (6, .t (.v (.int .i64 i1)))]) (putR (List.replicate 100 []) [(12, [.mem (t3.map (rL true rI)) 0 false])])) := (G_spec_l17Table_l23 a b).2 t3 i1

theorem spec_l17Table_ok : ∀ (a : List GNode) (b : List GNode), Ok (spec_l17Table a b) e_spec_l17Table (dn FTA n_spec_l17Table [.t (.sl false (a.map (GNode.row false))), .t (.sl false (b.map (GNode.row false)))]) := by
  intro a b
  rw [den_ev FTA (fn := k_spec_l17Table) rfl (cloneX_none rfl _) (Nat.le_of_ble_eq_true rfl)]
  simp only [SSA, RS, c_spec_l17Table, k_spec_l17Table, spec_l17Table, Nat.reduceAdd, Nat.reduceSub, Nat.reduceMul, Nat.reduceLeDiff, Nat.reduceLT, Nat.reduceEqDiff, Nat.reduceBEq, ↓reduceIte, reduceCtorEq]
  repeat' first
    | with_reducible exact Ok_none
    | ((with_reducible refine Ok_ret ?_); first | rfl | (simp only [SSA, RS, e_spec_l17Table, Nat.reduceAdd, Nat.reduceSub, Nat.reduceMul, Nat.reduceLeDiff, Nat.reduceLT, Nat.reduceEqDiff, Nat.reduceBEq, ↓reduceIte, reduceCtorEq]; done))
    | ((with_reducible refine Ok_tail (spec_l17Table_l8_ok _ _ _ _) ?_); first | rfl | (simp only [SSA, RS, c_spec_l17Table, Nat.reduceAdd, Nat.reduceSub, Nat.reduceMul, Nat.reduceLeDiff, Nat.reduceLT, Nat.reduceEqDiff, Nat.reduceBEq, ↓reduceIte, reduceCtorEq]; done) | (simp only [SSA, RS, c_spec_l17Table, Nat.reduceAdd, Nat.reduceSub, Nat.reduceMul, Nat.reduceLeDiff, Nat.reduceLT, Nat.reduceEqDiff, Nat.reduceBEq, ↓reduceIte, reduceCtorEq]; rfl))

def e_spec_Align (r : List Int) : Res := ⟨[.t (.sl true (r.map rI))], []⟩
def c_spec_Align : Cx := ⟨2, [0, 0], [.tmp 4]⟩
theorem spec_Align_l12_ok' (a : List GNode) (b : List GNode) (r : List (List Int)) : ∀ (out : List (Int)) (k : Int) (i : Int), Ok (spec_Align_l12 a b r out k i) e_spec_Align (ev FTA c_spec_Align (.loop k_spec_Align_l12) [.lv 0, .th k_spec_Align_r8] (putS (List.replicate 70 .dead) [(0, .t (.sl false (a.map (GNode.row false)))), (1, .t (.sl false (b.map (GNode.row false)))), (5, .ref (11, 0) r.length), (6, .ref (12, 0) out.length), (7, .t (.v (.int .i64 k))), (8, .t (.v (.int .i64 i)))]) (putR (List.replicate 70 []) [(11, [.mem (r.map (rL true rI)) 0 false]), (12, [.mem (out.map rI) 0 false])])) := by
  unfold Ok
  refine spec_Align_l12.partial_correctness a b r _ ?_
  intro F ih out k i
  show Ok _ _ _
  have ih : ∀ (out : List (Int)) (k : Int) (i : Int), Ok (F out k i) _ _ := ih
  rw [ev_loop]
  have g0 := spec_SameNode_ok; try simp only [SSA, RS, Nat.reduceAdd, Nat.reduceSub, Nat.reduceMul, Nat.reduceLeDiff, Nat.reduceLT, Nat.reduceEqDiff, Nat.reduceBEq, ↓reduceIte, reduceCtorEq] at g0
  simp only [SSA, RS, c_spec_Align, k_spec_Align_l12, k_spec_Align_r8, e_spec_SameNode, Nat.reduceAdd, Nat.reduceSub, Nat.reduceMul, Nat.reduceLeDiff, Nat.reduceLT, Nat.reduceEqDiff, Nat.reduceBEq, ↓reduceIte, reduceCtorEq]
  repeat' first
    | with_reducible exact Ok_none
    | ((with_reducible refine Ok_ret ?_); first | rfl | (simp only [SSA, RS, e_spec_Align, Nat.reduceAdd, Nat.reduceSub, Nat.reduceMul, Nat.reduceLeDiff, Nat.reduceLT, Nat.reduceEqDiff, Nat.reduceBEq, ↓reduceIte, reduceCtorEq]; done))
    | ((with_reducible refine Ok_tail (ih _ _ _) ?_); first | rfl | (simp only [SSA, RS, c_spec_Align, Nat.reduceAdd, Nat.reduceSub, Nat.reduceMul, Nat.reduceLeDiff, Nat.reduceLT, Nat.reduceEqDiff, Nat.reduceBEq, ↓reduceIte, reduceCtorEq]; done) | (simp only [SSA, RS, c_spec_Align, Nat.reduceAdd, Nat.reduceSub, Nat.reduceMul, Nat.reduceLeDiff, Nat.reduceLT, Nat.reduceEqDiff, Nat.reduceBEq, ↓reduceIte, reduceCtorEq]; rfl))
    | ((first | with_reducible refine Ok_if (fun h => ?_) (fun h => ?_) | with_reducible refine Ok_get fun a h => ?_ | with_reducible refine Ok_call (g0 _ _) fun v => ?_ | with_reducible refine Ok_prim (p := room _ _) fun a h => ?_ | refine Ok_call (g0 _ _) fun v => ?_) <;> simp only [SSA, RS, *, k_spec_Align_r8, e_spec_SameNode, Nat.reduceAdd, Nat.reduceSub, Nat.reduceMul, Nat.reduceLeDiff, Nat.reduceLT, Nat.reduceEqDiff, Nat.reduceBEq, ↓reduceIte, reduceCtorEq])
theorem spec_Align_l12_ok (a : List GNode) (b : List GNode) (r : List (List Int)) (out : List (Int)) (k : Int) (i : Int) : Ok (spec_Align_l12 a b r out k i) e_spec_Align (ev FTA c_spec_Align (.loop k_spec_Align_l12) [.lv 0, .th k_spec_Align_r8] (putS (List.replicate 70 .dead) [(0, .t (.sl false (a.map (GNode.row false)))), (1, .t (.sl false (b.map (GNode.row false)))), (5, .ref (11, 0) r.length), (6, .ref (12, 0) out.length), (7, .t (.v (.int .i64 k))), (8, .t (.v (.int .i64 i)))]) (putR (List.replicate 70 []) [(11, [.mem (r.map (rL true rI)) 0 false]), (12, [.mem (out.map rI) 0 false])])) := spec_Align_l12_ok' a b r out k i

theorem spec_Align_ok : ∀ (a : List GNode) (b : List GNode), Ok (spec_Align a b) e_spec_Align (dn FTA n_spec_Align [.t (.sl false (a.map (GNode.row false))), .t (.sl false (b.map (GNode.row false)))]) := by
  intro a b
  rw [den_ev FTA (fn := k_spec_Align) rfl (cloneX_none rfl _) (Nat.le_of_ble_eq_true rfl)]
  have g0 := spec_l17Table_ok; try simp only [SSA, RS, Nat.reduceAdd, Nat.reduceSub, Nat.reduceMul, Nat.reduceLeDiff, Nat.reduceLT, Nat.reduceEqDiff, Nat.reduceBEq, ↓reduceIte, reduceCtorEq] at g0
  simp only [SSA, RS, c_spec_Align, k_spec_Align, spec_Align, e_spec_l17Table, Nat.reduceAdd, Nat.reduceSub, Nat.reduceMul, Nat.reduceLeDiff, Nat.reduceLT, Nat.reduceEqDiff, Nat.reduceBEq, ↓reduceIte, reduceCtorEq]
  repeat' first
    | with_reducible exact Ok_none
    | ((with_reducible refine Ok_ret ?_); first | rfl | (simp only [SSA, RS, e_spec_Align, Nat.reduceAdd, Nat.reduceSub, Nat.reduceMul, Nat.reduceLeDiff, Nat.reduceLT, Nat.reduceEqDiff, Nat.reduceBEq, ↓reduceIte, reduceCtorEq]; done))
    | ((with_reducible refine Ok_tail (spec_Align_l12_ok _ _ _ _ _ _) ?_); first | rfl | (simp only [SSA, RS, c_spec_Align, Nat.reduceAdd, Nat.reduceSub, Nat.reduceMul, Nat.reduceLeDiff, Nat.reduceLT, Nat.reduceEqDiff, Nat.reduceBEq, ↓reduceIte, reduceCtorEq]; done) | (simp only [SSA, RS, c_spec_Align, Nat.reduceAdd, Nat.reduceSub, Nat.reduceMul, Nat.reduceLeDiff, Nat.reduceLT, Nat.reduceEqDiff, Nat.reduceBEq, ↓reduceIte, reduceCtorEq]; rfl))
    | ((first | with_reducible refine Ok_call (g0 _ _) fun v => ?_ | refine Ok_call (g0 _ _) fun v => ?_) <;> simp only [SSA, RS, *, e_spec_l17Table, Nat.reduceAdd, Nat.reduceSub, Nat.reduceMul, Nat.reduceLeDiff, Nat.reduceLT, Nat.reduceEqDiff, Nat.reduceBEq, ↓reduceIte, reduceCtorEq])

def e_slices_Equal_Decl (r : Bool) : Res := ⟨[.t (.v (.bool r))], []⟩
def c_slices_Equal_Decl : Cx := ⟨2, [0, 0], [.tmp 4]⟩
theorem slices_Equal_Decl_l14_ok' (s1 : List GDecl) (s2 : List GDecl) : ∀ (x2 : Int), Ok (slices_Equal_Decl_l14 s1 s2 x2) e_slices_Equal_Decl (ev FTA c_slices_Equal_Decl (.loop k_slices_Equal_Decl_l14) [.lv 0, .th k_slices_Equal_Decl_r10] (putS (List.replicate 26 .dead) [(0, .t (.sl false (s1.map GDecl.row))), (1, .t (.sl false (s2.map GDecl.row))), (12, .t (.v (.int .i64 (lenL s1)))), (13, .t (.v (.int .i64 x2)))]) (putR (List.replicate 26 []) [])) := by
  unfold Ok
  refine slices_Equal_Decl_l14.partial_correctness s1 s2 _ ?_
  intro F ih x2
  show Ok _ _ _
  have ih : ∀ (x2 : Int), Ok (F x2) _ _ := ih
  rw [ev_loop]
  simp only [SSA, RS, c_slices_Equal_Decl, k_slices_Equal_Decl_l14, k_slices_Equal_Decl_r10, Nat.reduceAdd, Nat.reduceSub, Nat.reduceMul, Nat.reduceLeDiff, Nat.reduceLT, Nat.reduceEqDiff, Nat.reduceBEq, ↓reduceIte, reduceCtorEq]
  repeat' first
    | with_reducible exact Ok_none
    | ((with_reducible refine Ok_ret ?_); first | rfl | (simp only [SSA, RS, e_slices_Equal_Decl, Nat.reduceAdd, Nat.reduceSub, Nat.reduceMul, Nat.reduceLeDiff, Nat.reduceLT, Nat.reduceEqDiff, Nat.reduceBEq, ↓reduceIte, reduceCtorEq]; done))
    | ((with_reducible refine Ok_tail (ih _) ?_); first | rfl | (simp only [SSA, RS, c_slices_Equal_Decl, Nat.reduceAdd, Nat.reduceSub, Nat.reduceMul, Nat.reduceLeDiff, Nat.reduceLT, Nat.reduceEqDiff, Nat.reduceBEq, ↓reduceIte, reduceCtorEq]; done) | (simp only [SSA, RS, c_slices_Equal_Decl, Nat.reduceAdd, Nat.reduceSub, Nat.reduceMul, Nat.reduceLeDiff, Nat.reduceLT, Nat.reduceEqDiff, Nat.reduceBEq, ↓reduceIte, reduceCtorEq]; rfl))
    | ((first | with_reducible refine Ok_if (fun h => ?_) (fun h => ?_) | with_reducible refine Ok_get fun a h => ?_) <;> simp only [SSA, RS, *, k_slices_Equal_Decl_r10, Nat.reduceAdd, Nat.reduceSub, Nat.reduceMul, Nat.reduceLeDiff, Nat.reduceLT, Nat.reduceEqDiff, Nat.reduceBEq, ↓reduceIte, reduceCtorEq])
theorem slices_Equal_Decl_l14_ok (s1 : List GDecl) (s2 : List GDecl) (x2 : Int) : Ok (slices_Equal_Decl_l14 s1 s2 x2) e_slices_Equal_Decl (ev FTA c_slices_Equal_Decl (.loop k_slices_Equal_Decl_l14) [.lv 0, .th k_slices_Equal_Decl_r10] (putS (List.replicate 26 .dead) [(0, .t (.sl false (s1.map GDecl.row))), (1, .t (.sl false (s2.map GDecl.row))), (12, .t (.v (.int .i64 (lenL s1)))), (13, .t (.v (.int .i64 x2)))]) (putR (List.replicate 26 []) [])) := slices_Equal_Decl_l14_ok' s1 s2 x2

theorem slices_Equal_Decl_ok : ∀ (s1 : List GDecl) (s2 : List GDecl), Ok (slices_Equal_Decl s1 s2) e_slices_Equal_Decl (dn FTA n_slices_Equal_Decl [.t (.sl false (s1.map GDecl.row)), .t (.sl false (s2.map GDecl.row))]) := by
  intro s1 s2
  rw [den_ev FTA (fn := k_slices_Equal_Decl) rfl (cloneX_none rfl _) (Nat.le_of_ble_eq_true rfl)]
  simp only [SSA, RS, c_slices_Equal_Decl, k_slices_Equal_Decl, slices_Equal_Decl, Nat.reduceAdd, Nat.reduceSub, Nat.reduceMul, Nat.reduceLeDiff, Nat.reduceLT, Nat.reduceEqDiff, Nat.reduceBEq, ↓reduceIte, reduceCtorEq]
  repeat' first
    | with_reducible exact Ok_none
    | ((with_reducible refine Ok_ret ?_); first | rfl | (simp only [SSA, RS, e_slices_Equal_Decl, Nat.reduceAdd, Nat.reduceSub, Nat.reduceMul, Nat.reduceLeDiff, Nat.reduceLT, Nat.reduceEqDiff, Nat.reduceBEq, ↓reduceIte, reduceCtorEq]; done))
    | ((with_reducible refine Ok_tail (slices_Equal_Decl_l14_ok _ _ _) ?_); first | rfl | (simp only [SSA, RS, c_slices_Equal_Decl, Nat.reduceAdd, Nat.reduceSub, Nat.reduceMul, Nat.reduceLeDiff, Nat.reduceLT, Nat.reduceEqDiff, Nat.reduceBEq, ↓reduceIte, reduceCtorEq]; done) | (simp only [SSA, RS, c_slices_Equal_Decl, Nat.reduceAdd, Nat.reduceSub, Nat.reduceMul, Nat.reduceLeDiff, Nat.reduceLT, Nat.reduceEqDiff, Nat.reduceBEq, ↓reduceIte, reduceCtorEq]; rfl))
    | ((first | with_reducible refine Ok_if (fun h => ?_) (fun h => ?_)) <;> simp only [SSA, RS, *, Nat.reduceAdd, Nat.reduceSub, Nat.reduceMul, Nat.reduceLeDiff, Nat.reduceLT, Nat.reduceEqDiff, Nat.reduceBEq, ↓reduceIte, reduceCtorEq])

def e_slices_Equal_Attr (r : Bool) : Res := ⟨[.t (.v (.bool r))], []⟩
def c_slices_Equal_Attr : Cx := ⟨2, [0, 0], [.tmp 4]⟩
theorem slices_Equal_Attr_l14_ok' (s1 : List GAttr) (s2 : List GAttr) : ∀ (x2 : Int), Ok (slices_Equal_Attr_l14 s1 s2 x2) e_slices_Equal_Attr (ev FTA c_slices_Equal_Attr (.loop k_slices_Equal_Attr_l14) [.lv 0, .th k_slices_Equal_Attr_r10] (putS (List.replicate 26 .dead) [(0, .t (.sl false (s1.map GAttr.row))), (1, .t (.sl false (s2.map GAttr.row))), (12, .t (.v (.int .i64 (lenL s1)))), (13, .t (.v (.int .i64 x2)))]) (putR (List.replicate 26 []) [])) := by
  unfold Ok
  refine slices_Equal_Attr_l14.partial_correctness s1 s2 _ ?_
  intro F ih x2
  show Ok _ _ _
  have ih : ∀ (x2 : Int), Ok (F x2) _ _ := ih
  rw [ev_loop]
  simp only [SSA, RS, c_slices_Equal_Attr, k_slices_Equal_Attr_l14, k_slices_Equal_Attr_r10, Nat.reduceAdd, Nat.reduceSub, Nat.reduceMul, Nat.reduceLeDiff, Nat.reduceLT, Nat.reduceEqDiff, Nat.reduceBEq, ↓reduceIte, reduceCtorEq]
  repeat' first
    | with_reducible exact Ok_none
    | ((with_reducible refine Ok_ret ?_); first | rfl | (simp only [SSA, RS, e_slices_Equal_Attr, Nat.reduceAdd, Nat.reduceSub, Nat.reduceMul, Nat.reduceLeDiff, Nat.reduceLT, Nat.reduceEqDiff, Nat.reduceBEq, ↓reduceIte, reduceCtorEq]; done))
    | ((with_reducible refine Ok_tail (ih _) ?_); first | rfl | (simp only [SSA, RS, c_slices_Equal_Attr, Nat.reduceAdd, Nat.reduceSub, Nat.reduceMul, Nat.reduceLeDiff, Nat.reduceLT, Nat.reduceEqDiff, Nat.reduceBEq, ↓reduceIte, reduceCtorEq]; done) | (simp only [SSA, RS, c_slices_Equal_Attr, Nat.reduceAdd, Nat.reduceSub, Nat.reduceMul, Nat.reduceLeDiff, Nat.reduceLT, Nat.reduceEqDiff, Nat.reduceBEq, ↓reduceIte, reduceCtorEq]; rfl))
    | ((first | with_reducible refine Ok_if (fun h => ?_) (fun h => ?_) | with_reducible refine Ok_get fun a h => ?_) <;> simp only [SSA, RS, *, k_slices_Equal_Attr_r10, Nat.reduceAdd, Nat.reduceSub, Nat.reduceMul, Nat.reduceLeDiff, Nat.reduceLT, Nat.reduceEqDiff, Nat.reduceBEq, ↓reduceIte, reduceCtorEq])
theorem slices_Equal_Attr_l14_ok (s1 : List GAttr) (s2 : List GAttr) (x2 : Int) : Ok (slices_Equal_Attr_l14 s1 s2 x2) e_slices_Equal_Attr (ev FTA c_slices_Equal_Attr (.loop k_slices_Equal_Attr_l14) [.lv 0, .th k_slices_Equal_Attr_r10] (putS (List.replicate 26 .dead) [(0, .t (.sl false (s1.map GAttr.row))), (1, .t (.sl false (s2.map GAttr.row))), (12, .t (.v (.int .i64 (lenL s1)))), (13, .t (.v (.int .i64 x2)))]) (putR (List.replicate 26 []) [])) := slices_Equal_Attr_l14_ok' s1 s2 x2

theorem slices_Equal_Attr_ok : ∀ (s1 : List GAttr) (s2 : List GAttr), Ok (slices_Equal_Attr s1 s2) e_slices_Equal_Attr (dn FTA n_slices_Equal_Attr [.t (.sl false (s1.map GAttr.row)), .t (.sl false (s2.map GAttr.row))]) := by
  intro s1 s2
  rw [den_ev FTA (fn := k_slices_Equal_Attr) rfl (cloneX_none rfl _) (Nat.le_of_ble_eq_true rfl)]
  simp only [SSA, RS, c_slices_Equal_Attr, k_slices_Equal_Attr, slices_Equal_Attr, Nat.reduceAdd, Nat.reduceSub, Nat.reduceMul, Nat.reduceLeDiff, Nat.reduceLT, Nat.reduceEqDiff, Nat.reduceBEq, ↓reduceIte, reduceCtorEq]
  repeat' first
    | with_reducible exact Ok_none
    | ((with_reducible refine Ok_ret ?_); first | rfl | (simp only [SSA, RS, e_slices_Equal_Attr, Nat.reduceAdd, Nat.reduceSub, Nat.reduceMul, Nat.reduceLeDiff, Nat.reduceLT, Nat.reduceEqDiff, Nat.reduceBEq, ↓reduceIte, reduceCtorEq]; done))
    | ((with_reducible refine Ok_tail (slices_Equal_Attr_l14_ok _ _ _) ?_); first | rfl | (simp only [SSA, RS, c_slices_Equal_Attr, Nat.reduceAdd, Nat.reduceSub, Nat.reduceMul, Nat.reduceLeDiff, Nat.reduceLT, Nat.reduceEqDiff, Nat.reduceBEq, ↓reduceIte, reduceCtorEq]; done) | (simp only [SSA, RS, c_slices_Equal_Attr, Nat.reduceAdd, Nat.reduceSub, Nat.reduceMul, Nat.reduceLeDiff, Nat.reduceLT, Nat.reduceEqDiff, Nat.reduceBEq, ↓reduceIte, reduceCtorEq]; rfl))
    | ((first | with_reducible refine Ok_if (fun h => ?_) (fun h => ?_)) <;> simp only [SSA, RS, *, Nat.reduceAdd, Nat.reduceSub, Nat.reduceMul, Nat.reduceLeDiff, Nat.reduceLT, Nat.reduceEqDiff, Nat.reduceBEq, ↓reduceIte, reduceCtorEq])

def e_impl_sameAlone (r : Bool) : Res := ⟨[.t (.v (.bool r))], []⟩
def c_impl_sameAlone : Cx := ⟨2, [0, 0], [.tmp 4]⟩
theorem impl_sameAlone_ok : ∀ (a : GNode) (b : GNode), Ok (impl_sameAlone a b) e_impl_sameAlone (dn FTA n_impl_sameAlone [.agg (((GNode.row false) a).map .t), .agg (((GNode.row false) b).map .t)]) := by
  intro a b
  rw [den_ev FTA (fn := k_impl_sameAlone) rfl (cloneX_none rfl _) (Nat.le_of_ble_eq_true rfl)]
  have g0 := slices_Equal_Decl_ok; try simp only [SSA, RS, Nat.reduceAdd, Nat.reduceSub, Nat.reduceMul, Nat.reduceLeDiff, Nat.reduceLT, Nat.reduceEqDiff, Nat.reduceBEq, ↓reduceIte, reduceCtorEq] at g0
  have g1 := slices_Equal_Attr_ok; try simp only [SSA, RS, Nat.reduceAdd, Nat.reduceSub, Nat.reduceMul, Nat.reduceLeDiff, Nat.reduceLT, Nat.reduceEqDiff, Nat.reduceBEq, ↓reduceIte, reduceCtorEq] at g1
  simp only [SSA, RS, c_impl_sameAlone, k_impl_sameAlone, impl_sameAlone, e_slices_Equal_Attr, e_slices_Equal_Decl, Nat.reduceAdd, Nat.reduceSub, Nat.reduceMul, Nat.reduceLeDiff, Nat.reduceLT, Nat.reduceEqDiff, Nat.reduceBEq, ↓reduceIte, reduceCtorEq]
  repeat' first
    | with_reducible exact Ok_none
    | ((with_reducible refine Ok_ret ?_); first | rfl | (simp only [SSA, RS, e_impl_sameAlone, Nat.reduceAdd, Nat.reduceSub, Nat.reduceMul, Nat.reduceLeDiff, Nat.reduceLT, Nat.reduceEqDiff, Nat.reduceBEq, ↓reduceIte, reduceCtorEq]; done))
    | ((first | with_reducible refine Ok_if (fun h => ?_) (fun h => ?_) | with_reducible refine Ok_call (g0 _ _) fun v => ?_ | with_reducible refine Ok_call (g1 _ _) fun v => ?_ | refine Ok_call (g0 _ _) fun v => ?_ | refine Ok_call (g1 _ _) fun v => ?_) <;> simp only [SSA, RS, *, e_slices_Equal_Attr, e_slices_Equal_Decl, Nat.reduceAdd, Nat.reduceSub, Nat.reduceMul, Nat.reduceLeDiff, Nat.reduceLT, Nat.reduceEqDiff, Nat.reduceBEq, ↓reduceIte, reduceCtorEq])

def e_impl_SameNode (r : Bool) : Res := ⟨[.t (.v (.bool r))], []⟩
def c_impl_SameNode : Cx := ⟨2, [0, 0], [.tmp 4]⟩
def e_slices_EqualFunc_Node_SameNode (r : Bool) : Res := ⟨[.t (.v (.bool r))], []⟩
def c_slices_EqualFunc_Node_SameNode : Cx := ⟨3, [0, 0, 0], [.tmp 6]⟩
theorem G_impl_SameNode : (∀ (a : GNode) (b : GNode), Ok (impl_SameNode a b) e_impl_SameNode (dn FTA n_impl_SameNode [.agg (((GNode.row false) a).map .t), .agg (((GNode.row false) b).map .t)])) ∧
    (∀ (s1 : List GNode) (s2 : List GNode), Ok (slices_EqualFunc_Node_SameNode s1 s2) e_slices_EqualFunc_Node_SameNode (dn FTA n_slices_EqualFunc_Node [.t (.sl false (s1.map (GNode.row false))), .t (.sl false (s2.map (GNode.row false))), .fn n_impl_SameNode []])) ∧
    (∀ (s2 : List GNode) (s1 : List GNode) (x2 : Int), Ok (slices_EqualFunc_Node_SameNode_l14 s2 s1 x2) e_slices_EqualFunc_Node_SameNode (ev FTA c_slices_EqualFunc_Node_SameNode (.loop k_slices_EqualFunc_Node_l14) [.lv 0, .th k_slices_EqualFunc_Node_r10] (putS (List.replicate 32 .dead) [(1, .t (.sl false (s2.map (GNode.row false)))), (2, .fn n_impl_SameNode []), (15, .t (.sl false (s1.map (GNode.row false)))), (16, .t (.v (.int .i64 (lenL s1)))), (17, .t (.v (.int .i64 x2)))]) (putR (List.replicate 32 []) []))) := by
  unfold Ok
  refine impl_SameNode.mutual_partial_correctness _ _ _ ?_ ?_ ?_ 
  · intro F1 ih1 a b
    show Ok _ _ _
    have ih1 : ∀ (s1 : List GNode) (s2 : List GNode), Ok (F1 s1 s2) _ _ := ih1
    rw [den_ev FTA (fn := k_impl_SameNode) rfl (cloneX_none rfl _) (Nat.le_of_ble_eq_true rfl)]
    have g0 := impl_sameAlone_ok; try simp only [SSA, RS, Nat.reduceAdd, Nat.reduceSub, Nat.reduceMul, Nat.reduceLeDiff, Nat.reduceLT, Nat.reduceEqDiff, Nat.reduceBEq, ↓reduceIte, reduceCtorEq] at g0
    have g1 := ih1; try simp only [SSA, RS, Nat.reduceAdd, Nat.reduceSub, Nat.reduceMul, Nat.reduceLeDiff, Nat.reduceLT, Nat.reduceEqDiff, Nat.reduceBEq, ↓reduceIte, reduceCtorEq] at g1
    simp only [SSA, RS, c_impl_SameNode, k_impl_SameNode, e_impl_sameAlone, e_slices_EqualFunc_Node_SameNode, Nat.reduceAdd, Nat.reduceSub, Nat.reduceMul, Nat.reduceLeDiff, Nat.reduceLT, Nat.reduceEqDiff, Nat.reduceBEq, ↓reduceIte, reduceCtorEq]
    repeat' first
      | with_reducible exact Ok_none
      | ((with_reducible refine Ok_ret ?_); first | rfl | (simp only [SSA, RS, e_impl_SameNode, Nat.reduceAdd, Nat.reduceSub, Nat.reduceMul, Nat.reduceLeDiff, Nat.reduceLT, Nat.reduceEqDiff, Nat.reduceBEq, ↓reduceIte, reduceCtorEq]; done))
      | ((first | with_reducible refine Ok_if (fun h => ?_) (fun h => ?_) | with_reducible refine Ok_call (g0 _ _) fun v => ?_ | with_reducible refine Ok_call (g1 _ _) fun v => ?_ | refine Ok_call (g0 _ _) fun v => ?_ | refine Ok_call (g1 _ _) fun v => ?_) <;> simp only [SSA, RS, *, e_impl_sameAlone, e_slices_EqualFunc_Node_SameNode, Nat.reduceAdd, Nat.reduceSub, Nat.reduceMul, Nat.reduceLeDiff, Nat.reduceLT, Nat.reduceEqDiff, Nat.reduceBEq, ↓reduceIte, reduceCtorEq])
  · intro F2 ih2 s1 s2
    show Ok _ _ _
    have ih2 : ∀ (s2 : List GNode) (s1 : List GNode) (x2 : Int), Ok (F2 s2 s1 x2) _ _ := ih2
    rw [den_ev FTA (fn := k_slices_EqualFunc_Node) rfl (cloneX_none rfl _) (Nat.le_of_ble_eq_true rfl)]
    simp only [SSA, RS, c_slices_EqualFunc_Node_SameNode, k_slices_EqualFunc_Node, Nat.reduceAdd, Nat.reduceSub, Nat.reduceMul, Nat.reduceLeDiff, Nat.reduceLT, Nat.reduceEqDiff, Nat.reduceBEq, ↓reduceIte, reduceCtorEq]
    repeat' first
      | with_reducible exact Ok_none
      | ((with_reducible refine Ok_ret ?_); first | rfl | (simp only [SSA, RS, e_slices_EqualFunc_Node_SameNode, Nat.reduceAdd, Nat.reduceSub, Nat.reduceMul, Nat.reduceLeDiff, Nat.reduceLT, Nat.reduceEqDiff, Nat.reduceBEq, ↓reduceIte, reduceCtorEq]; done))
      | ((with_reducible refine Ok_tail (ih2 _ _ _) ?_); first | rfl | (simp only [SSA, RS, c_slices_EqualFunc_Node_SameNode, Nat.reduceAdd, Nat.reduceSub, Nat.reduceMul, Nat.reduceLeDiff, Nat.reduceLT, Nat.reduceEqDiff, Nat.reduceBEq, ↓reduceIte, reduceCtorEq]; done) | (simp only [SSA, RS, c_slices_EqualFunc_Node_SameNode, Nat.reduceAdd, Nat.reduceSub, Nat.reduceMul, Nat.reduceLeDiff, Nat.reduceLT, Nat.reduceEqDiff, Nat.reduceBEq, ↓reduceIte, reduceCtorEq]; rfl))
      | ((first | with_reducible refine Ok_if (fun h => ?_) (fun h => ?_)) <;> simp only [SSA, RS, *, Nat.reduceAdd, Nat.reduceSub, Nat.reduceMul, Nat.reduceLeDiff, Nat.reduceLT, Nat.reduceEqDiff, Nat.reduceBEq, ↓reduceIte, reduceCtorEq])
  · intro F0 F2 ih0 ih2 s2 s1 x2
    show Ok _ _ _
    have ih0 : ∀ (a : GNode) (b : GNode), Ok (F0 a b) _ _ := ih0
    have ih2 : ∀ (s2 : List GNode) (s1 : List GNode) (x2 : Int), Ok (F2 s2 s1 x2) _ _ := ih2
    rw [ev_loop]
    have g0 := ih0; try simp only [SSA, RS, Nat.reduceAdd, Nat.reduceSub, Nat.reduceMul, Nat.reduceLeDiff, Nat.reduceLT, Nat.reduceEqDiff, Nat.reduceBEq, ↓reduceIte, reduceCtorEq] at g0
    simp only [SSA, RS, c_slices_EqualFunc_Node_SameNode, k_slices_EqualFunc_Node_l14, k_slices_EqualFunc_Node_r10, e_impl_SameNode, Nat.reduceAdd, Nat.reduceSub, Nat.reduceMul, Nat.reduceLeDiff, Nat.reduceLT, Nat.reduceEqDiff, Nat.reduceBEq, ↓reduceIte, reduceCtorEq]
    repeat' first
      | with_reducible exact Ok_none
      | ((with_reducible refine Ok_ret ?_); first | rfl | (simp only [SSA, RS, e_slices_EqualFunc_Node_SameNode, Nat.reduceAdd, Nat.reduceSub, Nat.reduceMul, Nat.reduceLeDiff, Nat.reduceLT, Nat.reduceEqDiff, Nat.reduceBEq, ↓reduceIte, reduceCtorEq]; done))
      | ((with_reducible refine Ok_tail (ih2 _ _ _) ?_); first | rfl | (simp only [SSA, RS, c_slices_EqualFunc_Node_SameNode, Nat.reduceAdd, Nat.reduceSub, Nat.reduceMul, Nat.reduceLeDiff, Nat.reduceLT, Nat.reduceEqDiff, Nat.reduceBEq, ↓reduceIte, reduceCtorEq]; done) | (simp only [SSA, RS, c_slices_EqualFunc_Node_SameNode, Nat.reduceAdd, Nat.reduceSub, Nat.reduceMul, Nat.reduceLeDiff, Nat.reduceLT, Nat.reduceEqDiff, Nat.reduceBEq, ↓reduceIte, reduceCtorEq]; rfl))
      | ((first | with_reducible refine Ok_if (fun h => ?_) (fun h => ?_) | with_reducible refine Ok_get fun a h => ?_ | with_reducible refine Ok_call (g0 _ _) fun v => ?_ | refine Ok_call (g0 _ _) fun v => ?_) <;> simp only [SSA, RS, *, k_slices_EqualFunc_Node_r10, e_impl_SameNode, Nat.reduceAdd, Nat.reduceSub, Nat.reduceMul, Nat.reduceLeDiff, Nat.reduceLT, Nat.reduceEqDiff, Nat.reduceBEq, ↓reduceIte, reduceCtorEq])
theorem impl_SameNode_ok (a : GNode) (b : GNode) : Ok (impl_SameNode a b) e_impl_SameNode (dn FTA n_impl_SameNode [.agg (((GNode.row false) a).map .t), .agg (((GNode.row false) b).map .t)]) := G_impl_SameNode.1 a b
theorem slices_EqualFunc_Node_SameNode_ok (s1 : List GNode) (s2 : List GNode) : Ok (slices_EqualFunc_Node_SameNode s1 s2) e_slices_EqualFunc_Node_SameNode (dn FTA n_slices_EqualFunc_Node [.t (.sl false (s1.map (GNode.row false))), .t (.sl false (s2.map (GNode.row false))), .fn n_impl_SameNode []]) := G_impl_SameNode.2.1 s1 s2
theorem slices_EqualFunc_Node_SameNode_l14_ok (s2 : List GNode) (s1 : List GNode) (x2 : Int) : Ok (slices_EqualFunc_Node_SameNode_l14 s2 s1 x2) e_slices_EqualFunc_Node_SameNode (ev FTA c_slices_EqualFunc_Node_SameNode (.loop k_slices_EqualFunc_Node_l14) [.lv 0, .th k_slices_EqualFunc_Node_r10] (putS (List.replicate 32 .dead) [(1, .t (.sl false (s2.map (GNode.row false)))), (2, .fn n_impl_SameNode []), (15, .t (.sl false (s1.map (GNode.row false)))), (16, .t (.v (.int .i64 (lenL s1)))), (17, .t (.v (.int .i64 x2)))]) (putR (List.replicate 32 []) [])) := G_impl_SameNode.2.2 s2 s1 x2

def e_impl_longest (r : List (List Int)) : Res := ⟨[.t (.sl true (r.map (rL true rI)))], []⟩
def c_impl_longest : Cx := ⟨2, [0, 0], [.tmp 4]⟩
theorem G_impl_longest_l37 (a : List GNode) (b : List GNode) : (∀ (out6 : List (List Int)) (i1 : Int) (k3 : Int), Ok (impl_longest_l37 a b out6 i1 k3) e_impl_longest (ev FTA c_impl_longest (.loop k_impl_longest_l37) [.lv 4, .lv 3, .th k_impl_longest_r32, .hk [.clean []], .th (.loop k_impl_longest_l25), .lv 2, .th k_impl_longest_r21] (putS (List.replicate 97 .dead) [(0, .t (.sl false (a.map (GNode.row false)))), (1, .t (.sl false (b.map (GNode.row false)))), (5, .ref (12, 0) out6.length), (7, .t (.v (.int .i64 i1))), (8, .t (.v (.int .i64 k3)))]) (putR (List.replicate 97 []) [(12, [.mem (out6.map (rL true rI)) 0 false])]))) ∧
    (∀ (out5 : List (List Int)) (i1 : Int), Ok (impl_longest_l25 a b out5 i1) e_impl_longest (ev FTA c_impl_longest (.loop k_impl_longest_l25) [.lv 2, .th k_impl_longest_r21] (putS (List.replicate 97 .dead) [(0, .t (.sl false (a.map (GNode.row false)))), (1, .t (.sl false (b.map (GNode.row false)))), (5, .ref (12, 0) out5.length), (7, .t (.v (.int .i64 i1)))]) (putR (List.replicate 97 []) [(12, [.mem (out5.map (rL true rI)) 0 false])]))) := by
  unfold Ok
  refine impl_longest_l37.mutual_partial_correctness a b _ _ ?_ ?_ 
  · intro F0 F1 ih0 ih1 out6 i1 k3
    show Ok _ _ _
    have ih0 : ∀ (out6 : List (List Int)) (i1 : Int) (k3 : Int), Ok (F0 out6 i1 k3) _ _ := ih0
    have ih1 : ∀ (out5 : List (List Int)) (i1 : Int), Ok (F1 out5 i1) _ _ := ih1
    rw [ev_loop]
    have g0 := impl_SameNode_ok; try simp only [SSA, RS, Nat.reduceAdd, Nat.reduceSub, Nat.reduceMul, Nat.reduceLeDiff, Nat.reduceLT, Nat.reduceEqDiff, Nat.reduceBEq, ↓reduceIte, reduceCtorEq] at g0
    simp only [SSA, RS, c_impl_longest, k_impl_longest_l37, k_impl_longest_r32, e_impl_SameNode, Nat.reduceAdd, Nat.reduceSub, Nat.reduceMul, Nat.reduceLeDiff, Nat.reduceLT, Nat.reduceEqDiff, Nat.reduceBEq, ↓reduceIte, reduceCtorEq]
    repeat' first
      | with_reducible exact Ok_none
      | ((with_reducible refine Ok_ret ?_); first | rfl | (simp only [SSA, RS, e_impl_longest, Nat.reduceAdd, Nat.reduceSub, Nat.reduceMul, Nat.reduceLeDiff, Nat.reduceLT, Nat.reduceEqDiff, Nat.reduceBEq, ↓reduceIte, reduceCtorEq]; done))
      | ((with_reducible refine Ok_tail (ih0 _ _ _) ?_); first | rfl | (simp only [SSA, RS, c_impl_longest, Nat.reduceAdd, Nat.reduceSub, Nat.reduceMul, Nat.reduceLeDiff, Nat.reduceLT, Nat.reduceEqDiff, Nat.reduceBEq, ↓reduceIte, reduceCtorEq]; done) | (simp only [SSA, RS, c_impl_longest, Nat.reduceAdd, Nat.reduceSub, Nat.reduceMul, Nat.reduceLeDiff, Nat.reduceLT, Nat.reduceEqDiff, Nat.reduceBEq, ↓reduceIte, reduceCtorEq]; rfl))
      | ((with_reducible refine Ok_tail (ih1 _ _) ?_); first | rfl | (simp only [SSA, RS, c_impl_longest, Nat.reduceAdd, Nat.reduceSub, Nat.reduceMul, Nat.reduceLeDiff, Nat.reduceLT, Nat.reduceEqDiff, Nat.reduceBEq, ↓reduceIte, reduceCtorEq]; done) | (simp only [SSA, RS, c_impl_longest, Nat.reduceAdd, Nat.reduceSub, Nat.reduceMul, Nat.reduceLeDiff, Nat.reduceLT, Nat.reduceEqDiff, Nat.reduceBEq, ↓reduceIte, reduceCtorEq]; rfl))
      | ((first | with_reducible refine Ok_if (fun h => ?_) (fun h => ?_) | with_reducible refine Ok_get fun a h => ?_ | with_reducible refine Ok_call (g0 _ _) fun v => ?_ | refine Ok_call (g0 _ _) fun v => ?_) <;> simp only [SSA, RS, *, k_impl_longest_r32, e_impl_SameNode, Nat.reduceAdd, Nat.reduceSub, Nat.reduceMul, Nat.reduceLeDiff, Nat.reduceLT, Nat.reduceEqDiff, Nat.reduceBEq, ↓reduceIte, reduceCtorEq])
  · intro F0 ih0 out5 i1
    show Ok _ _ _
    have ih0 : ∀ (out6 : List (List Int)) (i1 : Int) (k3 : Int), Ok (F0 out6 i1 k3) _ _ := ih0
    rw [ev_loop]
    simp only [SSA, RS, c_impl_longest, k_impl_longest_l25, k_impl_longest_r21, Nat.reduceAdd, Nat.reduceSub, Nat.reduceMul, Nat.reduceLeDiff, Nat.reduceLT, Nat.reduceEqDiff, Nat.reduceBEq, ↓reduceIte, reduceCtorEq]
    repeat' first
      | with_reducible exact Ok_none
      | ((with_reducible refine Ok_ret ?_); first | rfl | (simp only [SSA, RS, e_impl_longest, Nat.reduceAdd, Nat.reduceSub, Nat.reduceMul, Nat.reduceLeDiff, Nat.reduceLT, Nat.reduceEqDiff, Nat.reduceBEq, ↓reduceIte, reduceCtorEq]; done))
      | ((with_reducible refine Ok_tail (ih0 _ _ _) ?_); first | rfl | (simp only [SSA, RS, c_impl_longest, Nat.reduceAdd, Nat.reduceSub, Nat.reduceMul, Nat.reduceLeDiff, Nat.reduceLT, Nat.reduceEqDiff, Nat.reduceBEq, ↓reduceIte, reduceCtorEq]; done) | (simp only [SSA, RS, c_impl_longest, Nat.reduceAdd, Nat.reduceSub, Nat.reduceMul, Nat.reduceLeDiff, Nat.reduceLT, Nat.reduceEqDiff, Nat.reduceBEq, ↓reduceIte, reduceCtorEq]; rfl))
      | ((first | with_reducible refine Ok_if (fun h => ?_) (fun h => ?_)) <;> simp only [SSA, RS, *, k_impl_longest_r21, Nat.reduceAdd, Nat.reduceSub, Nat.reduceMul, Nat.reduceLeDiff, Nat.reduceLT, Nat.reduceEqDiff, Nat.reduceBEq, ↓reduceIte, reduceCtorEq])
theorem impl_longest_l37_ok (a : List GNode) (b : List GNode) (out6 : List (List Int)) (i1 : Int) (k3 : Int) : Ok (impl_longest_l37 a b out6 i1 k3) e_impl_longest (ev FTA c_impl_longest (.loop k_impl_longest_l37) [.lv 4, .lv 3, .th k_impl_longest_r32, .hk [.clean []], .th (.loop k_impl_longest_l25), .lv 2, .th k_impl_longest_r21] (putS (List.replicate 97 .dead) [(0, .t (.sl false (a.map (GNode.row false)))), (1, .t (.sl false (b.map (GNode.row false)))), (5, .ref (12, 0) out6.length), (7, .t (.v (.int .i64 i1))), (8, .t (.v (.int .i64 k3)))]) (putR (List.replicate 97 []) [(12, [.mem (out6.map (rL true rI)) 0 false])])) := (G_impl_longest_l37 a b).1 out6 i1 k3
theorem impl_longest_l25_ok (a : List GNode) (b : List GNode) (out5 : List (List Int)) (i1 : Int) : Ok (impl_longest_l25 a b out5 i1) e_impl_longest (ev FTA c_impl_longest (.loop k_impl_longest_l25) [.lv 2, .th k_impl_longest_r21] (putS (List.replicate 97 .dead) [(0, .t (.sl false (a.map (GNode.row false)))), (1, .t (.sl false (b.map (GNode.row false)))), (5, .ref (12, 0) out5.length), (7, .t (.v (.int .i64 i1)))]) (putR (List.replicate 97 []) [(12, [.mem (out5.map (rL true rI)) 0 false])])) := (G_impl_longest_l37 a b).2 out5 i1

theorem impl_longest_l8_ok' (a : List GNode) (b : List GNode) (m : Nat) : ∀ (out3 : List (List Int)) (x57 : Int), Ok (impl_longest_l8 a b out3 m x57) e_impl_longest (ev FTA c_impl_longest (.loop k_impl_longest_l8) [.lv 0, .th k_impl_longest_r4] (putS (List.replicate 97 .dead) [(0, .t (.sl false (a.map (GNode.row false)))), (1, .t (.sl false (b.map (GNode.row false)))), (5, .ref (12, 0) out3.length), (14, .t (.v (.int .i64 ((m : Nat) : Int)))), (15, .t (.v (.int .i64 x57)))]) (putR (List.replicate 97 []) [(12, [.mem (out3.map (rL true rI)) 0 false])])) := by
  unfold Ok
  refine impl_longest_l8.partial_correctness a b m _ ?_
  intro F ih out3 x57
  show Ok _ _ _
  have ih : ∀ (out3 : List (List Int)) (x57 : Int), Ok (F out3 x57) _ _ := ih
  rw [ev_loop]
  simp only [SSA, RS, c_impl_longest, k_impl_longest_l8, k_impl_longest_r4, Nat.reduceAdd, Nat.reduceSub, Nat.reduceMul, Nat.reduceLeDiff, Nat.reduceLT, Nat.reduceEqDiff, Nat.reduceBEq, ↓reduceIte, reduceCtorEq]
  repeat' first
    | with_reducible exact Ok_none
    | ((with_reducible refine Ok_ret ?_); first | rfl | (simp only [SSA, RS, e_impl_longest, Nat.reduceAdd, Nat.reduceSub, Nat.reduceMul, Nat.reduceLeDiff, Nat.reduceLT, Nat.reduceEqDiff, Nat.reduceBEq, ↓reduceIte, reduceCtorEq]; done))
    | ((with_reducible refine Ok_tail (ih _ _) ?_); first | rfl | (simp only [SSA, RS, c_impl_longest, Nat.reduceAdd, Nat.reduceSub, Nat.reduceMul, Nat.reduceLeDiff, Nat.reduceLT, Nat.reduceEqDiff, Nat.reduceBEq, ↓reduceIte, reduceCtorEq]; done) | (simp only [SSA, RS, c_impl_longest, Nat.reduceAdd, Nat.reduceSub, Nat.reduceMul, Nat.reduceLeDiff, Nat.reduceLT, Nat.reduceEqDiff, Nat.reduceBEq, ↓reduceIte, reduceCtorEq]; rfl))
    | ((with_reducible refine Ok_tail (impl_longest_l25_ok _ _ _ _) ?_); first | rfl | (simp only [SSA, RS, c_impl_longest, Nat.reduceAdd, Nat.reduceSub, Nat.reduceMul, Nat.reduceLeDiff, Nat.reduceLT, Nat.reduceEqDiff, Nat.reduceBEq, ↓reduceIte, reduceCtorEq]; done) | (simp only [SSA, RS, c_impl_longest, Nat.reduceAdd, Nat.reduceSub, Nat.reduceMul, Nat.reduceLeDiff, Nat.reduceLT, Nat.reduceEqDiff, Nat.reduceBEq, ↓reduceIte, reduceCtorEq]; rfl))
    | ((first | with_reducible refine Ok_if (fun h => ?_) (fun h => ?_) | with_reducible refine Ok_get fun a h => ?_ | with_reducible refine Ok_prim (p := mkN _ _) fun a h => ?_) <;> simp only [SSA, RS, *, k_impl_longest_r4, Nat.reduceAdd, Nat.reduceSub, Nat.reduceMul, Nat.reduceLeDiff, Nat.reduceLT, Nat.reduceEqDiff, Nat.reduceBEq, ↓reduceIte, reduceCtorEq])
theorem impl_longest_l8_ok (a : List GNode) (b : List GNode) (out3 : List (List Int)) (m : Nat) (x57 : Int) : Ok (impl_longest_l8 a b out3 m x57) e_impl_longest (ev FTA c_impl_longest (.loop k_impl_longest_l8) [.lv 0, .th k_impl_longest_r4] (putS (List.replicate 97 .dead) [(0, .t (.sl false (a.map (GNode.row false)))), (1, .t (.sl false (b.map (GNode.row false)))), (5, .ref (12, 0) out3.length), (14, .t (.v (.int .i64 ((m : Nat) : Int)))), (15, .t (.v (.int .i64 x57)))]) (putR (List.replicate 97 []) [(12, [.mem (out3.map (rL true rI)) 0 false])])) := impl_longest_l8_ok' a b m out3 x57

theorem impl_longest_ok : ∀ (a : List GNode) (b : List GNode), Ok (impl_longest a b) e_impl_longest (dn FTA n_impl_longest [.t (.sl false (a.map (GNode.row false))), .t (.sl false (b.map (GNode.row false)))]) := by
  intro a b
  rw [den_ev FTA (fn := k_impl_longest) rfl (cloneX_none rfl _) (Nat.le_of_ble_eq_true rfl)]
  simp only [SSA, RS, c_impl_longest, k_impl_longest, impl_longest, Nat.reduceAdd, Nat.reduceSub, Nat.reduceMul, Nat.reduceLeDiff, Nat.reduceLT, Nat.reduceEqDiff, Nat.reduceBEq, ↓reduceIte, reduceCtorEq]
  repeat' first
    | with_reducible exact Ok_none
    | ((with_reducible refine Ok_ret ?_); first | rfl | (simp only [SSA, RS, e_impl_longest, Nat.reduceAdd, Nat.reduceSub, Nat.reduceMul, Nat.reduceLeDiff, Nat.reduceLT, Nat.reduceEqDiff, Nat.reduceBEq, ↓reduceIte, reduceCtorEq]; done))
    | ((with_reducible refine Ok_tail (impl_longest_l8_ok _ _ _ _ _) ?_); first | rfl | (simp only [SSA, RS, c_impl_longest, Nat.reduceAdd, Nat.reduceSub, Nat.reduceMul, Nat.reduceLeDiff, Nat.reduceLT, Nat.reduceEqDiff, Nat.reduceBEq, ↓reduceIte, reduceCtorEq]; done) | (simp only [SSA, RS, c_impl_longest, Nat.reduceAdd, Nat.reduceSub, Nat.reduceMul, Nat.reduceLeDiff, Nat.reduceLT, Nat.reduceEqDiff, Nat.reduceBEq, ↓reduceIte, reduceCtorEq]; rfl))
    | ((first | with_reducible refine Ok_prim (p := mkN _ _) fun a h => ?_) <;> simp only [SSA, RS, *, Nat.reduceAdd, Nat.reduceSub, Nat.reduceMul, Nat.reduceLeDiff, Nat.reduceLT, Nat.reduceEqDiff, Nat.reduceBEq, ↓reduceIte, reduceCtorEq])

def e_impl_Align (r : List Int) : Res := ⟨[.t (.sl true (r.map rI))], []⟩
def c_impl_Align : Cx := ⟨2, [0, 0], [.tmp 4]⟩
theorem impl_Align_l12_ok' (a : List GNode) (b : List GNode) (r : List (List Int)) : ∀ (out : List (Int)) (k : Int) (i : Int), Ok (impl_Align_l12 a b r out k i) e_impl_Align (ev FTA c_impl_Align (.loop k_impl_Align_l12) [.lv 0, .th k_impl_Align_r8] (putS (List.replicate 71 .dead) [(0, .t (.sl false (a.map (GNode.row false)))), (1, .t (.sl false (b.map (GNode.row false)))), (5, .ref (11, 0) r.length), (6, .ref (12, 0) out.length), (7, .t (.v (.int .i64 k))), (8, .t (.v (.int .i64 i)))]) (putR (List.replicate 71 []) [(11, [.mem (r.map (rL true rI)) 0 false]), (12, [.mem (out.map rI) 0 false])])) := by
  unfold Ok
  refine impl_Align_l12.partial_correctness a b r _ ?_
  intro F ih out k i
  show Ok _ _ _
  have ih : ∀ (out : List (Int)) (k : Int) (i : Int), Ok (F out k i) _ _ := ih
  rw [ev_loop]
  have g0 := impl_SameNode_ok; try simp only [SSA, RS, Nat.reduceAdd, Nat.reduceSub, Nat.reduceMul, Nat.reduceLeDiff, Nat.reduceLT, Nat.reduceEqDiff, Nat.reduceBEq, ↓reduceIte, reduceCtorEq] at g0
  simp only [SSA, RS, c_impl_Align, k_impl_Align_l12, k_impl_Align_r8, e_impl_SameNode, Nat.reduceAdd, Nat.reduceSub, Nat.reduceMul, Nat.reduceLeDiff, Nat.reduceLT, Nat.reduceEqDiff, Nat.reduceBEq, ↓reduceIte, reduceCtorEq]
  repeat' first
    | with_reducible exact Ok_none
    | ((with_reducible refine Ok_ret ?_); first | rfl | (simp only [SSA, RS, e_impl_Align, Nat.reduceAdd, Nat.reduceSub, Nat.reduceMul, Nat.reduceLeDiff, Nat.reduceLT, Nat.reduceEqDiff, Nat.reduceBEq, ↓reduceIte, reduceCtorEq]; done))
    | ((with_reducible refine Ok_tail (ih _ _ _) ?_); first | rfl | (simp only [SSA, RS, c_impl_Align, Nat.reduceAdd, Nat.reduceSub, Nat.reduceMul, Nat.reduceLeDiff, Nat.reduceLT, Nat.reduceEqDiff, Nat.reduceBEq, ↓reduceIte, reduceCtorEq]; done) | (simp only [SSA, RS, c_impl_Align, Nat.reduceAdd, Nat.reduceSub, Nat.reduceMul, Nat.reduceLeDiff, Nat.reduceLT, Nat.reduceEqDiff, Nat.reduceBEq, ↓reduceIte, reduceCtorEq]; rfl))
    | ((first | with_reducible refine Ok_if (fun h => ?_) (fun h => ?_) | with_reducible refine Ok_get fun a h => ?_ | with_reducible refine Ok_call (g0 _ _) fun v => ?_ | with_reducible refine Ok_prim (p := room _ _) fun a h => ?_ | refine Ok_call (g0 _ _) fun v => ?_) <;> simp only [SSA, RS, *, k_impl_Align_r8, e_impl_SameNode, Nat.reduceAdd, Nat.reduceSub, Nat.reduceMul, Nat.reduceLeDiff, Nat.reduceLT, Nat.reduceEqDiff, Nat.reduceBEq, ↓reduceIte, reduceCtorEq])
theorem impl_Align_l12_ok (a : List GNode) (b : List GNode) (r : List (List Int)) (out : List (Int)) (k : Int) (i : Int) : Ok (impl_Align_l12 a b r out k i) e_impl_Align (ev FTA c_impl_Align (.loop k_impl_Align_l12) [.lv 0, .th k_impl_Align_r8] (putS (List.replicate 71 .dead) [(0, .t (.sl false (a.map (GNode.row false)))), (1, .t (.sl false (b.map (GNode.row false)))), (5, .ref (11, 0) r.length), (6, .ref (12, 0) out.length), (7, .t (.v (.int .i64 k))), (8, .t (.v (.int .i64 i)))]) (putR (List.replicate 71 []) [(11, [.mem (r.map (rL true rI)) 0 false]), (12, [.mem (out.map rI) 0 false])])) := impl_Align_l12_ok' a b r out k i

theorem impl_Align_ok : ∀ (a : List GNode) (b : List GNode), Ok (impl_Align a b) e_impl_Align (dn FTA n_impl_Align [.t (.sl false (a.map (GNode.row false))), .t (.sl false (b.map (GNode.row false)))]) := by
  intro a b
  rw [den_ev FTA (fn := k_impl_Align) rfl (cloneX_none rfl _) (Nat.le_of_ble_eq_true rfl)]
  have g0 := impl_longest_ok; try simp only [SSA, RS, Nat.reduceAdd, Nat.reduceSub, Nat.reduceMul, Nat.reduceLeDiff, Nat.reduceLT, Nat.reduceEqDiff, Nat.reduceBEq, ↓reduceIte, reduceCtorEq] at g0
  simp only [SSA, RS, c_impl_Align, k_impl_Align, impl_Align, e_impl_longest, Nat.reduceAdd, Nat.reduceSub, Nat.reduceMul, Nat.reduceLeDiff, Nat.reduceLT, Nat.reduceEqDiff, Nat.reduceBEq, ↓reduceIte, reduceCtorEq]
  repeat' first
    | with_reducible exact Ok_none
    | ((with_reducible refine Ok_ret ?_); first | rfl | (simp only [SSA, RS, e_impl_Align, Nat.reduceAdd, Nat.reduceSub, Nat.reduceMul, Nat.reduceLeDiff, Nat.reduceLT, Nat.reduceEqDiff, Nat.reduceBEq, ↓reduceIte, reduceCtorEq]; done))
    | ((with_reducible refine Ok_tail (impl_Align_l12_ok _ _ _ _ _ _) ?_); first | rfl | (simp only [SSA, RS, c_impl_Align, Nat.reduceAdd, Nat.reduceSub, Nat.reduceMul, Nat.reduceLeDiff, Nat.reduceLT, Nat.reduceEqDiff, Nat.reduceBEq, ↓reduceIte, reduceCtorEq]; done) | (simp only [SSA, RS, c_impl_Align, Nat.reduceAdd, Nat.reduceSub, Nat.reduceMul, Nat.reduceLeDiff, Nat.reduceLT, Nat.reduceEqDiff, Nat.reduceBEq, ↓reduceIte, reduceCtorEq]; rfl))
    | ((first | with_reducible refine Ok_call (g0 _ _) fun v => ?_ | refine Ok_call (g0 _ _) fun v => ?_) <;> simp only [SSA, RS, *, e_impl_longest, Nat.reduceAdd, Nat.reduceSub, Nat.reduceMul, Nat.reduceLeDiff, Nat.reduceLT, Nat.reduceEqDiff, Nat.reduceBEq, ↓reduceIte, reduceCtorEq])

def e_laws_eqIntS (r : Bool) : Res := ⟨[.t (.v (.bool r))], []⟩
def c_laws_eqIntS : Cx := ⟨2, [0, 0], [.tmp 4]⟩
theorem laws_eqIntS_l14_ok' (a : List Int) (b : List Int) : ∀ (i : Int), Ok (laws_eqIntS_l14 a b i) e_laws_eqIntS (ev FTA c_laws_eqIntS (.loop k_laws_eqIntS_l14) [.lv 0, .th k_laws_eqIntS_r10] (putS (List.replicate 26 .dead) [(0, .t (.sl false (a.map rI))), (1, .t (.sl false (b.map rI))), (5, .t (.v (.int .i64 i)))]) (putR (List.replicate 26 []) [])) := by
  unfold Ok
  refine laws_eqIntS_l14.partial_correctness a b _ ?_
  intro F ih i
  show Ok _ _ _
  have ih : ∀ (i : Int), Ok (F i) _ _ := ih
  rw [ev_loop]
  simp only [SSA, RS, c_laws_eqIntS, k_laws_eqIntS_l14, k_laws_eqIntS_r10, Nat.reduceAdd, Nat.reduceSub, Nat.reduceMul, Nat.reduceLeDiff, Nat.reduceLT, Nat.reduceEqDiff, Nat.reduceBEq, ↓reduceIte, reduceCtorEq]
  repeat' first
    | with_reducible exact Ok_none
    | ((with_reducible refine Ok_ret ?_); first | rfl | (simp only [SSA, RS, e_laws_eqIntS, Nat.reduceAdd, Nat.reduceSub, Nat.reduceMul, Nat.reduceLeDiff, Nat.reduceLT, Nat.reduceEqDiff, Nat.reduceBEq, ↓reduceIte, reduceCtorEq]; done))
    | ((with_reducible refine Ok_tail (ih _) ?_); first | rfl | (simp only [SSA, RS, c_laws_eqIntS, Nat.reduceAdd, Nat.reduceSub, Nat.reduceMul, Nat.reduceLeDiff, Nat.reduceLT, Nat.reduceEqDiff, Nat.reduceBEq, ↓reduceIte, reduceCtorEq]; done) | (simp only [SSA, RS, c_laws_eqIntS, Nat.reduceAdd, Nat.reduceSub, Nat.reduceMul, Nat.reduceLeDiff, Nat.reduceLT, Nat.reduceEqDiff, Nat.reduceBEq, ↓reduceIte, reduceCtorEq]; rfl))
    | ((first | with_reducible refine Ok_if (fun h => ?_) (fun h => ?_) | with_reducible refine Ok_get fun a h => ?_) <;> simp only [SSA, RS, *, k_laws_eqIntS_r10, Nat.reduceAdd, Nat.reduceSub, Nat.reduceMul, Nat.reduceLeDiff, Nat.reduceLT, Nat.reduceEqDiff, Nat.reduceBEq, ↓reduceIte, reduceCtorEq])
theorem laws_eqIntS_l14_ok (a : List Int) (b : List Int) (i : Int) : Ok (laws_eqIntS_l14 a b i) e_laws_eqIntS (ev FTA c_laws_eqIntS (.loop k_laws_eqIntS_l14) [.lv 0, .th k_laws_eqIntS_r10] (putS (List.replicate 26 .dead) [(0, .t (.sl false (a.map rI))), (1, .t (.sl false (b.map rI))), (5, .t (.v (.int .i64 i)))]) (putR (List.replicate 26 []) [])) := laws_eqIntS_l14_ok' a b i

theorem laws_eqIntS_ok : ∀ (a : List Int) (b : List Int), Ok (laws_eqIntS a b) e_laws_eqIntS (dn FTA n_laws_eqIntS [.t (.sl false (a.map rI)), .t (.sl false (b.map rI))]) := by
  intro a b
  rw [den_ev FTA (fn := k_laws_eqIntS) rfl (cloneX_none rfl _) (Nat.le_of_ble_eq_true rfl)]
  simp only [SSA, RS, c_laws_eqIntS, k_laws_eqIntS, laws_eqIntS, Nat.reduceAdd, Nat.reduceSub, Nat.reduceMul, Nat.reduceLeDiff, Nat.reduceLT, Nat.reduceEqDiff, Nat.reduceBEq, ↓reduceIte, reduceCtorEq]
  repeat' first
    | with_reducible exact Ok_none
    | ((with_reducible refine Ok_ret ?_); first | rfl | (simp only [SSA, RS, e_laws_eqIntS, Nat.reduceAdd, Nat.reduceSub, Nat.reduceMul, Nat.reduceLeDiff, Nat.reduceLT, Nat.reduceEqDiff, Nat.reduceBEq, ↓reduceIte, reduceCtorEq]; done))
    | ((with_reducible refine Ok_tail (laws_eqIntS_l14_ok _ _ _) ?_); first | rfl | (simp only [SSA, RS, c_laws_eqIntS, Nat.reduceAdd, Nat.reduceSub, Nat.reduceMul, Nat.reduceLeDiff, Nat.reduceLT, Nat.reduceEqDiff, Nat.reduceBEq, ↓reduceIte, reduceCtorEq]; done) | (simp only [SSA, RS, c_laws_eqIntS, Nat.reduceAdd, Nat.reduceSub, Nat.reduceMul, Nat.reduceLeDiff, Nat.reduceLT, Nat.reduceEqDiff, Nat.reduceBEq, ↓reduceIte, reduceCtorEq]; rfl))
    | ((first | with_reducible refine Ok_if (fun h => ?_) (fun h => ?_)) <;> simp only [SSA, RS, *, Nat.reduceAdd, Nat.reduceSub, Nat.reduceMul, Nat.reduceLeDiff, Nat.reduceLT, Nat.reduceEqDiff, Nat.reduceBEq, ↓reduceIte, reduceCtorEq])

def e_laws_eqDecl (r : Bool) : Res := ⟨[.t (.v (.bool r))], []⟩
def c_laws_eqDecl : Cx := ⟨2, [0, 0], [.tmp 4]⟩
theorem laws_eqDecl_ok : ∀ (a : GDecl) (b : GDecl), Ok (laws_eqDecl a b) e_laws_eqDecl (dn FTA n_laws_eqDecl [.agg ((GDecl.row a).map .t), .agg ((GDecl.row b).map .t)]) := by
  intro a b
  rw [den_ev FTA (fn := k_laws_eqDecl) rfl (cloneX_none rfl _) (Nat.le_of_ble_eq_true rfl)]
  simp only [SSA, RS, c_laws_eqDecl, k_laws_eqDecl, laws_eqDecl, Nat.reduceAdd, Nat.reduceSub, Nat.reduceMul, Nat.reduceLeDiff, Nat.reduceLT, Nat.reduceEqDiff, Nat.reduceBEq, ↓reduceIte, reduceCtorEq]
  repeat' first
    | with_reducible exact Ok_none
    | ((with_reducible refine Ok_ret ?_); first | rfl | (simp only [SSA, RS, e_laws_eqDecl, Nat.reduceAdd, Nat.reduceSub, Nat.reduceMul, Nat.reduceLeDiff, Nat.reduceLT, Nat.reduceEqDiff, Nat.reduceBEq, ↓reduceIte, reduceCtorEq]; done))
    | ((first | with_reducible refine Ok_if (fun h => ?_) (fun h => ?_)) <;> simp only [SSA, RS, *, Nat.reduceAdd, Nat.reduceSub, Nat.reduceMul, Nat.reduceLeDiff, Nat.reduceLT, Nat.reduceEqDiff, Nat.reduceBEq, ↓reduceIte, reduceCtorEq])

def e_laws_eqDeclS (r : Bool) : Res := ⟨[.t (.v (.bool r))], []⟩
def c_laws_eqDeclS : Cx := ⟨2, [0, 0], [.tmp 4]⟩
theorem laws_eqDeclS_l14_ok' (a : List GDecl) (b : List GDecl) : ∀ (i : Int), Ok (laws_eqDeclS_l14 a b i) e_laws_eqDeclS (ev FTA c_laws_eqDeclS (.loop k_laws_eqDeclS_l14) [.lv 0, .th k_laws_eqDeclS_r10] (putS (List.replicate 27 .dead) [(0, .t (.sl false (a.map GDecl.row))), (1, .t (.sl false (b.map GDecl.row))), (5, .t (.v (.int .i64 i)))]) (putR (List.replicate 27 []) [])) := by
  unfold Ok
  refine laws_eqDeclS_l14.partial_correctness a b _ ?_
  intro F ih i
  show Ok _ _ _
  have ih : ∀ (i : Int), Ok (F i) _ _ := ih
  rw [ev_loop]
  have g0 := laws_eqDecl_ok; try simp only [SSA, RS, Nat.reduceAdd, Nat.reduceSub, Nat.reduceMul, Nat.reduceLeDiff, Nat.reduceLT, Nat.reduceEqDiff, Nat.reduceBEq, ↓reduceIte, reduceCtorEq] at g0
  simp only [SSA, RS, c_laws_eqDeclS, k_laws_eqDeclS_l14, k_laws_eqDeclS_r10, e_laws_eqDecl, Nat.reduceAdd, Nat.reduceSub, Nat.reduceMul, Nat.reduceLeDiff, Nat.reduceLT, Nat.reduceEqDiff, Nat.reduceBEq, ↓reduceIte, reduceCtorEq]
  repeat' first
    | with_reducible exact Ok_none
    | ((with_reducible refine Ok_ret ?_); first | rfl | (simp only [SSA, RS, e_laws_eqDeclS, Nat.reduceAdd, Nat.reduceSub, Nat.reduceMul, Nat.reduceLeDiff, Nat.reduceLT, Nat.reduceEqDiff, Nat.reduceBEq, ↓reduceIte, reduceCtorEq]; done))
    | ((with_reducible refine Ok_tail (ih _) ?_); first | rfl | (simp only [SSA, RS, c_laws_eqDeclS, Nat.reduceAdd, Nat.reduceSub, Nat.reduceMul, Nat.reduceLeDiff, Nat.reduceLT, Nat.reduceEqDiff, Nat.reduceBEq, ↓reduceIte, reduceCtorEq]; done) | (simp only [SSA, RS, c_laws_eqDeclS, Nat.reduceAdd, Nat.reduceSub, Nat.reduceMul, Nat.reduceLeDiff, Nat.reduceLT, Nat.reduceEqDiff, Nat.reduceBEq, ↓reduceIte, reduceCtorEq]; rfl))
    | ((first | with_reducible refine Ok_if (fun h => ?_) (fun h => ?_) | with_reducible refine Ok_get fun a h => ?_ | with_reducible refine Ok_call (g0 _ _) fun v => ?_ | refine Ok_call (g0 _ _) fun v => ?_) <;> simp only [SSA, RS, *, k_laws_eqDeclS_r10, e_laws_eqDecl, Nat.reduceAdd, Nat.reduceSub, Nat.reduceMul, Nat.reduceLeDiff, Nat.reduceLT, Nat.reduceEqDiff, Nat.reduceBEq, ↓reduceIte, reduceCtorEq])
theorem laws_eqDeclS_l14_ok (a : List GDecl) (b : List GDecl) (i : Int) : Ok (laws_eqDeclS_l14 a b i) e_laws_eqDeclS (ev FTA c_laws_eqDeclS (.loop k_laws_eqDeclS_l14) [.lv 0, .th k_laws_eqDeclS_r10] (putS (List.replicate 27 .dead) [(0, .t (.sl false (a.map GDecl.row))), (1, .t (.sl false (b.map GDecl.row))), (5, .t (.v (.int .i64 i)))]) (putR (List.replicate 27 []) [])) := laws_eqDeclS_l14_ok' a b i

theorem laws_eqDeclS_ok : ∀ (a : List GDecl) (b : List GDecl), Ok (laws_eqDeclS a b) e_laws_eqDeclS (dn FTA n_laws_eqDeclS [.t (.sl false (a.map GDecl.row)), .t (.sl false (b.map GDecl.row))]) := by
  intro a b
  rw [den_ev FTA (fn := k_laws_eqDeclS) rfl (cloneX_none rfl _) (Nat.le_of_ble_eq_true rfl)]
  simp only [SSA, RS, c_laws_eqDeclS, k_laws_eqDeclS, laws_eqDeclS, Nat.reduceAdd, Nat.reduceSub, Nat.reduceMul, Nat.reduceLeDiff, Nat.reduceLT, Nat.reduceEqDiff, Nat.reduceBEq, ↓reduceIte, reduceCtorEq]
  repeat' first
    | with_reducible exact Ok_none
    | ((with_reducible refine Ok_ret ?_); first | rfl | (simp only [SSA, RS, e_laws_eqDeclS, Nat.reduceAdd, Nat.reduceSub, Nat.reduceMul, Nat.reduceLeDiff, Nat.reduceLT, Nat.reduceEqDiff, Nat.reduceBEq, ↓reduceIte, reduceCtorEq]; done))
    | ((with_reducible refine Ok_tail (laws_eqDeclS_l14_ok _ _ _) ?_); first | rfl | (simp only [SSA, RS, c_laws_eqDeclS, Nat.reduceAdd, Nat.reduceSub, Nat.reduceMul, Nat.reduceLeDiff, Nat.reduceLT, Nat.reduceEqDiff, Nat.reduceBEq, ↓reduceIte, reduceCtorEq]; done) | (simp only [SSA, RS, c_laws_eqDeclS, Nat.reduceAdd, Nat.reduceSub, Nat.reduceMul, Nat.reduceLeDiff, Nat.reduceLT, Nat.reduceEqDiff, Nat.reduceBEq, ↓reduceIte, reduceCtorEq]; rfl))
    | ((first | with_reducible refine Ok_if (fun h => ?_) (fun h => ?_)) <;> simp only [SSA, RS, *, Nat.reduceAdd, Nat.reduceSub, Nat.reduceMul, Nat.reduceLeDiff, Nat.reduceLT, Nat.reduceEqDiff, Nat.reduceBEq, ↓reduceIte, reduceCtorEq])

def e_laws_eqAttr (r : Bool) : Res := ⟨[.t (.v (.bool r))], []⟩
def c_laws_eqAttr : Cx := ⟨2, [0, 0], [.tmp 4]⟩
theorem laws_eqAttr_ok : ∀ (a : GAttr) (b : GAttr), Ok (laws_eqAttr a b) e_laws_eqAttr (dn FTA n_laws_eqAttr [.agg ((GAttr.row a).map .t), .agg ((GAttr.row b).map .t)]) := by
  intro a b
  rw [den_ev FTA (fn := k_laws_eqAttr) rfl (cloneX_none rfl _) (Nat.le_of_ble_eq_true rfl)]
  simp only [SSA, RS, c_laws_eqAttr, k_laws_eqAttr, laws_eqAttr, Nat.reduceAdd, Nat.reduceSub, Nat.reduceMul, Nat.reduceLeDiff, Nat.reduceLT, Nat.reduceEqDiff, Nat.reduceBEq, ↓reduceIte, reduceCtorEq]
  repeat' first
    | with_reducible exact Ok_none
    | ((with_reducible refine Ok_ret ?_); first | rfl | (simp only [SSA, RS, e_laws_eqAttr, Nat.reduceAdd, Nat.reduceSub, Nat.reduceMul, Nat.reduceLeDiff, Nat.reduceLT, Nat.reduceEqDiff, Nat.reduceBEq, ↓reduceIte, reduceCtorEq]; done))
    | ((first | with_reducible refine Ok_if (fun h => ?_) (fun h => ?_)) <;> simp only [SSA, RS, *, Nat.reduceAdd, Nat.reduceSub, Nat.reduceMul, Nat.reduceLeDiff, Nat.reduceLT, Nat.reduceEqDiff, Nat.reduceBEq, ↓reduceIte, reduceCtorEq])

def e_laws_eqAttrS (r : Bool) : Res := ⟨[.t (.v (.bool r))], []⟩
def c_laws_eqAttrS : Cx := ⟨2, [0, 0], [.tmp 4]⟩
theorem laws_eqAttrS_l14_ok' (a : List GAttr) (b : List GAttr) : ∀ (i : Int), Ok (laws_eqAttrS_l14 a b i) e_laws_eqAttrS (ev FTA c_laws_eqAttrS (.loop k_laws_eqAttrS_l14) [.lv 0, .th k_laws_eqAttrS_r10] (putS (List.replicate 27 .dead) [(0, .t (.sl false (a.map GAttr.row))), (1, .t (.sl false (b.map GAttr.row))), (5, .t (.v (.int .i64 i)))]) (putR (List.replicate 27 []) [])) := by
  unfold Ok
  refine laws_eqAttrS_l14.partial_correctness a b _ ?_
  intro F ih i
  show Ok _ _ _
  have ih : ∀ (i : Int), Ok (F i) _ _ := ih
  rw [ev_loop]
  have g0 := laws_eqAttr_ok; try simp only [SSA, RS, Nat.reduceAdd, Nat.reduceSub, Nat.reduceMul, Nat.reduceLeDiff, Nat.reduceLT, Nat.reduceEqDiff, Nat.reduceBEq, ↓reduceIte, reduceCtorEq] at g0
  simp only [SSA, RS, c_laws_eqAttrS, k_laws_eqAttrS_l14, k_laws_eqAttrS_r10, e_laws_eqAttr, Nat.reduceAdd, Nat.reduceSub, Nat.reduceMul, Nat.reduceLeDiff, Nat.reduceLT, Nat.reduceEqDiff, Nat.reduceBEq, ↓reduceIte, reduceCtorEq]
  repeat' first
    | with_reducible exact Ok_none
    | ((with_reducible refine Ok_ret ?_); first | rfl | (simp only [SSA, RS, e_laws_eqAttrS, Nat.reduceAdd, Nat.reduceSub, Nat.reduceMul, Nat.reduceLeDiff, Nat.reduceLT, Nat.reduceEqDiff, Nat.reduceBEq, ↓reduceIte, reduceCtorEq]; done))
    | ((with_reducible refine Ok_tail (ih _) ?_); first | rfl | (simp only [SSA, RS, c_laws_eqAttrS, Nat.reduceAdd, Nat.reduceSub, Nat.reduceMul, Nat.reduceLeDiff, Nat.reduceLT, Nat.reduceEqDiff, Nat.reduceBEq, ↓reduceIte, reduceCtorEq]; done) | (simp only [SSA, RS, c_laws_eqAttrS, Nat.reduceAdd, Nat.reduceSub, Nat.reduceMul, Nat.reduceLeDiff, Nat.reduceLT, Nat.reduceEqDiff, Nat.reduceBEq, ↓reduceIte, reduceCtorEq]; rfl))
    | ((first | with_reducible refine Ok_if (fun h => ?_) (fun h => ?_) | with_reducible refine Ok_get fun a h => ?_ | with_reducible refine Ok_call (g0 _ _) fun v => ?_ | refine Ok_call (g0 _ _) fun v => ?_) <;> simp only [SSA, RS, *, k_laws_eqAttrS_r10, e_laws_eqAttr, Nat.reduceAdd, Nat.reduceSub, Nat.reduceMul, Nat.reduceLeDiff, Nat.reduceLT, Nat.reduceEqDiff, Nat.reduceBEq, ↓reduceIte, reduceCtorEq])
theorem laws_eqAttrS_l14_ok (a : List GAttr) (b : List GAttr) (i : Int) : Ok (laws_eqAttrS_l14 a b i) e_laws_eqAttrS (ev FTA c_laws_eqAttrS (.loop k_laws_eqAttrS_l14) [.lv 0, .th k_laws_eqAttrS_r10] (putS (List.replicate 27 .dead) [(0, .t (.sl false (a.map GAttr.row))), (1, .t (.sl false (b.map GAttr.row))), (5, .t (.v (.int .i64 i)))]) (putR (List.replicate 27 []) [])) := laws_eqAttrS_l14_ok' a b i

theorem laws_eqAttrS_ok : ∀ (a : List GAttr) (b : List GAttr), Ok (laws_eqAttrS a b) e_laws_eqAttrS (dn FTA n_laws_eqAttrS [.t (.sl false (a.map GAttr.row)), .t (.sl false (b.map GAttr.row))]) := by
  intro a b
  rw [den_ev FTA (fn := k_laws_eqAttrS) rfl (cloneX_none rfl _) (Nat.le_of_ble_eq_true rfl)]
  simp only [SSA, RS, c_laws_eqAttrS, k_laws_eqAttrS, laws_eqAttrS, Nat.reduceAdd, Nat.reduceSub, Nat.reduceMul, Nat.reduceLeDiff, Nat.reduceLT, Nat.reduceEqDiff, Nat.reduceBEq, ↓reduceIte, reduceCtorEq]
  repeat' first
    | with_reducible exact Ok_none
    | ((with_reducible refine Ok_ret ?_); first | rfl | (simp only [SSA, RS, e_laws_eqAttrS, Nat.reduceAdd, Nat.reduceSub, Nat.reduceMul, Nat.reduceLeDiff, Nat.reduceLT, Nat.reduceEqDiff, Nat.reduceBEq, ↓reduceIte, reduceCtorEq]; done))
    | ((with_reducible refine Ok_tail (laws_eqAttrS_l14_ok _ _ _) ?_); first | rfl | (simp only [SSA, RS, c_laws_eqAttrS, Nat.reduceAdd, Nat.reduceSub, Nat.reduceMul, Nat.reduceLeDiff, Nat.reduceLT, Nat.reduceEqDiff, Nat.reduceBEq, ↓reduceIte, reduceCtorEq]; done) | (simp only [SSA, RS, c_laws_eqAttrS, Nat.reduceAdd, Nat.reduceSub, Nat.reduceMul, Nat.reduceLeDiff, Nat.reduceLT, Nat.reduceEqDiff, Nat.reduceBEq, ↓reduceIte, reduceCtorEq]; rfl))
    | ((first | with_reducible refine Ok_if (fun h => ?_) (fun h => ?_)) <;> simp only [SSA, RS, *, Nat.reduceAdd, Nat.reduceSub, Nat.reduceMul, Nat.reduceLeDiff, Nat.reduceLT, Nat.reduceEqDiff, Nat.reduceBEq, ↓reduceIte, reduceCtorEq])

def e_laws_eqNode (r : Bool) : Res := ⟨[.t (.v (.bool r))], []⟩
def c_laws_eqNode : Cx := ⟨2, [0, 0], [.tmp 4]⟩
def e_laws_eqNodeS (r : Bool) : Res := ⟨[.t (.v (.bool r))], []⟩
def c_laws_eqNodeS : Cx := ⟨2, [0, 0], [.tmp 4]⟩
theorem G_laws_eqNode : (∀ (a : GNode) (b : GNode), Ok (laws_eqNode a b) e_laws_eqNode (dn FTA n_laws_eqNode [.agg (((GNode.row false) a).map .t), .agg (((GNode.row false) b).map .t)])) ∧
    (∀ (a : List GNode) (b : List GNode), Ok (laws_eqNodeS a b) e_laws_eqNodeS (dn FTA n_laws_eqNodeS [.t (.sl false (a.map (GNode.row false))), .t (.sl false (b.map (GNode.row false)))])) ∧
    (∀ (a : List GNode) (b : List GNode) (i : Int), Ok (laws_eqNodeS_l14 a b i) e_laws_eqNodeS (ev FTA c_laws_eqNodeS (.loop k_laws_eqNodeS_l14) [.lv 0, .th k_laws_eqNodeS_r10] (putS (List.replicate 27 .dead) [(0, .t (.sl false (a.map (GNode.row false)))), (1, .t (.sl false (b.map (GNode.row false)))), (5, .t (.v (.int .i64 i)))]) (putR (List.replicate 27 []) []))) := by
  unfold Ok
  refine laws_eqNode.mutual_partial_correctness _ _ _ ?_ ?_ ?_ 
  · intro F1 ih1 a b
    show Ok _ _ _
    have ih1 : ∀ (a : List GNode) (b : List GNode), Ok (F1 a b) _ _ := ih1
    rw [den_ev FTA (fn := k_laws_eqNode) rfl (cloneX_none rfl _) (Nat.le_of_ble_eq_true rfl)]
    have g0 := laws_eqDeclS_ok; try simp only [SSA, RS, Nat.reduceAdd, Nat.reduceSub, Nat.reduceMul, Nat.reduceLeDiff, Nat.reduceLT, Nat.reduceEqDiff, Nat.reduceBEq, ↓reduceIte, reduceCtorEq] at g0
    have g1 := laws_eqAttrS_ok; try simp only [SSA, RS, Nat.reduceAdd, Nat.reduceSub, Nat.reduceMul, Nat.reduceLeDiff, Nat.reduceLT, Nat.reduceEqDiff, Nat.reduceBEq, ↓reduceIte, reduceCtorEq] at g1
    have g2 := ih1; try simp only [SSA, RS, Nat.reduceAdd, Nat.reduceSub, Nat.reduceMul, Nat.reduceLeDiff, Nat.reduceLT, Nat.reduceEqDiff, Nat.reduceBEq, ↓reduceIte, reduceCtorEq] at g2
    simp only [SSA, RS, c_laws_eqNode, k_laws_eqNode, e_laws_eqAttrS, e_laws_eqDeclS, e_laws_eqNodeS, Nat.reduceAdd, Nat.reduceSub, Nat.reduceMul, Nat.reduceLeDiff, Nat.reduceLT, Nat.reduceEqDiff, Nat.reduceBEq, ↓reduceIte, reduceCtorEq]
    repeat' first
      | with_reducible exact Ok_none
      | ((with_reducible refine Ok_ret ?_); first | rfl | (simp only [SSA, RS, e_laws_eqNode, Nat.reduceAdd, Nat.reduceSub, Nat.reduceMul, Nat.reduceLeDiff, Nat.reduceLT, Nat.reduceEqDiff, Nat.reduceBEq, ↓reduceIte, reduceCtorEq]; done))
      | ((first | with_reducible refine Ok_if (fun h => ?_) (fun h => ?_) | with_reducible refine Ok_call (g0 _ _) fun v => ?_ | with_reducible refine Ok_call (g1 _ _) fun v => ?_ | with_reducible refine Ok_call (g2 _ _) fun v => ?_ | refine Ok_call (g0 _ _) fun v => ?_ | refine Ok_call (g1 _ _) fun v => ?_ | refine Ok_call (g2 _ _) fun v => ?_) <;> simp only [SSA, RS, *, e_laws_eqAttrS, e_laws_eqDeclS, e_laws_eqNodeS, Nat.reduceAdd, Nat.reduceSub, Nat.reduceMul, Nat.reduceLeDiff, Nat.reduceLT, Nat.reduceEqDiff, Nat.reduceBEq, ↓reduceIte, reduceCtorEq])
  · intro F2 ih2 a b
    show Ok _ _ _
    have ih2 : ∀ (a : List GNode) (b : List GNode) (i : Int), Ok (F2 a b i) _ _ := ih2
    rw [den_ev FTA (fn := k_laws_eqNodeS) rfl (cloneX_none rfl _) (Nat.le_of_ble_eq_true rfl)]
    simp only [SSA, RS, c_laws_eqNodeS, k_laws_eqNodeS, Nat.reduceAdd, Nat.reduceSub, Nat.reduceMul, Nat.reduceLeDiff, Nat.reduceLT, Nat.reduceEqDiff, Nat.reduceBEq, ↓reduceIte, reduceCtorEq]
    repeat' first
      | with_reducible exact Ok_none
      | ((with_reducible refine Ok_ret ?_); first | rfl | (simp only [SSA, RS, e_laws_eqNodeS, Nat.reduceAdd, Nat.reduceSub, Nat.reduceMul, Nat.reduceLeDiff, Nat.reduceLT, Nat.reduceEqDiff, Nat.reduceBEq, ↓reduceIte, reduceCtorEq]; done))
      | ((with_reducible refine Ok_tail (ih2 _ _ _) ?_); first | rfl | (simp only [SSA, RS, c_laws_eqNodeS, Nat.reduceAdd, Nat.reduceSub, Nat.reduceMul, Nat.reduceLeDiff, Nat.reduceLT, Nat.reduceEqDiff, Nat.reduceBEq, ↓reduceIte, reduceCtorEq]; done) | (simp only [SSA, RS, c_laws_eqNodeS, Nat.reduceAdd, Nat.reduceSub, Nat.reduceMul, Nat.reduceLeDiff, Nat.reduceLT, Nat.reduceEqDiff, Nat.reduceBEq, ↓reduceIte, reduceCtorEq]; rfl))
      | ((first | with_reducible refine Ok_if (fun h => ?_) (fun h => ?_)) <;> simp only [SSA, RS, *, Nat.reduceAdd, Nat.reduceSub, Nat.reduceMul, Nat.reduceLeDiff, Nat.reduceLT, Nat.reduceEqDiff, Nat.reduceBEq, ↓reduceIte, reduceCtorEq])
  · intro F0 F2 ih0 ih2 a b i
    show Ok _ _ _
    have ih0 : ∀ (a : GNode) (b : GNode), Ok (F0 a b) _ _ := ih0
    have ih2 : ∀ (a : List GNode) (b : List GNode) (i : Int), Ok (F2 a b i) _ _ := ih2
    rw [ev_loop]
    have g0 := ih0; try simp only [SSA, RS, Nat.reduceAdd, Nat.reduceSub, Nat.reduceMul, Nat.reduceLeDiff, Nat.reduceLT, Nat.reduceEqDiff, Nat.reduceBEq, ↓reduceIte, reduceCtorEq] at g0
    simp only [SSA, RS, c_laws_eqNodeS, k_laws_eqNodeS_l14, k_laws_eqNodeS_r10, e_laws_eqNode, Nat.reduceAdd, Nat.reduceSub, Nat.reduceMul, Nat.reduceLeDiff, Nat.reduceLT, Nat.reduceEqDiff, Nat.reduceBEq, ↓reduceIte, reduceCtorEq]
    repeat' first
      | with_reducible exact Ok_none
      | ((with_reducible refine Ok_ret ?_); first | rfl | (simp only [SSA, RS, e_laws_eqNodeS, Nat.reduceAdd, Nat.reduceSub, Nat.reduceMul, Nat.reduceLeDiff, Nat.reduceLT, Nat.reduceEqDiff, Nat.reduceBEq, ↓reduceIte, reduceCtorEq]; done))
      | ((with_reducible refine Ok_tail (ih2 _ _ _) ?_); first | rfl | (simp only [SSA, RS, c_laws_eqNodeS, Nat.reduceAdd, Nat.reduceSub, Nat.reduceMul, Nat.reduceLeDiff, Nat.reduceLT, Nat.reduceEqDiff, Nat.reduceBEq, ↓reduceIte, reduceCtorEq]; done) | (simp only [SSA, RS, c_laws_eqNodeS, Nat.reduceAdd, Nat.reduceSub, Nat.reduceMul, Nat.reduceLeDiff, Nat.reduceLT, Nat.reduceEqDiff, Nat.reduceBEq, ↓reduceIte, reduceCtorEq]; rfl))
      | ((first | with_reducible refine Ok_if (fun h => ?_) (fun h => ?_) | with_reducible refine Ok_get fun a h => ?_ | with_reducible refine Ok_call (g0 _ _) fun v => ?_ | refine Ok_call (g0 _ _) fun v => ?_) <;> simp only [SSA, RS, *, k_laws_eqNodeS_r10, e_laws_eqNode, Nat.reduceAdd, Nat.reduceSub, Nat.reduceMul, Nat.reduceLeDiff, Nat.reduceLT, Nat.reduceEqDiff, Nat.reduceBEq, ↓reduceIte, reduceCtorEq])
theorem laws_eqNode_ok (a : GNode) (b : GNode) : Ok (laws_eqNode a b) e_laws_eqNode (dn FTA n_laws_eqNode [.agg (((GNode.row false) a).map .t), .agg (((GNode.row false) b).map .t)]) := G_laws_eqNode.1 a b
theorem laws_eqNodeS_ok (a : List GNode) (b : List GNode) : Ok (laws_eqNodeS a b) e_laws_eqNodeS (dn FTA n_laws_eqNodeS [.t (.sl false (a.map (GNode.row false))), .t (.sl false (b.map (GNode.row false)))]) := G_laws_eqNode.2.1 a b
theorem laws_eqNodeS_l14_ok (a : List GNode) (b : List GNode) (i : Int) : Ok (laws_eqNodeS_l14 a b i) e_laws_eqNodeS (ev FTA c_laws_eqNodeS (.loop k_laws_eqNodeS_l14) [.lv 0, .th k_laws_eqNodeS_r10] (putS (List.replicate 27 .dead) [(0, .t (.sl false (a.map (GNode.row false)))), (1, .t (.sl false (b.map (GNode.row false)))), (5, .t (.v (.int .i64 i)))]) (putR (List.replicate 27 []) [])) := G_laws_eqNode.2.2 a b i

def e_laws_markText (r : ByteArray) : Res := ⟨[.t (.v (.string r))], []⟩
def c_laws_markText : Cx := ⟨1, [0], [.tmp 2]⟩
theorem laws_markText_l14_ok' : ∀ (k1 : Int) (out : ByteArray), Ok (laws_markText_l14 k1 out) e_laws_markText (ev FTA c_laws_markText (.loop k_laws_markText_l14) [.lv 0, .th k_laws_markText_r12] (putS (List.replicate 20 .dead) [(0, .t (.v (.int .i64 k1))), (3, .t (.v (.string out)))]) (putR (List.replicate 20 []) [])) := by
  unfold Ok
  refine laws_markText_l14.partial_correctness _ ?_
  intro F ih k1 out
  show Ok _ _ _
  have ih : ∀ (k1 : Int) (out : ByteArray), Ok (F k1 out) _ _ := ih
  rw [ev_loop]
  simp only [SSA, RS, c_laws_markText, k_laws_markText_l14, k_laws_markText_r12, Nat.reduceAdd, Nat.reduceSub, Nat.reduceMul, Nat.reduceLeDiff, Nat.reduceLT, Nat.reduceEqDiff, Nat.reduceBEq, ↓reduceIte, reduceCtorEq]
  repeat' first
    | with_reducible exact Ok_none
    | ((with_reducible refine Ok_ret ?_); first | rfl | (simp only [SSA, RS, e_laws_markText, Nat.reduceAdd, Nat.reduceSub, Nat.reduceMul, Nat.reduceLeDiff, Nat.reduceLT, Nat.reduceEqDiff, Nat.reduceBEq, ↓reduceIte, reduceCtorEq]; done))
    | ((with_reducible refine Ok_tail (ih _ _) ?_); first | rfl | (simp only [SSA, RS, c_laws_markText, Nat.reduceAdd, Nat.reduceSub, Nat.reduceMul, Nat.reduceLeDiff, Nat.reduceLT, Nat.reduceEqDiff, Nat.reduceBEq, ↓reduceIte, reduceCtorEq]; done) | (simp only [SSA, RS, c_laws_markText, Nat.reduceAdd, Nat.reduceSub, Nat.reduceMul, Nat.reduceLeDiff, Nat.reduceLT, Nat.reduceEqDiff, Nat.reduceBEq, ↓reduceIte, reduceCtorEq]; rfl))
    | ((first | with_reducible refine Ok_if (fun h => ?_) (fun h => ?_) | with_reducible refine Ok_prim (p := catS _ _) fun a h => ?_ | with_reducible refine Ok_prim (p := quoI _ _) fun a h => ?_ | with_reducible refine Ok_prim (p := remI _ _) fun a h => ?_) <;> simp only [SSA, RS, *, k_laws_markText_r12, Nat.reduceAdd, Nat.reduceSub, Nat.reduceMul, Nat.reduceLeDiff, Nat.reduceLT, Nat.reduceEqDiff, Nat.reduceBEq, ↓reduceIte, reduceCtorEq])
theorem laws_markText_l14_ok (k1 : Int) (out : ByteArray) : Ok (laws_markText_l14 k1 out) e_laws_markText (ev FTA c_laws_markText (.loop k_laws_markText_l14) [.lv 0, .th k_laws_markText_r12] (putS (List.replicate 20 .dead) [(0, .t (.v (.int .i64 k1))), (3, .t (.v (.string out)))]) (putR (List.replicate 20 []) [])) := laws_markText_l14_ok' k1 out

theorem laws_markText_ok : ∀ (k : Int), Ok (laws_markText k) e_laws_markText (dn FTA n_laws_markText [.t (.v (.int .i64 k))]) := by
  intro k
  rw [den_ev FTA (fn := k_laws_markText) rfl (cloneX_none rfl _) (Nat.le_of_ble_eq_true rfl)]
  simp only [SSA, RS, c_laws_markText, k_laws_markText, laws_markText, Nat.reduceAdd, Nat.reduceSub, Nat.reduceMul, Nat.reduceLeDiff, Nat.reduceLT, Nat.reduceEqDiff, Nat.reduceBEq, ↓reduceIte, reduceCtorEq]
  repeat' first
    | with_reducible exact Ok_none
    | ((with_reducible refine Ok_ret ?_); first | rfl | (simp only [SSA, RS, e_laws_markText, Nat.reduceAdd, Nat.reduceSub, Nat.reduceMul, Nat.reduceLeDiff, Nat.reduceLT, Nat.reduceEqDiff, Nat.reduceBEq, ↓reduceIte, reduceCtorEq]; done))
    | ((with_reducible refine Ok_tail (laws_markText_l14_ok _ _) ?_); first | rfl | (simp only [SSA, RS, c_laws_markText, Nat.reduceAdd, Nat.reduceSub, Nat.reduceMul, Nat.reduceLeDiff, Nat.reduceLT, Nat.reduceEqDiff, Nat.reduceBEq, ↓reduceIte, reduceCtorEq]; done) | (simp only [SSA, RS, c_laws_markText, Nat.reduceAdd, Nat.reduceSub, Nat.reduceMul, Nat.reduceLeDiff, Nat.reduceLT, Nat.reduceEqDiff, Nat.reduceBEq, ↓reduceIte, reduceCtorEq]; rfl))
    | ((first | with_reducible refine Ok_if (fun h => ?_) (fun h => ?_)) <;> simp only [SSA, RS, *, Nat.reduceAdd, Nat.reduceSub, Nat.reduceMul, Nat.reduceLeDiff, Nat.reduceLT, Nat.reduceEqDiff, Nat.reduceBEq, ↓reduceIte, reduceCtorEq])

def e_laws_markDeclS (r : Int × List (GDecl)) : Res := ⟨[.t (.v (.int .i64 r.1))], [some (r.2.map GDecl.row)]⟩
def c_laws_markDeclS : Cx := ⟨2, [1, 0], [.tmp 4]⟩
theorem laws_markDeclS_l6_ok' : ∀ (a1 : List (GDecl)) (k1 : Int) (i : Int), Ok (laws_markDeclS_l6 a1 k1 i) e_laws_markDeclS (ev FTA c_laws_markDeclS (.loop k_laws_markDeclS_l6) [.lv 0, .th k_laws_markDeclS_r2] (putS (List.replicate 29 .dead) [(0, .ref (0, 0) a1.length), (1, .t (.v (.int .i64 k1))), (5, .t (.v (.int .i64 i)))]) (putR (List.replicate 29 []) [(0, [.mem (a1.map GDecl.row) 0 true])])) := by
  unfold Ok
  refine laws_markDeclS_l6.partial_correctness _ ?_
  intro F ih a1 k1 i
  show Ok _ _ _
  have ih : ∀ (a1 : List (GDecl)) (k1 : Int) (i : Int), Ok (F a1 k1 i) _ _ := ih
  rw [ev_loop]
  have g0 := laws_markText_ok; try simp only [SSA, RS, Nat.reduceAdd, Nat.reduceSub, Nat.reduceMul, Nat.reduceLeDiff, Nat.reduceLT, Nat.reduceEqDiff, Nat.reduceBEq, ↓reduceIte, reduceCtorEq] at g0
  simp only [SSA, RS, c_laws_markDeclS, k_laws_markDeclS_l6, k_laws_markDeclS_r2, e_laws_markText, Nat.reduceAdd, Nat.reduceSub, Nat.reduceMul, Nat.reduceLeDiff, Nat.reduceLT, Nat.reduceEqDiff, Nat.reduceBEq, ↓reduceIte, reduceCtorEq]
  repeat' first
    | with_reducible exact Ok_none
    | ((with_reducible refine Ok_ret ?_); first | rfl | (simp only [SSA, RS, e_laws_markDeclS, Nat.reduceAdd, Nat.reduceSub, Nat.reduceMul, Nat.reduceLeDiff, Nat.reduceLT, Nat.reduceEqDiff, Nat.reduceBEq, ↓reduceIte, reduceCtorEq]; done))
    | ((with_reducible refine Ok_tail (ih _ _ _) ?_); first | rfl | (simp only [SSA, RS, c_laws_markDeclS, Nat.reduceAdd, Nat.reduceSub, Nat.reduceMul, Nat.reduceLeDiff, Nat.reduceLT, Nat.reduceEqDiff, Nat.reduceBEq, ↓reduceIte, reduceCtorEq]; done) | (simp only [SSA, RS, c_laws_markDeclS, Nat.reduceAdd, Nat.reduceSub, Nat.reduceMul, Nat.reduceLeDiff, Nat.reduceLT, Nat.reduceEqDiff, Nat.reduceBEq, ↓reduceIte, reduceCtorEq]; rfl))
    | ((first | with_reducible refine Ok_if (fun h => ?_) (fun h => ?_) | with_reducible refine Ok_get fun a h => ?_ | with_reducible refine Ok_call (g0 _) fun v => ?_ | refine Ok_call (g0 _) fun v => ?_) <;> simp only [SSA, RS, *, k_laws_markDeclS_r2, e_laws_markText, Nat.reduceAdd, Nat.reduceSub, Nat.reduceMul, Nat.reduceLeDiff, Nat.reduceLT, Nat.reduceEqDiff, Nat.reduceBEq, ↓reduceIte, reduceCtorEq])
theorem laws_markDeclS_l6_ok (a1 : List (GDecl)) (k1 : Int) (i : Int) : Ok (laws_markDeclS_l6 a1 k1 i) e_laws_markDeclS (ev FTA c_laws_markDeclS (.loop k_laws_markDeclS_l6) [.lv 0, .th k_laws_markDeclS_r2] (putS (List.replicate 29 .dead) [(0, .ref (0, 0) a1.length), (1, .t (.v (.int .i64 k1))), (5, .t (.v (.int .i64 i)))]) (putR (List.replicate 29 []) [(0, [.mem (a1.map GDecl.row) 0 true])])) := laws_markDeclS_l6_ok' a1 k1 i

theorem laws_markDeclS_ok : ∀ (a : List (GDecl)) (k : Int), Ok (laws_markDeclS a k) e_laws_markDeclS (dn FTA n_laws_markDeclS [.ln (a.map GDecl.row), .t (.v (.int .i64 k))]) := by
  intro a k
  rw [den_ev FTA (fn := k_laws_markDeclS) rfl (cloneX_none rfl _) (Nat.le_of_ble_eq_true rfl)]
  simp only [SSA, RS, c_laws_markDeclS, k_laws_markDeclS, laws_markDeclS, Nat.reduceAdd, Nat.reduceSub, Nat.reduceMul, Nat.reduceLeDiff, Nat.reduceLT, Nat.reduceEqDiff, Nat.reduceBEq, ↓reduceIte, reduceCtorEq]
  repeat' first
    | with_reducible exact Ok_none
    | ((with_reducible refine Ok_ret ?_); first | rfl | (simp only [SSA, RS, e_laws_markDeclS, Nat.reduceAdd, Nat.reduceSub, Nat.reduceMul, Nat.reduceLeDiff, Nat.reduceLT, Nat.reduceEqDiff, Nat.reduceBEq, ↓reduceIte, reduceCtorEq]; done))
    | ((with_reducible refine Ok_tail (laws_markDeclS_l6_ok _ _ _) ?_); first | rfl | (simp only [SSA, RS, c_laws_markDeclS, Nat.reduceAdd, Nat.reduceSub, Nat.reduceMul, Nat.reduceLeDiff, Nat.reduceLT, Nat.reduceEqDiff, Nat.reduceBEq, ↓reduceIte, reduceCtorEq]; done) | (simp only [SSA, RS, c_laws_markDeclS, Nat.reduceAdd, Nat.reduceSub, Nat.reduceMul, Nat.reduceLeDiff, Nat.reduceLT, Nat.reduceEqDiff, Nat.reduceBEq, ↓reduceIte, reduceCtorEq]; rfl))

def e_laws_markAttrS (r : Int × List (GAttr)) : Res := ⟨[.t (.v (.int .i64 r.1))], [some (r.2.map GAttr.row)]⟩
def c_laws_markAttrS : Cx := ⟨2, [1, 0], [.tmp 4]⟩
theorem laws_markAttrS_l6_ok' : ∀ (a1 : List (GAttr)) (k1 : Int) (i : Int), Ok (laws_markAttrS_l6 a1 k1 i) e_laws_markAttrS (ev FTA c_laws_markAttrS (.loop k_laws_markAttrS_l6) [.lv 0, .th k_laws_markAttrS_r2] (putS (List.replicate 45 .dead) [(0, .ref (0, 0) a1.length), (1, .t (.v (.int .i64 k1))), (5, .t (.v (.int .i64 i)))]) (putR (List.replicate 45 []) [(0, [.mem (a1.map GAttr.row) 0 true])])) := by
  unfold Ok
  refine laws_markAttrS_l6.partial_correctness _ ?_
  intro F ih a1 k1 i
  show Ok _ _ _
  have ih : ∀ (a1 : List (GAttr)) (k1 : Int) (i : Int), Ok (F a1 k1 i) _ _ := ih
  rw [ev_loop]
  have g0 := laws_markText_ok; try simp only [SSA, RS, Nat.reduceAdd, Nat.reduceSub, Nat.reduceMul, Nat.reduceLeDiff, Nat.reduceLT, Nat.reduceEqDiff, Nat.reduceBEq, ↓reduceIte, reduceCtorEq] at g0
  simp only [SSA, RS, c_laws_markAttrS, k_laws_markAttrS_l6, k_laws_markAttrS_r2, e_laws_markText, Nat.reduceAdd, Nat.reduceSub, Nat.reduceMul, Nat.reduceLeDiff, Nat.reduceLT, Nat.reduceEqDiff, Nat.reduceBEq, ↓reduceIte, reduceCtorEq]
  repeat' first
    | with_reducible exact Ok_none
    | ((with_reducible refine Ok_ret ?_); first | rfl | (simp only [SSA, RS, e_laws_markAttrS, Nat.reduceAdd, Nat.reduceSub, Nat.reduceMul, Nat.reduceLeDiff, Nat.reduceLT, Nat.reduceEqDiff, Nat.reduceBEq, ↓reduceIte, reduceCtorEq]; done))
    | ((with_reducible refine Ok_tail (ih _ _ _) ?_); first | rfl | (simp only [SSA, RS, c_laws_markAttrS, Nat.reduceAdd, Nat.reduceSub, Nat.reduceMul, Nat.reduceLeDiff, Nat.reduceLT, Nat.reduceEqDiff, Nat.reduceBEq, ↓reduceIte, reduceCtorEq]; done) | (simp only [SSA, RS, c_laws_markAttrS, Nat.reduceAdd, Nat.reduceSub, Nat.reduceMul, Nat.reduceLeDiff, Nat.reduceLT, Nat.reduceEqDiff, Nat.reduceBEq, ↓reduceIte, reduceCtorEq]; rfl))
    | ((first | with_reducible refine Ok_if (fun h => ?_) (fun h => ?_) | with_reducible refine Ok_get fun a h => ?_ | with_reducible refine Ok_call (g0 _) fun v => ?_ | refine Ok_call (g0 _) fun v => ?_) <;> simp only [SSA, RS, *, k_laws_markAttrS_r2, e_laws_markText, Nat.reduceAdd, Nat.reduceSub, Nat.reduceMul, Nat.reduceLeDiff, Nat.reduceLT, Nat.reduceEqDiff, Nat.reduceBEq, ↓reduceIte, reduceCtorEq])
theorem laws_markAttrS_l6_ok (a1 : List (GAttr)) (k1 : Int) (i : Int) : Ok (laws_markAttrS_l6 a1 k1 i) e_laws_markAttrS (ev FTA c_laws_markAttrS (.loop k_laws_markAttrS_l6) [.lv 0, .th k_laws_markAttrS_r2] (putS (List.replicate 45 .dead) [(0, .ref (0, 0) a1.length), (1, .t (.v (.int .i64 k1))), (5, .t (.v (.int .i64 i)))]) (putR (List.replicate 45 []) [(0, [.mem (a1.map GAttr.row) 0 true])])) := laws_markAttrS_l6_ok' a1 k1 i

theorem laws_markAttrS_ok : ∀ (a : List (GAttr)) (k : Int), Ok (laws_markAttrS a k) e_laws_markAttrS (dn FTA n_laws_markAttrS [.ln (a.map GAttr.row), .t (.v (.int .i64 k))]) := by
  intro a k
  rw [den_ev FTA (fn := k_laws_markAttrS) rfl (cloneX_none rfl _) (Nat.le_of_ble_eq_true rfl)]
  simp only [SSA, RS, c_laws_markAttrS, k_laws_markAttrS, laws_markAttrS, Nat.reduceAdd, Nat.reduceSub, Nat.reduceMul, Nat.reduceLeDiff, Nat.reduceLT, Nat.reduceEqDiff, Nat.reduceBEq, ↓reduceIte, reduceCtorEq]
  repeat' first
    | with_reducible exact Ok_none
    | ((with_reducible refine Ok_ret ?_); first | rfl | (simp only [SSA, RS, e_laws_markAttrS, Nat.reduceAdd, Nat.reduceSub, Nat.reduceMul, Nat.reduceLeDiff, Nat.reduceLT, Nat.reduceEqDiff, Nat.reduceBEq, ↓reduceIte, reduceCtorEq]; done))
    | ((with_reducible refine Ok_tail (laws_markAttrS_l6_ok _ _ _) ?_); first | rfl | (simp only [SSA, RS, c_laws_markAttrS, Nat.reduceAdd, Nat.reduceSub, Nat.reduceMul, Nat.reduceLeDiff, Nat.reduceLT, Nat.reduceEqDiff, Nat.reduceBEq, ↓reduceIte, reduceCtorEq]; done) | (simp only [SSA, RS, c_laws_markAttrS, Nat.reduceAdd, Nat.reduceSub, Nat.reduceMul, Nat.reduceLeDiff, Nat.reduceLT, Nat.reduceEqDiff, Nat.reduceBEq, ↓reduceIte, reduceCtorEq]; rfl))

def e_laws_markNodeS' (r : Int × List (GNode)) : Res := ⟨[.t (.v (.int .i64 r.1))], [some (r.2.map (GNode.row true))]⟩
def c_laws_markNodeS' : Cx := ⟨2, [1, 0], [.tmp 4]⟩
theorem G_laws_markNodeS' : (∀ (a : List (GNode)) (k : Int), Ok (laws_markNodeS' a k) e_laws_markNodeS' (dn FTA n_laws_markNodeS [.ln (a.map (GNode.row true)), .t (.v (.int .i64 k))])) ∧
    (∀ (a1 : List (GNode)) (k1 : Int) (i : Int), Ok (laws_markNodeS'_l6 a1 k1 i) e_laws_markNodeS' (ev FTA c_laws_markNodeS' (.loop k_laws_markNodeS_l6) [.lv 0, .th k_laws_markNodeS_r2] (putS (List.replicate 73 .dead) [(0, .ref (0, 0) a1.length), (1, .t (.v (.int .i64 k1))), (5, .t (.v (.int .i64 i)))]) (putR (List.replicate 73 []) [(0, [.mem (a1.map (GNode.row true)) 0 true])]))) := by
  unfold Ok
  refine laws_markNodeS'.mutual_partial_correctness _ _ ?_ ?_ 
  · intro F1 ih1 a k
    show Ok _ _ _
    have ih1 : ∀ (a1 : List (GNode)) (k1 : Int) (i : Int), Ok (F1 a1 k1 i) _ _ := ih1
    rw [den_ev FTA (fn := k_laws_markNodeS) rfl (cloneX_none rfl _) (Nat.le_of_ble_eq_true rfl)]
    simp only [SSA, RS, c_laws_markNodeS', k_laws_markNodeS, Nat.reduceAdd, Nat.reduceSub, Nat.reduceMul, Nat.reduceLeDiff, Nat.reduceLT, Nat.reduceEqDiff, Nat.reduceBEq, ↓reduceIte, reduceCtorEq]
    repeat' first
      | with_reducible exact Ok_none
      | ((with_reducible refine Ok_ret ?_); first | rfl | (simp only [SSA, RS, e_laws_markNodeS', Nat.reduceAdd, Nat.reduceSub, Nat.reduceMul, Nat.reduceLeDiff, Nat.reduceLT, Nat.reduceEqDiff, Nat.reduceBEq, ↓reduceIte, reduceCtorEq]; done))
      | ((with_reducible refine Ok_tail (ih1 _ _ _) ?_); first | rfl | (simp only [SSA, RS, c_laws_markNodeS', Nat.reduceAdd, Nat.reduceSub, Nat.reduceMul, Nat.reduceLeDiff, Nat.reduceLT, Nat.reduceEqDiff, Nat.reduceBEq, ↓reduceIte, reduceCtorEq]; done) | (simp only [SSA, RS, c_laws_markNodeS', Nat.reduceAdd, Nat.reduceSub, Nat.reduceMul, Nat.reduceLeDiff, Nat.reduceLT, Nat.reduceEqDiff, Nat.reduceBEq, ↓reduceIte, reduceCtorEq]; rfl))
  · intro F0 F1 ih0 ih1 a1 k1 i
    show Ok _ _ _
    have ih0 : ∀ (a : List (GNode)) (k : Int), Ok (F0 a k) _ _ := ih0
    have ih1 : ∀ (a1 : List (GNode)) (k1 : Int) (i : Int), Ok (F1 a1 k1 i) _ _ := ih1
    rw [ev_loop]
    have g0 := laws_markText_ok; try simp only [SSA, RS, Nat.reduceAdd, Nat.reduceSub, Nat.reduceMul, Nat.reduceLeDiff, Nat.reduceLT, Nat.reduceEqDiff, Nat.reduceBEq, ↓reduceIte, reduceCtorEq] at g0
    have g1 := laws_markDeclS_ok; try simp only [SSA, RS, Nat.reduceAdd, Nat.reduceSub, Nat.reduceMul, Nat.reduceLeDiff, Nat.reduceLT, Nat.reduceEqDiff, Nat.reduceBEq, ↓reduceIte, reduceCtorEq] at g1
    have g2 := laws_markAttrS_ok; try simp only [SSA, RS, Nat.reduceAdd, Nat.reduceSub, Nat.reduceMul, Nat.reduceLeDiff, Nat.reduceLT, Nat.reduceEqDiff, Nat.reduceBEq, ↓reduceIte, reduceCtorEq] at g2
    have g3 := ih0; try simp only [SSA, RS, Nat.reduceAdd, Nat.reduceSub, Nat.reduceMul, Nat.reduceLeDiff, Nat.reduceLT, Nat.reduceEqDiff, Nat.reduceBEq, ↓reduceIte, reduceCtorEq] at g3
    simp only [SSA, RS, c_laws_markNodeS', k_laws_markNodeS_l6, k_laws_markNodeS_r2, e_laws_markAttrS, e_laws_markDeclS, e_laws_markNodeS', e_laws_markText, Nat.reduceAdd, Nat.reduceSub, Nat.reduceMul, Nat.reduceLeDiff, Nat.reduceLT, Nat.reduceEqDiff, Nat.reduceBEq, ↓reduceIte, reduceCtorEq]
    repeat' first
      | with_reducible exact Ok_none
      | ((with_reducible refine Ok_ret ?_); first | rfl | (simp only [SSA, RS, e_laws_markNodeS', Nat.reduceAdd, Nat.reduceSub, Nat.reduceMul, Nat.reduceLeDiff, Nat.reduceLT, Nat.reduceEqDiff, Nat.reduceBEq, ↓reduceIte, reduceCtorEq]; done))
      | ((with_reducible refine Ok_tail (ih1 _ _ _) ?_); first | rfl | (simp only [SSA, RS, c_laws_markNodeS', Nat.reduceAdd, Nat.reduceSub, Nat.reduceMul, Nat.reduceLeDiff, Nat.reduceLT, Nat.reduceEqDiff, Nat.reduceBEq, ↓reduceIte, reduceCtorEq]; done) | (simp only [SSA, RS, c_laws_markNodeS', Nat.reduceAdd, Nat.reduceSub, Nat.reduceMul, Nat.reduceLeDiff, Nat.reduceLT, Nat.reduceEqDiff, Nat.reduceBEq, ↓reduceIte, reduceCtorEq]; rfl))
      | ((first | with_reducible refine Ok_if (fun h => ?_) (fun h => ?_) | with_reducible refine Ok_get fun a h => ?_ | with_reducible refine Ok_call (g0 _) fun v => ?_ | with_reducible refine Ok_call (g1 _ _) fun v => ?_ | with_reducible refine Ok_call (g2 _ _) fun v => ?_ | with_reducible refine Ok_call (g3 _ _) fun v => ?_ | refine Ok_call (g0 _) fun v => ?_ | refine Ok_call (g1 _ _) fun v => ?_ | refine Ok_call (g2 _ _) fun v => ?_ | refine Ok_call (g3 _ _) fun v => ?_) <;> simp only [SSA, RS, *, k_laws_markNodeS_r2, e_laws_markAttrS, e_laws_markDeclS, e_laws_markNodeS', e_laws_markText, Nat.reduceAdd, Nat.reduceSub, Nat.reduceMul, Nat.reduceLeDiff, Nat.reduceLT, Nat.reduceEqDiff, Nat.reduceBEq, ↓reduceIte, reduceCtorEq])
theorem laws_markNodeS'_ok (a : List (GNode)) (k : Int) : Ok (laws_markNodeS' a k) e_laws_markNodeS' (dn FTA n_laws_markNodeS [.ln (a.map (GNode.row true)), .t (.v (.int .i64 k))]) := G_laws_markNodeS'.1 a k
theorem laws_markNodeS'_l6_ok (a1 : List (GNode)) (k1 : Int) (i : Int) : Ok (laws_markNodeS'_l6 a1 k1 i) e_laws_markNodeS' (ev FTA c_laws_markNodeS' (.loop k_laws_markNodeS_l6) [.lv 0, .th k_laws_markNodeS_r2] (putS (List.replicate 73 .dead) [(0, .ref (0, 0) a1.length), (1, .t (.v (.int .i64 k1))), (5, .t (.v (.int .i64 i)))]) (putR (List.replicate 73 []) [(0, [.mem (a1.map (GNode.row true)) 0 true])])) := G_laws_markNodeS'.2 a1 k1 i

def e_laws_markNodeS (r : Int × List (GNode)) : Res := ⟨[.t (.v (.int .i64 r.1))], [some (r.2.map (GNode.row true))]⟩
def c_laws_markNodeS : Cx := ⟨2, [1, 0], [.tmp 4]⟩
theorem laws_markNodeS_l6_ok' : ∀ (a1 : List (GNode)) (k1 : Int) (i : Int), Ok (laws_markNodeS_l6 a1 k1 i) e_laws_markNodeS (ev FTA c_laws_markNodeS (.loop k_laws_markNodeS_l6) [.lv 0, .th k_laws_markNodeS_r2] (putS (List.replicate 73 .dead) [(0, .ref (0, 0) a1.length), (1, .t (.v (.int .i64 k1))), (5, .t (.v (.int .i64 i)))]) (putR (List.replicate 73 []) [(0, [.mem (a1.map (GNode.row true)) 0 true])])) := by
  unfold Ok
  refine laws_markNodeS_l6.partial_correctness _ ?_
  intro F ih a1 k1 i
  show Ok _ _ _
  have ih : ∀ (a1 : List (GNode)) (k1 : Int) (i : Int), Ok (F a1 k1 i) _ _ := ih
  rw [ev_loop]
  have g0 := laws_markText_ok; try simp only [SSA, RS, Nat.reduceAdd, Nat.reduceSub, Nat.reduceMul, Nat.reduceLeDiff, Nat.reduceLT, Nat.reduceEqDiff, Nat.reduceBEq, ↓reduceIte, reduceCtorEq] at g0
  have g1 := laws_markDeclS_ok; try simp only [SSA, RS, Nat.reduceAdd, Nat.reduceSub, Nat.reduceMul, Nat.reduceLeDiff, Nat.reduceLT, Nat.reduceEqDiff, Nat.reduceBEq, ↓reduceIte, reduceCtorEq] at g1
  have g2 := laws_markAttrS_ok; try simp only [SSA, RS, Nat.reduceAdd, Nat.reduceSub, Nat.reduceMul, Nat.reduceLeDiff, Nat.reduceLT, Nat.reduceEqDiff, Nat.reduceBEq, ↓reduceIte, reduceCtorEq] at g2
  have g3 := laws_markNodeS'_ok; try simp only [SSA, RS, Nat.reduceAdd, Nat.reduceSub, Nat.reduceMul, Nat.reduceLeDiff, Nat.reduceLT, Nat.reduceEqDiff, Nat.reduceBEq, ↓reduceIte, reduceCtorEq] at g3
  simp only [SSA, RS, c_laws_markNodeS, k_laws_markNodeS_l6, k_laws_markNodeS_r2, e_laws_markAttrS, e_laws_markDeclS, e_laws_markNodeS', e_laws_markText, Nat.reduceAdd, Nat.reduceSub, Nat.reduceMul, Nat.reduceLeDiff, Nat.reduceLT, Nat.reduceEqDiff, Nat.reduceBEq, ↓reduceIte, reduceCtorEq]
  repeat' first
    | with_reducible exact Ok_none
    | ((with_reducible refine Ok_ret ?_); first | rfl | (simp only [SSA, RS, e_laws_markNodeS, Nat.reduceAdd, Nat.reduceSub, Nat.reduceMul, Nat.reduceLeDiff, Nat.reduceLT, Nat.reduceEqDiff, Nat.reduceBEq, ↓reduceIte, reduceCtorEq]; done))
    | ((with_reducible refine Ok_tail (ih _ _ _) ?_); first | rfl | (simp only [SSA, RS, c_laws_markNodeS, Nat.reduceAdd, Nat.reduceSub, Nat.reduceMul, Nat.reduceLeDiff, Nat.reduceLT, Nat.reduceEqDiff, Nat.reduceBEq, ↓reduceIte, reduceCtorEq]; done) | (simp only [SSA, RS, c_laws_markNodeS, Nat.reduceAdd, Nat.reduceSub, Nat.reduceMul, Nat.reduceLeDiff, Nat.reduceLT, Nat.reduceEqDiff, Nat.reduceBEq, ↓reduceIte, reduceCtorEq]; rfl))
    | ((first | with_reducible refine Ok_if (fun h => ?_) (fun h => ?_) | with_reducible refine Ok_get fun a h => ?_ | with_reducible refine Ok_call (g0 _) fun v => ?_ | with_reducible refine Ok_call (g1 _ _) fun v => ?_ | with_reducible refine Ok_call (g2 _ _) fun v => ?_ | with_reducible refine Ok_call (g3 _ _) fun v => ?_ | refine Ok_call (g0 _) fun v => ?_ | refine Ok_call (g1 _ _) fun v => ?_ | refine Ok_call (g2 _ _) fun v => ?_ | refine Ok_call (g3 _ _) fun v => ?_) <;> simp only [SSA, RS, *, k_laws_markNodeS_r2, e_laws_markAttrS, e_laws_markDeclS, e_laws_markNodeS', e_laws_markText, Nat.reduceAdd, Nat.reduceSub, Nat.reduceMul, Nat.reduceLeDiff, Nat.reduceLT, Nat.reduceEqDiff, Nat.reduceBEq, ↓reduceIte, reduceCtorEq])
theorem laws_markNodeS_l6_ok (a1 : List (GNode)) (k1 : Int) (i : Int) : Ok (laws_markNodeS_l6 a1 k1 i) e_laws_markNodeS (ev FTA c_laws_markNodeS (.loop k_laws_markNodeS_l6) [.lv 0, .th k_laws_markNodeS_r2] (putS (List.replicate 73 .dead) [(0, .ref (0, 0) a1.length), (1, .t (.v (.int .i64 k1))), (5, .t (.v (.int .i64 i)))]) (putR (List.replicate 73 []) [(0, [.mem (a1.map (GNode.row true)) 0 true])])) := laws_markNodeS_l6_ok' a1 k1 i

theorem laws_markNodeS_ok : ∀ (a : List (GNode)) (k : Int), Ok (laws_markNodeS a k) e_laws_markNodeS (dn FTA n_laws_markNodeS [.ln (a.map (GNode.row true)), .t (.v (.int .i64 k))]) := by
  intro a k
  rw [den_ev FTA (fn := k_laws_markNodeS) rfl (cloneX_none rfl _) (Nat.le_of_ble_eq_true rfl)]
  simp only [SSA, RS, c_laws_markNodeS, k_laws_markNodeS, laws_markNodeS, Nat.reduceAdd, Nat.reduceSub, Nat.reduceMul, Nat.reduceLeDiff, Nat.reduceLT, Nat.reduceEqDiff, Nat.reduceBEq, ↓reduceIte, reduceCtorEq]
  repeat' first
    | with_reducible exact Ok_none
    | ((with_reducible refine Ok_ret ?_); first | rfl | (simp only [SSA, RS, e_laws_markNodeS, Nat.reduceAdd, Nat.reduceSub, Nat.reduceMul, Nat.reduceLeDiff, Nat.reduceLT, Nat.reduceEqDiff, Nat.reduceBEq, ↓reduceIte, reduceCtorEq]; done))
    | ((with_reducible refine Ok_tail (laws_markNodeS_l6_ok _ _ _) ?_); first | rfl | (simp only [SSA, RS, c_laws_markNodeS, Nat.reduceAdd, Nat.reduceSub, Nat.reduceMul, Nat.reduceLeDiff, Nat.reduceLT, Nat.reduceEqDiff, Nat.reduceBEq, ↓reduceIte, reduceCtorEq]; done) | (simp only [SSA, RS, c_laws_markNodeS, Nat.reduceAdd, Nat.reduceSub, Nat.reduceMul, Nat.reduceLeDiff, Nat.reduceLT, Nat.reduceEqDiff, Nat.reduceBEq, ↓reduceIte, reduceCtorEq]; rfl))

def e_laws_markIntS (r : Int × List (Int)) : Res := ⟨[.t (.v (.int .i64 r.1))], [some (r.2.map rI)]⟩
def c_laws_markIntS : Cx := ⟨2, [1, 0], [.tmp 4]⟩
theorem laws_markIntS_l6_ok' : ∀ (a1 : List (Int)) (k1 : Int) (i : Int), Ok (laws_markIntS_l6 a1 k1 i) e_laws_markIntS (ev FTA c_laws_markIntS (.loop k_laws_markIntS_l6) [.lv 0, .th k_laws_markIntS_r2] (putS (List.replicate 19 .dead) [(0, .ref (0, 0) a1.length), (1, .t (.v (.int .i64 k1))), (5, .t (.v (.int .i64 i)))]) (putR (List.replicate 19 []) [(0, [.mem (a1.map rI) 0 true])])) := by
  unfold Ok
  refine laws_markIntS_l6.partial_correctness _ ?_
  intro F ih a1 k1 i
  show Ok _ _ _
  have ih : ∀ (a1 : List (Int)) (k1 : Int) (i : Int), Ok (F a1 k1 i) _ _ := ih
  rw [ev_loop]
  simp only [SSA, RS, c_laws_markIntS, k_laws_markIntS_l6, k_laws_markIntS_r2, Nat.reduceAdd, Nat.reduceSub, Nat.reduceMul, Nat.reduceLeDiff, Nat.reduceLT, Nat.reduceEqDiff, Nat.reduceBEq, ↓reduceIte, reduceCtorEq]
  repeat' first
    | with_reducible exact Ok_none
    | ((with_reducible refine Ok_ret ?_); first | rfl | (simp only [SSA, RS, e_laws_markIntS, Nat.reduceAdd, Nat.reduceSub, Nat.reduceMul, Nat.reduceLeDiff, Nat.reduceLT, Nat.reduceEqDiff, Nat.reduceBEq, ↓reduceIte, reduceCtorEq]; done))
    | ((with_reducible refine Ok_tail (ih _ _ _) ?_); first | rfl | (simp only [SSA, RS, c_laws_markIntS, Nat.reduceAdd, Nat.reduceSub, Nat.reduceMul, Nat.reduceLeDiff, Nat.reduceLT, Nat.reduceEqDiff, Nat.reduceBEq, ↓reduceIte, reduceCtorEq]; done) | (simp only [SSA, RS, c_laws_markIntS, Nat.reduceAdd, Nat.reduceSub, Nat.reduceMul, Nat.reduceLeDiff, Nat.reduceLT, Nat.reduceEqDiff, Nat.reduceBEq, ↓reduceIte, reduceCtorEq]; rfl))
    | ((first | with_reducible refine Ok_if (fun h => ?_) (fun h => ?_) | with_reducible refine Ok_get fun a h => ?_) <;> simp only [SSA, RS, *, k_laws_markIntS_r2, Nat.reduceAdd, Nat.reduceSub, Nat.reduceMul, Nat.reduceLeDiff, Nat.reduceLT, Nat.reduceEqDiff, Nat.reduceBEq, ↓reduceIte, reduceCtorEq])
theorem laws_markIntS_l6_ok (a1 : List (Int)) (k1 : Int) (i : Int) : Ok (laws_markIntS_l6 a1 k1 i) e_laws_markIntS (ev FTA c_laws_markIntS (.loop k_laws_markIntS_l6) [.lv 0, .th k_laws_markIntS_r2] (putS (List.replicate 19 .dead) [(0, .ref (0, 0) a1.length), (1, .t (.v (.int .i64 k1))), (5, .t (.v (.int .i64 i)))]) (putR (List.replicate 19 []) [(0, [.mem (a1.map rI) 0 true])])) := laws_markIntS_l6_ok' a1 k1 i

theorem laws_markIntS_ok : ∀ (a : List (Int)) (k : Int), Ok (laws_markIntS a k) e_laws_markIntS (dn FTA n_laws_markIntS [.ln (a.map rI), .t (.v (.int .i64 k))]) := by
  intro a k
  rw [den_ev FTA (fn := k_laws_markIntS) rfl (cloneX_none rfl _) (Nat.le_of_ble_eq_true rfl)]
  simp only [SSA, RS, c_laws_markIntS, k_laws_markIntS, laws_markIntS, Nat.reduceAdd, Nat.reduceSub, Nat.reduceMul, Nat.reduceLeDiff, Nat.reduceLT, Nat.reduceEqDiff, Nat.reduceBEq, ↓reduceIte, reduceCtorEq]
  repeat' first
    | with_reducible exact Ok_none
    | ((with_reducible refine Ok_ret ?_); first | rfl | (simp only [SSA, RS, e_laws_markIntS, Nat.reduceAdd, Nat.reduceSub, Nat.reduceMul, Nat.reduceLeDiff, Nat.reduceLT, Nat.reduceEqDiff, Nat.reduceBEq, ↓reduceIte, reduceCtorEq]; done))
    | ((with_reducible refine Ok_tail (laws_markIntS_l6_ok _ _ _) ?_); first | rfl | (simp only [SSA, RS, c_laws_markIntS, Nat.reduceAdd, Nat.reduceSub, Nat.reduceMul, Nat.reduceLeDiff, Nat.reduceLT, Nat.reduceEqDiff, Nat.reduceBEq, ↓reduceIte, reduceCtorEq]; done) | (simp only [SSA, RS, c_laws_markIntS, Nat.reduceAdd, Nat.reduceSub, Nat.reduceMul, Nat.reduceLeDiff, Nat.reduceLT, Nat.reduceEqDiff, Nat.reduceBEq, ↓reduceIte, reduceCtorEq]; rfl))

def e_laws_heldIntS (r : Int) : Res := ⟨[.t (.v (.int .i64 r))], []⟩
def c_laws_heldIntS : Cx := ⟨2, [0, 0], [.tmp 4]⟩
theorem laws_heldIntS_l6_ok' (a : List Int) : ∀ (k1 : Int) (i : Int), Ok (laws_heldIntS_l6 a k1 i) e_laws_heldIntS (ev FTA c_laws_heldIntS (.loop k_laws_heldIntS_l6) [.lv 0, .th k_laws_heldIntS_r2] (putS (List.replicate 21 .dead) [(0, .t (.sl false (a.map rI))), (1, .t (.v (.int .i64 k1))), (5, .t (.v (.int .i64 i)))]) (putR (List.replicate 21 []) [])) := by
  unfold Ok
  refine laws_heldIntS_l6.partial_correctness a _ ?_
  intro F ih k1 i
  show Ok _ _ _
  have ih : ∀ (k1 : Int) (i : Int), Ok (F k1 i) _ _ := ih
  rw [ev_loop]
  simp only [SSA, RS, c_laws_heldIntS, k_laws_heldIntS_l6, k_laws_heldIntS_r2, Nat.reduceAdd, Nat.reduceSub, Nat.reduceMul, Nat.reduceLeDiff, Nat.reduceLT, Nat.reduceEqDiff, Nat.reduceBEq, ↓reduceIte, reduceCtorEq]
  repeat' first
    | with_reducible exact Ok_none
    | ((with_reducible refine Ok_ret ?_); first | rfl | (simp only [SSA, RS, e_laws_heldIntS, Nat.reduceAdd, Nat.reduceSub, Nat.reduceMul, Nat.reduceLeDiff, Nat.reduceLT, Nat.reduceEqDiff, Nat.reduceBEq, ↓reduceIte, reduceCtorEq]; done))
    | ((with_reducible refine Ok_tail (ih _ _) ?_); first | rfl | (simp only [SSA, RS, c_laws_heldIntS, Nat.reduceAdd, Nat.reduceSub, Nat.reduceMul, Nat.reduceLeDiff, Nat.reduceLT, Nat.reduceEqDiff, Nat.reduceBEq, ↓reduceIte, reduceCtorEq]; done) | (simp only [SSA, RS, c_laws_heldIntS, Nat.reduceAdd, Nat.reduceSub, Nat.reduceMul, Nat.reduceLeDiff, Nat.reduceLT, Nat.reduceEqDiff, Nat.reduceBEq, ↓reduceIte, reduceCtorEq]; rfl))
    | ((first | with_reducible refine Ok_if (fun h => ?_) (fun h => ?_) | with_reducible refine Ok_get fun a h => ?_) <;> simp only [SSA, RS, *, k_laws_heldIntS_r2, Nat.reduceAdd, Nat.reduceSub, Nat.reduceMul, Nat.reduceLeDiff, Nat.reduceLT, Nat.reduceEqDiff, Nat.reduceBEq, ↓reduceIte, reduceCtorEq])
theorem laws_heldIntS_l6_ok (a : List Int) (k1 : Int) (i : Int) : Ok (laws_heldIntS_l6 a k1 i) e_laws_heldIntS (ev FTA c_laws_heldIntS (.loop k_laws_heldIntS_l6) [.lv 0, .th k_laws_heldIntS_r2] (putS (List.replicate 21 .dead) [(0, .t (.sl false (a.map rI))), (1, .t (.v (.int .i64 k1))), (5, .t (.v (.int .i64 i)))]) (putR (List.replicate 21 []) [])) := laws_heldIntS_l6_ok' a k1 i

theorem laws_heldIntS_ok : ∀ (a : List Int) (k : Int), Ok (laws_heldIntS a k) e_laws_heldIntS (dn FTA n_laws_heldIntS [.t (.sl false (a.map rI)), .t (.v (.int .i64 k))]) := by
  intro a k
  rw [den_ev FTA (fn := k_laws_heldIntS) rfl (cloneX_none rfl _) (Nat.le_of_ble_eq_true rfl)]
  simp only [SSA, RS, c_laws_heldIntS, k_laws_heldIntS, laws_heldIntS, Nat.reduceAdd, Nat.reduceSub, Nat.reduceMul, Nat.reduceLeDiff, Nat.reduceLT, Nat.reduceEqDiff, Nat.reduceBEq, ↓reduceIte, reduceCtorEq]
  repeat' first
    | with_reducible exact Ok_none
    | ((with_reducible refine Ok_ret ?_); first | rfl | (simp only [SSA, RS, e_laws_heldIntS, Nat.reduceAdd, Nat.reduceSub, Nat.reduceMul, Nat.reduceLeDiff, Nat.reduceLT, Nat.reduceEqDiff, Nat.reduceBEq, ↓reduceIte, reduceCtorEq]; done))
    | ((with_reducible refine Ok_tail (laws_heldIntS_l6_ok _ _ _) ?_); first | rfl | (simp only [SSA, RS, c_laws_heldIntS, Nat.reduceAdd, Nat.reduceSub, Nat.reduceMul, Nat.reduceLeDiff, Nat.reduceLT, Nat.reduceEqDiff, Nat.reduceBEq, ↓reduceIte, reduceCtorEq]; done) | (simp only [SSA, RS, c_laws_heldIntS, Nat.reduceAdd, Nat.reduceSub, Nat.reduceMul, Nat.reduceLeDiff, Nat.reduceLT, Nat.reduceEqDiff, Nat.reduceBEq, ↓reduceIte, reduceCtorEq]; rfl))

def e_laws_FnExactAlign (r : Bool) : Res := ⟨[.t (.v (.bool r))], []⟩
def c_laws_FnExactAlign : Cx := ⟨2, [0, 0], [.tmp 4]⟩
theorem laws_FnExactAlign_ok : ∀ (aA : List GNode) (aB : List GNode), Ok (laws_FnExactAlign aA aB) e_laws_FnExactAlign (dn FTA n_laws_FnExactAlign [.t (.sl false (aA.map (GNode.row false))), .t (.sl false (aB.map (GNode.row false)))]) := by
  intro aA aB
  rw [den_ev FTA (fn := k_laws_FnExactAlign) rfl (cloneX_none rfl _) (Nat.le_of_ble_eq_true rfl)]
  have g0 := laws_szNodeS_ok; try simp only [SSA, RS, Nat.reduceAdd, Nat.reduceSub, Nat.reduceMul, Nat.reduceLeDiff, Nat.reduceLT, Nat.reduceEqDiff, Nat.reduceBEq, ↓reduceIte, reduceCtorEq] at g0
  have g1 := laws_toNodeS_ok; try simp only [SSA, RS, Nat.reduceAdd, Nat.reduceSub, Nat.reduceMul, Nat.reduceLeDiff, Nat.reduceLT, Nat.reduceEqDiff, Nat.reduceBEq, ↓reduceIte, reduceCtorEq] at g1
  have g2 := spec_Align_ok; try simp only [SSA, RS, Nat.reduceAdd, Nat.reduceSub, Nat.reduceMul, Nat.reduceLeDiff, Nat.reduceLT, Nat.reduceEqDiff, Nat.reduceBEq, ↓reduceIte, reduceCtorEq] at g2
  have g3 := impl_Align_ok; try simp only [SSA, RS, Nat.reduceAdd, Nat.reduceSub, Nat.reduceMul, Nat.reduceLeDiff, Nat.reduceLT, Nat.reduceEqDiff, Nat.reduceBEq, ↓reduceIte, reduceCtorEq] at g3
  have g4 := laws_eqIntS_ok; try simp only [SSA, RS, Nat.reduceAdd, Nat.reduceSub, Nat.reduceMul, Nat.reduceLeDiff, Nat.reduceLT, Nat.reduceEqDiff, Nat.reduceBEq, ↓reduceIte, reduceCtorEq] at g4
  have g5 := laws_eqNodeS_ok; try simp only [SSA, RS, Nat.reduceAdd, Nat.reduceSub, Nat.reduceMul, Nat.reduceLeDiff, Nat.reduceLT, Nat.reduceEqDiff, Nat.reduceBEq, ↓reduceIte, reduceCtorEq] at g5
  have g6 := laws_markNodeS_ok; try simp only [SSA, RS, Nat.reduceAdd, Nat.reduceSub, Nat.reduceMul, Nat.reduceLeDiff, Nat.reduceLT, Nat.reduceEqDiff, Nat.reduceBEq, ↓reduceIte, reduceCtorEq] at g6
  have g7 := laws_markIntS_ok; try simp only [SSA, RS, Nat.reduceAdd, Nat.reduceSub, Nat.reduceMul, Nat.reduceLeDiff, Nat.reduceLT, Nat.reduceEqDiff, Nat.reduceBEq, ↓reduceIte, reduceCtorEq] at g7
  have g8 := laws_heldIntS_ok; try simp only [SSA, RS, Nat.reduceAdd, Nat.reduceSub, Nat.reduceMul, Nat.reduceLeDiff, Nat.reduceLT, Nat.reduceEqDiff, Nat.reduceBEq, ↓reduceIte, reduceCtorEq] at g8
  simp only [SSA, RS, c_laws_FnExactAlign, k_laws_FnExactAlign, laws_FnExactAlign, e_impl_Align, e_laws_eqIntS, e_laws_eqNodeS, e_laws_heldIntS, e_laws_markIntS, e_laws_markNodeS, e_laws_szNodeS, e_laws_toNodeS, e_spec_Align, Nat.reduceAdd, Nat.reduceSub, Nat.reduceMul, Nat.reduceLeDiff, Nat.reduceLT, Nat.reduceEqDiff, Nat.reduceBEq, ↓reduceIte, reduceCtorEq]
  repeat' first
    | with_reducible exact Ok_none
    | ((with_reducible refine Ok_ret ?_); first | rfl | (simp only [SSA, RS, e_laws_FnExactAlign, Nat.reduceAdd, Nat.reduceSub, Nat.reduceMul, Nat.reduceLeDiff, Nat.reduceLT, Nat.reduceEqDiff, Nat.reduceBEq, ↓reduceIte, reduceCtorEq]; done))
    | ((first | with_reducible refine Ok_if (fun h => ?_) (fun h => ?_) | with_reducible refine Ok_call (g0 _ _) fun v => ?_ | with_reducible refine Ok_call (g1 _) fun v => ?_ | with_reducible refine Ok_call (g2 _ _) fun v => ?_ | with_reducible refine Ok_call (g3 _ _) fun v => ?_ | with_reducible refine Ok_call (g4 _ _) fun v => ?_ | with_reducible refine Ok_call (g5 _ _) fun v => ?_ | with_reducible refine Ok_call (g6 _ _) fun v => ?_ | with_reducible refine Ok_call (g7 _ _) fun v => ?_ | with_reducible refine Ok_call (g8 _ _) fun v => ?_ | with_reducible refine Ok_same fun h => ?_ | refine Ok_call (g0 _ _) fun v => ?_ | refine Ok_call (g1 _) fun v => ?_ | refine Ok_call (g2 _ _) fun v => ?_ | refine Ok_call (g3 _ _) fun v => ?_ | refine Ok_call (g4 _ _) fun v => ?_ | refine Ok_call (g5 _ _) fun v => ?_ | refine Ok_call (g6 _ _) fun v => ?_ | refine Ok_call (g7 _ _) fun v => ?_ | refine Ok_call (g8 _ _) fun v => ?_) <;> simp only [SSA, RS, *, e_impl_Align, e_laws_eqIntS, e_laws_eqNodeS, e_laws_heldIntS, e_laws_markIntS, e_laws_markNodeS, e_laws_szNodeS, e_laws_toNodeS, e_spec_Align, Nat.reduceAdd, Nat.reduceSub, Nat.reduceMul, Nat.reduceLeDiff, Nat.reduceLT, Nat.reduceEqDiff, Nat.reduceBEq, ↓reduceIte, reduceCtorEq])

end TT
