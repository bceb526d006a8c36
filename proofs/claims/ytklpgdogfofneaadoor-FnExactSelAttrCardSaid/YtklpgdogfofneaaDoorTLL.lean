import Derived.Test.YtklpgdogfofneaaDoorTKK
import Derived.Test.YtklpgdogfofneaaDoorTDefs
set_option linter.unusedVariables false
set_option linter.unusedSimpArgs false
set_option linter.defProp false
set_option maxRecDepth 100000
namespace TT
open Go
def e_laws_szDecl (r : Int) : Res := ⟨[.t (.v (.int .i64 r))], []⟩
def c_laws_szDecl : Cx := ⟨2, [0, 0], [.tmp 4]⟩
theorem laws_szDecl_ok : ∀ (a : GDecl) (left : Int), Ok (laws_szDecl a left) e_laws_szDecl (dn FTA n_laws_szDecl [.agg ((GDecl.row a).map .t), .t (.v (.int .i64 left))]) := by
  intro a left
  rw [den_ev FTA (fn := k_laws_szDecl) rfl (xOf_none rfl rfl _) (Nat.le_of_ble_eq_true rfl)]
  simp only [SSA, RS, c_laws_szDecl, k_laws_szDecl, laws_szDecl, Nat.reduceAdd, Nat.reduceSub, Nat.reduceMul, Nat.reduceLeDiff, Nat.reduceLT, Nat.reduceEqDiff, Nat.reduceBEq, ↓reduceIte, reduceCtorEq]
  repeat' first
    | with_reducible exact Ok_none
    | ((with_reducible refine Ok_ret ?_); first | rfl | (simp only [SSA, RS, e_laws_szDecl, Nat.reduceAdd, Nat.reduceSub, Nat.reduceMul, Nat.reduceLeDiff, Nat.reduceLT, Nat.reduceEqDiff, Nat.reduceBEq, ↓reduceIte, reduceCtorEq]; done))
    | ((first | with_reducible refine Ok_if (fun h => ?_) (fun h => ?_)) <;> simp only [SSA, RS, *, Nat.reduceAdd, Nat.reduceSub, Nat.reduceMul, Nat.reduceLeDiff, Nat.reduceLT, Nat.reduceEqDiff, Nat.reduceBEq, ↓reduceIte, reduceCtorEq])

def e_laws_szDeclS (r : Int) : Res := ⟨[.t (.v (.int .i64 r))], []⟩
def c_laws_szDeclS : Cx := ⟨2, [0, 0], [.tmp 4]⟩
theorem laws_szDeclS_l16_ok' (a : List GDecl) : ∀ (left1 : Int) (i : Int), Ok (laws_szDeclS_l16 a left1 i) e_laws_szDeclS (ev FTA c_laws_szDeclS (.loop k_laws_szDeclS_l16) [.lv 0, .th k_laws_szDeclS_r12] (putS (List.replicate 27 .dead) [(0, .t (.sl false (a.map GDecl.row))), (1, .t (.v (.int .i64 left1))), (5, .t (.v (.int .i64 i)))]) (putR (List.replicate 27 []) [])) := by
  unfold Ok
  refine laws_szDeclS_l16.partial_correctness a _ ?_
  intro F ih left1 i
  show Ok _ _ _
  have ih : ∀ (left1 : Int) (i : Int), Ok (F left1 i) _ _ := ih
  rw [ev_loop]
  have g0 := laws_szDecl_ok; try simp only [SSA, RS, Nat.reduceAdd, Nat.reduceSub, Nat.reduceMul, Nat.reduceLeDiff, Nat.reduceLT, Nat.reduceEqDiff, Nat.reduceBEq, ↓reduceIte, reduceCtorEq] at g0
  simp only [SSA, RS, c_laws_szDeclS, k_laws_szDeclS_l16, k_laws_szDeclS_r12, e_laws_szDecl, Nat.reduceAdd, Nat.reduceSub, Nat.reduceMul, Nat.reduceLeDiff, Nat.reduceLT, Nat.reduceEqDiff, Nat.reduceBEq, ↓reduceIte, reduceCtorEq]
  repeat' first
    | with_reducible exact Ok_none
    | ((with_reducible refine Ok_ret ?_); first | rfl | (simp only [SSA, RS, e_laws_szDeclS, Nat.reduceAdd, Nat.reduceSub, Nat.reduceMul, Nat.reduceLeDiff, Nat.reduceLT, Nat.reduceEqDiff, Nat.reduceBEq, ↓reduceIte, reduceCtorEq]; done))
    | ((with_reducible refine Ok_tail (ih _ _) ?_); first | rfl | (simp only [SSA, RS, c_laws_szDeclS, Nat.reduceAdd, Nat.reduceSub, Nat.reduceMul, Nat.reduceLeDiff, Nat.reduceLT, Nat.reduceEqDiff, Nat.reduceBEq, ↓reduceIte, reduceCtorEq]; done) | (simp only [SSA, RS, c_laws_szDeclS, Nat.reduceAdd, Nat.reduceSub, Nat.reduceMul, Nat.reduceLeDiff, Nat.reduceLT, Nat.reduceEqDiff, Nat.reduceBEq, ↓reduceIte, reduceCtorEq]; rfl))
    | ((first | with_reducible refine Ok_if (fun h => ?_) (fun h => ?_) | with_reducible refine Ok_get fun a h => ?_ | with_reducible refine Ok_call (g0 _ _) fun v => ?_ | refine Ok_call (g0 _ _) fun v => ?_) <;> simp only [SSA, RS, *, k_laws_szDeclS_r12, e_laws_szDecl, Nat.reduceAdd, Nat.reduceSub, Nat.reduceMul, Nat.reduceLeDiff, Nat.reduceLT, Nat.reduceEqDiff, Nat.reduceBEq, ↓reduceIte, reduceCtorEq])
theorem laws_szDeclS_l16_ok (a : List GDecl) (left1 : Int) (i : Int) : Ok (laws_szDeclS_l16 a left1 i) e_laws_szDeclS (ev FTA c_laws_szDeclS (.loop k_laws_szDeclS_l16) [.lv 0, .th k_laws_szDeclS_r12] (putS (List.replicate 27 .dead) [(0, .t (.sl false (a.map GDecl.row))), (1, .t (.v (.int .i64 left1))), (5, .t (.v (.int .i64 i)))]) (putR (List.replicate 27 []) [])) := laws_szDeclS_l16_ok' a left1 i

theorem laws_szDeclS_ok : ∀ (a : List GDecl) (left : Int), Ok (laws_szDeclS a left) e_laws_szDeclS (dn FTA n_laws_szDeclS [.t (.sl false (a.map GDecl.row)), .t (.v (.int .i64 left))]) := by
  intro a left
  rw [den_ev FTA (fn := k_laws_szDeclS) rfl (xOf_none rfl rfl _) (Nat.le_of_ble_eq_true rfl)]
  simp only [SSA, RS, c_laws_szDeclS, k_laws_szDeclS, laws_szDeclS, Nat.reduceAdd, Nat.reduceSub, Nat.reduceMul, Nat.reduceLeDiff, Nat.reduceLT, Nat.reduceEqDiff, Nat.reduceBEq, ↓reduceIte, reduceCtorEq]
  repeat' first
    | with_reducible exact Ok_none
    | ((with_reducible refine Ok_ret ?_); first | rfl | (simp only [SSA, RS, e_laws_szDeclS, Nat.reduceAdd, Nat.reduceSub, Nat.reduceMul, Nat.reduceLeDiff, Nat.reduceLT, Nat.reduceEqDiff, Nat.reduceBEq, ↓reduceIte, reduceCtorEq]; done))
    | ((with_reducible refine Ok_tail (laws_szDeclS_l16_ok _ _ _) ?_); first | rfl | (simp only [SSA, RS, c_laws_szDeclS, Nat.reduceAdd, Nat.reduceSub, Nat.reduceMul, Nat.reduceLeDiff, Nat.reduceLT, Nat.reduceEqDiff, Nat.reduceBEq, ↓reduceIte, reduceCtorEq]; done) | (simp only [SSA, RS, c_laws_szDeclS, Nat.reduceAdd, Nat.reduceSub, Nat.reduceMul, Nat.reduceLeDiff, Nat.reduceLT, Nat.reduceEqDiff, Nat.reduceBEq, ↓reduceIte, reduceCtorEq]; rfl))
    | ((first | with_reducible refine Ok_if (fun h => ?_) (fun h => ?_)) <;> simp only [SSA, RS, *, Nat.reduceAdd, Nat.reduceSub, Nat.reduceMul, Nat.reduceLeDiff, Nat.reduceLT, Nat.reduceEqDiff, Nat.reduceBEq, ↓reduceIte, reduceCtorEq])

def e_laws_szAttr (r : Int) : Res := ⟨[.t (.v (.int .i64 r))], []⟩
def c_laws_szAttr : Cx := ⟨2, [0, 0], [.tmp 4]⟩
theorem laws_szAttr_ok : ∀ (a : GAttr) (left : Int), Ok (laws_szAttr a left) e_laws_szAttr (dn FTA n_laws_szAttr [.agg ((GAttr.row a).map .t), .t (.v (.int .i64 left))]) := by
  intro a left
  rw [den_ev FTA (fn := k_laws_szAttr) rfl (xOf_none rfl rfl _) (Nat.le_of_ble_eq_true rfl)]
  simp only [SSA, RS, c_laws_szAttr, k_laws_szAttr, laws_szAttr, Nat.reduceAdd, Nat.reduceSub, Nat.reduceMul, Nat.reduceLeDiff, Nat.reduceLT, Nat.reduceEqDiff, Nat.reduceBEq, ↓reduceIte, reduceCtorEq]
  repeat' first
    | with_reducible exact Ok_none
    | ((with_reducible refine Ok_ret ?_); first | rfl | (simp only [SSA, RS, e_laws_szAttr, Nat.reduceAdd, Nat.reduceSub, Nat.reduceMul, Nat.reduceLeDiff, Nat.reduceLT, Nat.reduceEqDiff, Nat.reduceBEq, ↓reduceIte, reduceCtorEq]; done))
    | ((first | with_reducible refine Ok_if (fun h => ?_) (fun h => ?_)) <;> simp only [SSA, RS, *, Nat.reduceAdd, Nat.reduceSub, Nat.reduceMul, Nat.reduceLeDiff, Nat.reduceLT, Nat.reduceEqDiff, Nat.reduceBEq, ↓reduceIte, reduceCtorEq])

def e_laws_szAttrS (r : Int) : Res := ⟨[.t (.v (.int .i64 r))], []⟩
def c_laws_szAttrS : Cx := ⟨2, [0, 0], [.tmp 4]⟩
theorem laws_szAttrS_l16_ok' (a : List GAttr) : ∀ (left1 : Int) (i : Int), Ok (laws_szAttrS_l16 a left1 i) e_laws_szAttrS (ev FTA c_laws_szAttrS (.loop k_laws_szAttrS_l16) [.lv 0, .th k_laws_szAttrS_r12] (putS (List.replicate 27 .dead) [(0, .t (.sl false (a.map GAttr.row))), (1, .t (.v (.int .i64 left1))), (5, .t (.v (.int .i64 i)))]) (putR (List.replicate 27 []) [])) := by
  unfold Ok
  refine laws_szAttrS_l16.partial_correctness a _ ?_
  intro F ih left1 i
  show Ok _ _ _
  have ih : ∀ (left1 : Int) (i : Int), Ok (F left1 i) _ _ := ih
  rw [ev_loop]
  have g0 := laws_szAttr_ok; try simp only [SSA, RS, Nat.reduceAdd, Nat.reduceSub, Nat.reduceMul, Nat.reduceLeDiff, Nat.reduceLT, Nat.reduceEqDiff, Nat.reduceBEq, ↓reduceIte, reduceCtorEq] at g0
  simp only [SSA, RS, c_laws_szAttrS, k_laws_szAttrS_l16, k_laws_szAttrS_r12, e_laws_szAttr, Nat.reduceAdd, Nat.reduceSub, Nat.reduceMul, Nat.reduceLeDiff, Nat.reduceLT, Nat.reduceEqDiff, Nat.reduceBEq, ↓reduceIte, reduceCtorEq]
  repeat' first
    | with_reducible exact Ok_none
    | ((with_reducible refine Ok_ret ?_); first | rfl | (simp only [SSA, RS, e_laws_szAttrS, Nat.reduceAdd, Nat.reduceSub, Nat.reduceMul, Nat.reduceLeDiff, Nat.reduceLT, Nat.reduceEqDiff, Nat.reduceBEq, ↓reduceIte, reduceCtorEq]; done))
    | ((with_reducible refine Ok_tail (ih _ _) ?_); first | rfl | (simp only [SSA, RS, c_laws_szAttrS, Nat.reduceAdd, Nat.reduceSub, Nat.reduceMul, Nat.reduceLeDiff, Nat.reduceLT, Nat.reduceEqDiff, Nat.reduceBEq, ↓reduceIte, reduceCtorEq]; done) | (simp only [SSA, RS, c_laws_szAttrS, Nat.reduceAdd, Nat.reduceSub, Nat.reduceMul, Nat.reduceLeDiff, Nat.reduceLT, Nat.reduceEqDiff, Nat.reduceBEq, ↓reduceIte, reduceCtorEq]; rfl))
    | ((first | with_reducible refine Ok_if (fun h => ?_) (fun h => ?_) | with_reducible refine Ok_get fun a h => ?_ | with_reducible refine Ok_call (g0 _ _) fun v => ?_ | refine Ok_call (g0 _ _) fun v => ?_) <;> simp only [SSA, RS, *, k_laws_szAttrS_r12, e_laws_szAttr, Nat.reduceAdd, Nat.reduceSub, Nat.reduceMul, Nat.reduceLeDiff, Nat.reduceLT, Nat.reduceEqDiff, Nat.reduceBEq, ↓reduceIte, reduceCtorEq])
theorem laws_szAttrS_l16_ok (a : List GAttr) (left1 : Int) (i : Int) : Ok (laws_szAttrS_l16 a left1 i) e_laws_szAttrS (ev FTA c_laws_szAttrS (.loop k_laws_szAttrS_l16) [.lv 0, .th k_laws_szAttrS_r12] (putS (List.replicate 27 .dead) [(0, .t (.sl false (a.map GAttr.row))), (1, .t (.v (.int .i64 left1))), (5, .t (.v (.int .i64 i)))]) (putR (List.replicate 27 []) [])) := laws_szAttrS_l16_ok' a left1 i

theorem laws_szAttrS_ok : ∀ (a : List GAttr) (left : Int), Ok (laws_szAttrS a left) e_laws_szAttrS (dn FTA n_laws_szAttrS [.t (.sl false (a.map GAttr.row)), .t (.v (.int .i64 left))]) := by
  intro a left
  rw [den_ev FTA (fn := k_laws_szAttrS) rfl (xOf_none rfl rfl _) (Nat.le_of_ble_eq_true rfl)]
  simp only [SSA, RS, c_laws_szAttrS, k_laws_szAttrS, laws_szAttrS, Nat.reduceAdd, Nat.reduceSub, Nat.reduceMul, Nat.reduceLeDiff, Nat.reduceLT, Nat.reduceEqDiff, Nat.reduceBEq, ↓reduceIte, reduceCtorEq]
  repeat' first
    | with_reducible exact Ok_none
    | ((with_reducible refine Ok_ret ?_); first | rfl | (simp only [SSA, RS, e_laws_szAttrS, Nat.reduceAdd, Nat.reduceSub, Nat.reduceMul, Nat.reduceLeDiff, Nat.reduceLT, Nat.reduceEqDiff, Nat.reduceBEq, ↓reduceIte, reduceCtorEq]; done))
    | ((with_reducible refine Ok_tail (laws_szAttrS_l16_ok _ _ _) ?_); first | rfl | (simp only [SSA, RS, c_laws_szAttrS, Nat.reduceAdd, Nat.reduceSub, Nat.reduceMul, Nat.reduceLeDiff, Nat.reduceLT, Nat.reduceEqDiff, Nat.reduceBEq, ↓reduceIte, reduceCtorEq]; done) | (simp only [SSA, RS, c_laws_szAttrS, Nat.reduceAdd, Nat.reduceSub, Nat.reduceMul, Nat.reduceLeDiff, Nat.reduceLT, Nat.reduceEqDiff, Nat.reduceBEq, ↓reduceIte, reduceCtorEq]; rfl))
    | ((first | with_reducible refine Ok_if (fun h => ?_) (fun h => ?_)) <;> simp only [SSA, RS, *, Nat.reduceAdd, Nat.reduceSub, Nat.reduceMul, Nat.reduceLeDiff, Nat.reduceLT, Nat.reduceEqDiff, Nat.reduceBEq, ↓reduceIte, reduceCtorEq])

def e_laws_szNode (r : Int) : Res := ⟨[.t (.v (.int .i64 r))], []⟩
def c_laws_szNode : Cx := ⟨2, [0, 0], [.tmp 4]⟩
def e_laws_szNodeS (r : Int) : Res := ⟨[.t (.v (.int .i64 r))], []⟩
def c_laws_szNodeS : Cx := ⟨2, [0, 0], [.tmp 4]⟩
theorem G_laws_szNode : (∀ (a : GNode) (left : Int), Ok (laws_szNode a left) e_laws_szNode (dn FTA n_laws_szNode [.agg (((GNode.row false) a).map .t), .t (.v (.int .i64 left))])) ∧
    (∀ (a : List GNode) (left : Int), Ok (laws_szNodeS a left) e_laws_szNodeS (dn FTA n_laws_szNodeS [.t (.sl false (a.map (GNode.row false))), .t (.v (.int .i64 left))])) ∧
    (∀ (a : List GNode) (left1 : Int) (i : Int), Ok (laws_szNodeS_l16 a left1 i) e_laws_szNodeS (ev FTA c_laws_szNodeS (.loop k_laws_szNodeS_l16) [.lv 0, .th k_laws_szNodeS_r12] (putS (List.replicate 27 .dead) [(0, .t (.sl false (a.map (GNode.row false)))), (1, .t (.v (.int .i64 left1))), (5, .t (.v (.int .i64 i)))]) (putR (List.replicate 27 []) []))) := by
  unfold Ok
  refine laws_szNode.mutual_partial_correctness _ _ _ ?_ ?_ ?_ 
  · intro F1 ih1 a left
    show Ok _ _ _
    have ih1 : ∀ (a : List GNode) (left : Int), Ok (F1 a left) _ _ := ih1
    rw [den_ev FTA (fn := k_laws_szNode) rfl (xOf_none rfl rfl _) (Nat.le_of_ble_eq_true rfl)]
    have g0 := laws_szDeclS_ok; try simp only [SSA, RS, Nat.reduceAdd, Nat.reduceSub, Nat.reduceMul, Nat.reduceLeDiff, Nat.reduceLT, Nat.reduceEqDiff, Nat.reduceBEq, ↓reduceIte, reduceCtorEq] at g0
    have g1 := laws_szAttrS_ok; try simp only [SSA, RS, Nat.reduceAdd, Nat.reduceSub, Nat.reduceMul, Nat.reduceLeDiff, Nat.reduceLT, Nat.reduceEqDiff, Nat.reduceBEq, ↓reduceIte, reduceCtorEq] at g1
    have g2 := ih1; try simp only [SSA, RS, Nat.reduceAdd, Nat.reduceSub, Nat.reduceMul, Nat.reduceLeDiff, Nat.reduceLT, Nat.reduceEqDiff, Nat.reduceBEq, ↓reduceIte, reduceCtorEq] at g2
    simp only [SSA, RS, c_laws_szNode, k_laws_szNode, e_laws_szAttrS, e_laws_szDeclS, e_laws_szNodeS, Nat.reduceAdd, Nat.reduceSub, Nat.reduceMul, Nat.reduceLeDiff, Nat.reduceLT, Nat.reduceEqDiff, Nat.reduceBEq, ↓reduceIte, reduceCtorEq]
    repeat' first
      | with_reducible exact Ok_none
      | ((with_reducible refine Ok_ret ?_); first | rfl | (simp only [SSA, RS, e_laws_szNode, Nat.reduceAdd, Nat.reduceSub, Nat.reduceMul, Nat.reduceLeDiff, Nat.reduceLT, Nat.reduceEqDiff, Nat.reduceBEq, ↓reduceIte, reduceCtorEq]; done))
      | ((first | with_reducible refine Ok_if (fun h => ?_) (fun h => ?_) | with_reducible refine Ok_call (g0 _ _) fun v => ?_ | with_reducible refine Ok_call (g1 _ _) fun v => ?_ | with_reducible refine Ok_call (g2 _ _) fun v => ?_ | refine Ok_call (g0 _ _) fun v => ?_ | refine Ok_call (g1 _ _) fun v => ?_ | refine Ok_call (g2 _ _) fun v => ?_) <;> simp only [SSA, RS, *, e_laws_szAttrS, e_laws_szDeclS, e_laws_szNodeS, Nat.reduceAdd, Nat.reduceSub, Nat.reduceMul, Nat.reduceLeDiff, Nat.reduceLT, Nat.reduceEqDiff, Nat.reduceBEq, ↓reduceIte, reduceCtorEq])
  · intro F2 ih2 a left
    show Ok _ _ _
    have ih2 : ∀ (a : List GNode) (left1 : Int) (i : Int), Ok (F2 a left1 i) _ _ := ih2
    rw [den_ev FTA (fn := k_laws_szNodeS) rfl (xOf_none rfl rfl _) (Nat.le_of_ble_eq_true rfl)]
    simp only [SSA, RS, c_laws_szNodeS, k_laws_szNodeS, Nat.reduceAdd, Nat.reduceSub, Nat.reduceMul, Nat.reduceLeDiff, Nat.reduceLT, Nat.reduceEqDiff, Nat.reduceBEq, ↓reduceIte, reduceCtorEq]
    repeat' first
      | with_reducible exact Ok_none
      | ((with_reducible refine Ok_ret ?_); first | rfl | (simp only [SSA, RS, e_laws_szNodeS, Nat.reduceAdd, Nat.reduceSub, Nat.reduceMul, Nat.reduceLeDiff, Nat.reduceLT, Nat.reduceEqDiff, Nat.reduceBEq, ↓reduceIte, reduceCtorEq]; done))
      | ((with_reducible refine Ok_tail (ih2 _ _ _) ?_); first | rfl | (simp only [SSA, RS, c_laws_szNodeS, Nat.reduceAdd, Nat.reduceSub, Nat.reduceMul, Nat.reduceLeDiff, Nat.reduceLT, Nat.reduceEqDiff, Nat.reduceBEq, ↓reduceIte, reduceCtorEq]; done) | (simp only [SSA, RS, c_laws_szNodeS, Nat.reduceAdd, Nat.reduceSub, Nat.reduceMul, Nat.reduceLeDiff, Nat.reduceLT, Nat.reduceEqDiff, Nat.reduceBEq, ↓reduceIte, reduceCtorEq]; rfl))
      | ((first | with_reducible refine Ok_if (fun h => ?_) (fun h => ?_)) <;> simp only [SSA, RS, *, Nat.reduceAdd, Nat.reduceSub, Nat.reduceMul, Nat.reduceLeDiff, Nat.reduceLT, Nat.reduceEqDiff, Nat.reduceBEq, ↓reduceIte, reduceCtorEq])
  · intro F0 F2 ih0 ih2 a left1 i
    show Ok _ _ _
    have ih0 : ∀ (a : GNode) (left : Int), Ok (F0 a left) _ _ := ih0
    have ih2 : ∀ (a : List GNode) (left1 : Int) (i : Int), Ok (F2 a left1 i) _ _ := ih2
    rw [ev_loop]
    have g0 := ih0; try simp only [SSA, RS, Nat.reduceAdd, Nat.reduceSub, Nat.reduceMul, Nat.reduceLeDiff, Nat.reduceLT, Nat.reduceEqDiff, Nat.reduceBEq, ↓reduceIte, reduceCtorEq] at g0
    simp only [SSA, RS, c_laws_szNodeS, k_laws_szNodeS_l16, k_laws_szNodeS_r12, e_laws_szNode, Nat.reduceAdd, Nat.reduceSub, Nat.reduceMul, Nat.reduceLeDiff, Nat.reduceLT, Nat.reduceEqDiff, Nat.reduceBEq, ↓reduceIte, reduceCtorEq]
    repeat' first
      | with_reducible exact Ok_none
      | ((with_reducible refine Ok_ret ?_); first | rfl | (simp only [SSA, RS, e_laws_szNodeS, Nat.reduceAdd, Nat.reduceSub, Nat.reduceMul, Nat.reduceLeDiff, Nat.reduceLT, Nat.reduceEqDiff, Nat.reduceBEq, ↓reduceIte, reduceCtorEq]; done))
      | ((with_reducible refine Ok_tail (ih2 _ _ _) ?_); first | rfl | (simp only [SSA, RS, c_laws_szNodeS, Nat.reduceAdd, Nat.reduceSub, Nat.reduceMul, Nat.reduceLeDiff, Nat.reduceLT, Nat.reduceEqDiff, Nat.reduceBEq, ↓reduceIte, reduceCtorEq]; done) | (simp only [SSA, RS, c_laws_szNodeS, Nat.reduceAdd, Nat.reduceSub, Nat.reduceMul, Nat.reduceLeDiff, Nat.reduceLT, Nat.reduceEqDiff, Nat.reduceBEq, ↓reduceIte, reduceCtorEq]; rfl))
      | ((first | with_reducible refine Ok_if (fun h => ?_) (fun h => ?_) | with_reducible refine Ok_get fun a h => ?_ | with_reducible refine Ok_call (g0 _ _) fun v => ?_ | refine Ok_call (g0 _ _) fun v => ?_) <;> simp only [SSA, RS, *, k_laws_szNodeS_r12, e_laws_szNode, Nat.reduceAdd, Nat.reduceSub, Nat.reduceMul, Nat.reduceLeDiff, Nat.reduceLT, Nat.reduceEqDiff, Nat.reduceBEq, ↓reduceIte, reduceCtorEq])
theorem laws_szNode_ok (a : GNode) (left : Int) : Ok (laws_szNode a left) e_laws_szNode (dn FTA n_laws_szNode [.agg (((GNode.row false) a).map .t), .t (.v (.int .i64 left))]) := G_laws_szNode.1 a left
theorem laws_szNodeS_ok (a : List GNode) (left : Int) : Ok (laws_szNodeS a left) e_laws_szNodeS (dn FTA n_laws_szNodeS [.t (.sl false (a.map (GNode.row false))), .t (.v (.int .i64 left))]) := G_laws_szNode.2.1 a left
theorem laws_szNodeS_l16_ok (a : List GNode) (left1 : Int) (i : Int) : Ok (laws_szNodeS_l16 a left1 i) e_laws_szNodeS (ev FTA c_laws_szNodeS (.loop k_laws_szNodeS_l16) [.lv 0, .th k_laws_szNodeS_r12] (putS (List.replicate 27 .dead) [(0, .t (.sl false (a.map (GNode.row false)))), (1, .t (.v (.int .i64 left1))), (5, .t (.v (.int .i64 i)))]) (putR (List.replicate 27 []) [])) := G_laws_szNode.2.2 a left1 i

def e_laws_toDecl (r : GDecl) : Res := ⟨[.agg [.v (.string r.Pre), .v (.string r.Uri)]], []⟩
def c_laws_toDecl : Cx := ⟨1, [0], [.cell 2 2 true]⟩
theorem laws_toDecl_ok : ∀ (a : GDecl), Ok (laws_toDecl a) e_laws_toDecl (dn FTA n_laws_toDecl [.agg ((GDecl.row a).map .t)]) := by
  intro a
  rw [den_ev FTA (fn := k_laws_toDecl) rfl (xOf_none rfl rfl _) (Nat.le_of_ble_eq_true rfl)]
  simp only [SSA, RS, c_laws_toDecl, k_laws_toDecl, laws_toDecl, Nat.reduceAdd, Nat.reduceSub, Nat.reduceMul, Nat.reduceLeDiff, Nat.reduceLT, Nat.reduceEqDiff, Nat.reduceBEq, ↓reduceIte, reduceCtorEq]
  repeat' first
    | with_reducible exact Ok_none
    | ((with_reducible refine Ok_ret ?_); first | rfl | (simp only [SSA, RS, e_laws_toDecl, Nat.reduceAdd, Nat.reduceSub, Nat.reduceMul, Nat.reduceLeDiff, Nat.reduceLT, Nat.reduceEqDiff, Nat.reduceBEq, ↓reduceIte, reduceCtorEq]; done))

def e_laws_toDeclS (r : List GDecl) : Res := ⟨[.t (.sl true (r.map GDecl.row))], []⟩
def c_laws_toDeclS : Cx := ⟨1, [0], [.tmp 2]⟩
theorem laws_toDeclS_l8_ok' (a : List GDecl) : ∀ (out : List (GDecl)) (i : Int), Ok (laws_toDeclS_l8 a out i) e_laws_toDeclS (ev FTA c_laws_toDeclS (.loop k_laws_toDeclS_l8) [.lv 0, .th k_laws_toDeclS_r4] (putS (List.replicate 23 .dead) [(0, .t (.sl false (a.map GDecl.row))), (3, .ref (7, 0) out.length), (4, .t (.v (.int .i64 i)))]) (putR (List.replicate 23 []) [(7, [.mem (out.map GDecl.row) 0 false])])) := by
  unfold Ok
  refine laws_toDeclS_l8.partial_correctness a _ ?_
  intro F ih out i
  show Ok _ _ _
  have ih : ∀ (out : List (GDecl)) (i : Int), Ok (F out i) _ _ := ih
  rw [ev_loop]
  have g0 := laws_toDecl_ok; try simp only [SSA, RS, Nat.reduceAdd, Nat.reduceSub, Nat.reduceMul, Nat.reduceLeDiff, Nat.reduceLT, Nat.reduceEqDiff, Nat.reduceBEq, ↓reduceIte, reduceCtorEq] at g0
  simp only [SSA, RS, c_laws_toDeclS, k_laws_toDeclS_l8, k_laws_toDeclS_r4, e_laws_toDecl, Nat.reduceAdd, Nat.reduceSub, Nat.reduceMul, Nat.reduceLeDiff, Nat.reduceLT, Nat.reduceEqDiff, Nat.reduceBEq, ↓reduceIte, reduceCtorEq]
  repeat' first
    | with_reducible exact Ok_none
    | ((with_reducible refine Ok_ret ?_); first | rfl | (simp only [SSA, RS, e_laws_toDeclS, Nat.reduceAdd, Nat.reduceSub, Nat.reduceMul, Nat.reduceLeDiff, Nat.reduceLT, Nat.reduceEqDiff, Nat.reduceBEq, ↓reduceIte, reduceCtorEq]; done))
    | ((with_reducible refine Ok_tail (ih _ _) ?_); first | rfl | (simp only [SSA, RS, c_laws_toDeclS, Nat.reduceAdd, Nat.reduceSub, Nat.reduceMul, Nat.reduceLeDiff, Nat.reduceLT, Nat.reduceEqDiff, Nat.reduceBEq, ↓reduceIte, reduceCtorEq]; done) | (simp only [SSA, RS, c_laws_toDeclS, Nat.reduceAdd, Nat.reduceSub, Nat.reduceMul, Nat.reduceLeDiff, Nat.reduceLT, Nat.reduceEqDiff, Nat.reduceBEq, ↓reduceIte, reduceCtorEq]; rfl))
    | ((first | with_reducible refine Ok_if (fun h => ?_) (fun h => ?_) | with_reducible refine Ok_get fun a h => ?_ | with_reducible refine Ok_call (g0 _) fun v => ?_ | refine Ok_call (g0 _) fun v => ?_) <;> simp only [SSA, RS, *, k_laws_toDeclS_r4, e_laws_toDecl, Nat.reduceAdd, Nat.reduceSub, Nat.reduceMul, Nat.reduceLeDiff, Nat.reduceLT, Nat.reduceEqDiff, Nat.reduceBEq, ↓reduceIte, reduceCtorEq])
theorem laws_toDeclS_l8_ok (a : List GDecl) (out : List (GDecl)) (i : Int) : Ok (laws_toDeclS_l8 a out i) e_laws_toDeclS (ev FTA c_laws_toDeclS (.loop k_laws_toDeclS_l8) [.lv 0, .th k_laws_toDeclS_r4] (putS (List.replicate 23 .dead) [(0, .t (.sl false (a.map GDecl.row))), (3, .ref (7, 0) out.length), (4, .t (.v (.int .i64 i)))]) (putR (List.replicate 23 []) [(7, [.mem (out.map GDecl.row) 0 false])])) := laws_toDeclS_l8_ok' a out i

theorem laws_toDeclS_ok : ∀ (a : List GDecl), Ok (laws_toDeclS a) e_laws_toDeclS (dn FTA n_laws_toDeclS [.t (.sl false (a.map GDecl.row))]) := by
  intro a
  rw [den_ev FTA (fn := k_laws_toDeclS) rfl (xOf_none rfl rfl _) (Nat.le_of_ble_eq_true rfl)]
  simp only [SSA, RS, c_laws_toDeclS, k_laws_toDeclS, laws_toDeclS, Nat.reduceAdd, Nat.reduceSub, Nat.reduceMul, Nat.reduceLeDiff, Nat.reduceLT, Nat.reduceEqDiff, Nat.reduceBEq, ↓reduceIte, reduceCtorEq]
  repeat' first
    | with_reducible exact Ok_none
    | ((with_reducible refine Ok_ret ?_); first | rfl | (simp only [SSA, RS, e_laws_toDeclS, Nat.reduceAdd, Nat.reduceSub, Nat.reduceMul, Nat.reduceLeDiff, Nat.reduceLT, Nat.reduceEqDiff, Nat.reduceBEq, ↓reduceIte, reduceCtorEq]; done))
    | ((with_reducible refine Ok_tail (laws_toDeclS_l8_ok _ _ _) ?_); first | rfl | (simp only [SSA, RS, c_laws_toDeclS, Nat.reduceAdd, Nat.reduceSub, Nat.reduceMul, Nat.reduceLeDiff, Nat.reduceLT, Nat.reduceEqDiff, Nat.reduceBEq, ↓reduceIte, reduceCtorEq]; done) | (simp only [SSA, RS, c_laws_toDeclS, Nat.reduceAdd, Nat.reduceSub, Nat.reduceMul, Nat.reduceLeDiff, Nat.reduceLT, Nat.reduceEqDiff, Nat.reduceBEq, ↓reduceIte, reduceCtorEq]; rfl))
    | ((first | with_reducible refine Ok_prim (p := mkN _ _) fun a h => ?_) <;> simp only [SSA, RS, *, Nat.reduceAdd, Nat.reduceSub, Nat.reduceMul, Nat.reduceLeDiff, Nat.reduceLT, Nat.reduceEqDiff, Nat.reduceBEq, ↓reduceIte, reduceCtorEq])

def e_laws_toAttr (r : GAttr) : Res := ⟨[.agg [.v (.string r.Pre), .v (.string r.Local), .v (.string r.Uri), .v (.string r.Val)]], []⟩
def c_laws_toAttr : Cx := ⟨1, [0], [.cell 2 4 true]⟩
theorem laws_toAttr_ok : ∀ (a : GAttr), Ok (laws_toAttr a) e_laws_toAttr (dn FTA n_laws_toAttr [.agg ((GAttr.row a).map .t)]) := by
  intro a
  rw [den_ev FTA (fn := k_laws_toAttr) rfl (xOf_none rfl rfl _) (Nat.le_of_ble_eq_true rfl)]
  simp only [SSA, RS, c_laws_toAttr, k_laws_toAttr, laws_toAttr, Nat.reduceAdd, Nat.reduceSub, Nat.reduceMul, Nat.reduceLeDiff, Nat.reduceLT, Nat.reduceEqDiff, Nat.reduceBEq, ↓reduceIte, reduceCtorEq]
  repeat' first
    | with_reducible exact Ok_none
    | ((with_reducible refine Ok_ret ?_); first | rfl | (simp only [SSA, RS, e_laws_toAttr, Nat.reduceAdd, Nat.reduceSub, Nat.reduceMul, Nat.reduceLeDiff, Nat.reduceLT, Nat.reduceEqDiff, Nat.reduceBEq, ↓reduceIte, reduceCtorEq]; done))

def e_laws_toAttrS (r : List GAttr) : Res := ⟨[.t (.sl true (r.map GAttr.row))], []⟩
def c_laws_toAttrS : Cx := ⟨1, [0], [.tmp 2]⟩
theorem laws_toAttrS_l8_ok' (a : List GAttr) : ∀ (out : List (GAttr)) (i : Int), Ok (laws_toAttrS_l8 a out i) e_laws_toAttrS (ev FTA c_laws_toAttrS (.loop k_laws_toAttrS_l8) [.lv 0, .th k_laws_toAttrS_r4] (putS (List.replicate 23 .dead) [(0, .t (.sl false (a.map GAttr.row))), (3, .ref (7, 0) out.length), (4, .t (.v (.int .i64 i)))]) (putR (List.replicate 23 []) [(7, [.mem (out.map GAttr.row) 0 false])])) := by
  unfold Ok
  refine laws_toAttrS_l8.partial_correctness a _ ?_
  intro F ih out i
  show Ok _ _ _
  have ih : ∀ (out : List (GAttr)) (i : Int), Ok (F out i) _ _ := ih
  rw [ev_loop]
  have g0 := laws_toAttr_ok; try simp only [SSA, RS, Nat.reduceAdd, Nat.reduceSub, Nat.reduceMul, Nat.reduceLeDiff, Nat.reduceLT, Nat.reduceEqDiff, Nat.reduceBEq, ↓reduceIte, reduceCtorEq] at g0
  simp only [SSA, RS, c_laws_toAttrS, k_laws_toAttrS_l8, k_laws_toAttrS_r4, e_laws_toAttr, Nat.reduceAdd, Nat.reduceSub, Nat.reduceMul, Nat.reduceLeDiff, Nat.reduceLT, Nat.reduceEqDiff, Nat.reduceBEq, ↓reduceIte, reduceCtorEq]
  repeat' first
    | with_reducible exact Ok_none
    | ((with_reducible refine Ok_ret ?_); first | rfl | (simp only [SSA, RS, e_laws_toAttrS, Nat.reduceAdd, Nat.reduceSub, Nat.reduceMul, Nat.reduceLeDiff, Nat.reduceLT, Nat.reduceEqDiff, Nat.reduceBEq, ↓reduceIte, reduceCtorEq]; done))
    | ((with_reducible refine Ok_tail (ih _ _) ?_); first | rfl | (simp only [SSA, RS, c_laws_toAttrS, Nat.reduceAdd, Nat.reduceSub, Nat.reduceMul, Nat.reduceLeDiff, Nat.reduceLT, Nat.reduceEqDiff, Nat.reduceBEq, ↓reduceIte, reduceCtorEq]; done) | (simp only [SSA, RS, c_laws_toAttrS, Nat.reduceAdd, Nat.reduceSub, Nat.reduceMul, Nat.reduceLeDiff, Nat.reduceLT, Nat.reduceEqDiff, Nat.reduceBEq, ↓reduceIte, reduceCtorEq]; rfl))
    | ((first | with_reducible refine Ok_if (fun h => ?_) (fun h => ?_) | with_reducible refine Ok_get fun a h => ?_ | with_reducible refine Ok_call (g0 _) fun v => ?_ | refine Ok_call (g0 _) fun v => ?_) <;> simp only [SSA, RS, *, k_laws_toAttrS_r4, e_laws_toAttr, Nat.reduceAdd, Nat.reduceSub, Nat.reduceMul, Nat.reduceLeDiff, Nat.reduceLT, Nat.reduceEqDiff, Nat.reduceBEq, ↓reduceIte, reduceCtorEq])
theorem laws_toAttrS_l8_ok (a : List GAttr) (out : List (GAttr)) (i : Int) : Ok (laws_toAttrS_l8 a out i) e_laws_toAttrS (ev FTA c_laws_toAttrS (.loop k_laws_toAttrS_l8) [.lv 0, .th k_laws_toAttrS_r4] (putS (List.replicate 23 .dead) [(0, .t (.sl false (a.map GAttr.row))), (3, .ref (7, 0) out.length), (4, .t (.v (.int .i64 i)))]) (putR (List.replicate 23 []) [(7, [.mem (out.map GAttr.row) 0 false])])) := laws_toAttrS_l8_ok' a out i

theorem laws_toAttrS_ok : ∀ (a : List GAttr), Ok (laws_toAttrS a) e_laws_toAttrS (dn FTA n_laws_toAttrS [.t (.sl false (a.map GAttr.row))]) := by
  intro a
  rw [den_ev FTA (fn := k_laws_toAttrS) rfl (xOf_none rfl rfl _) (Nat.le_of_ble_eq_true rfl)]
  simp only [SSA, RS, c_laws_toAttrS, k_laws_toAttrS, laws_toAttrS, Nat.reduceAdd, Nat.reduceSub, Nat.reduceMul, Nat.reduceLeDiff, Nat.reduceLT, Nat.reduceEqDiff, Nat.reduceBEq, ↓reduceIte, reduceCtorEq]
  repeat' first
    | with_reducible exact Ok_none
    | ((with_reducible refine Ok_ret ?_); first | rfl | (simp only [SSA, RS, e_laws_toAttrS, Nat.reduceAdd, Nat.reduceSub, Nat.reduceMul, Nat.reduceLeDiff, Nat.reduceLT, Nat.reduceEqDiff, Nat.reduceBEq, ↓reduceIte, reduceCtorEq]; done))
    | ((with_reducible refine Ok_tail (laws_toAttrS_l8_ok _ _ _) ?_); first | rfl | (simp only [SSA, RS, c_laws_toAttrS, Nat.reduceAdd, Nat.reduceSub, Nat.reduceMul, Nat.reduceLeDiff, Nat.reduceLT, Nat.reduceEqDiff, Nat.reduceBEq, ↓reduceIte, reduceCtorEq]; done) | (simp only [SSA, RS, c_laws_toAttrS, Nat.reduceAdd, Nat.reduceSub, Nat.reduceMul, Nat.reduceLeDiff, Nat.reduceLT, Nat.reduceEqDiff, Nat.reduceBEq, ↓reduceIte, reduceCtorEq]; rfl))
    | ((first | with_reducible refine Ok_prim (p := mkN _ _) fun a h => ?_) <;> simp only [SSA, RS, *, Nat.reduceAdd, Nat.reduceSub, Nat.reduceMul, Nat.reduceLeDiff, Nat.reduceLT, Nat.reduceEqDiff, Nat.reduceBEq, ↓reduceIte, reduceCtorEq])

def e_laws_toNode (r : GNode) : Res := ⟨[.agg [.v (.int .i64 r.Kind), .v (.string r.Pre), .v (.string r.Local), .v (.string r.Uri), .sl true (r.Decls.map GDecl.row), .sl true (r.Attrs.map GAttr.row), .sl true (r.Kids.map (GNode.row true)), .v (.string r.Text)]], []⟩
def c_laws_toNode : Cx := ⟨1, [0], [.cell 2 8 true]⟩
def e_laws_toNodeS (r : List GNode) : Res := ⟨[.t (.sl true (r.map (GNode.row true)))], []⟩
def c_laws_toNodeS : Cx := ⟨1, [0], [.tmp 2]⟩
theorem G_laws_toNode : (∀ (a : GNode), Ok (laws_toNode a) e_laws_toNode (dn FTA n_laws_toNode [.agg (((GNode.row false) a).map .t)])) ∧
    (∀ (a : List GNode), Ok (laws_toNodeS a) e_laws_toNodeS (dn FTA n_laws_toNodeS [.t (.sl false (a.map (GNode.row false)))])) ∧
    (∀ (a : List GNode) (out : List (GNode)) (i : Int), Ok (laws_toNodeS_l8 a out i) e_laws_toNodeS (ev FTA c_laws_toNodeS (.loop k_laws_toNodeS_l8) [.lv 0, .th k_laws_toNodeS_r4] (putS (List.replicate 23 .dead) [(0, .t (.sl false (a.map (GNode.row false)))), (3, .ref (7, 0) out.length), (4, .t (.v (.int .i64 i)))]) (putR (List.replicate 23 []) [(7, [.mem (out.map (GNode.row true)) 0 false])]))) := by
  unfold Ok
  refine laws_toNode.mutual_partial_correctness _ _ _ ?_ ?_ ?_ 
  · intro F1 ih1 a
    show Ok _ _ _
    have ih1 : ∀ (a : List GNode), Ok (F1 a) _ _ := ih1
    rw [den_ev FTA (fn := k_laws_toNode) rfl (xOf_none rfl rfl _) (Nat.le_of_ble_eq_true rfl)]
    have g0 := laws_toDeclS_ok; try simp only [SSA, RS, Nat.reduceAdd, Nat.reduceSub, Nat.reduceMul, Nat.reduceLeDiff, Nat.reduceLT, Nat.reduceEqDiff, Nat.reduceBEq, ↓reduceIte, reduceCtorEq] at g0
    have g1 := laws_toAttrS_ok; try simp only [SSA, RS, Nat.reduceAdd, Nat.reduceSub, Nat.reduceMul, Nat.reduceLeDiff, Nat.reduceLT, Nat.reduceEqDiff, Nat.reduceBEq, ↓reduceIte, reduceCtorEq] at g1
    have g2 := ih1; try simp only [SSA, RS, Nat.reduceAdd, Nat.reduceSub, Nat.reduceMul, Nat.reduceLeDiff, Nat.reduceLT, Nat.reduceEqDiff, Nat.reduceBEq, ↓reduceIte, reduceCtorEq] at g2
    simp only [SSA, RS, c_laws_toNode, k_laws_toNode, e_laws_toAttrS, e_laws_toDeclS, e_laws_toNodeS, Nat.reduceAdd, Nat.reduceSub, Nat.reduceMul, Nat.reduceLeDiff, Nat.reduceLT, Nat.reduceEqDiff, Nat.reduceBEq, ↓reduceIte, reduceCtorEq]
    repeat' first
      | with_reducible exact Ok_none
      | ((with_reducible refine Ok_ret ?_); first | rfl | (simp only [SSA, RS, e_laws_toNode, Nat.reduceAdd, Nat.reduceSub, Nat.reduceMul, Nat.reduceLeDiff, Nat.reduceLT, Nat.reduceEqDiff, Nat.reduceBEq, ↓reduceIte, reduceCtorEq]; done))
      | ((first | with_reducible refine Ok_call (g0 _) fun v => ?_ | with_reducible refine Ok_call (g1 _) fun v => ?_ | with_reducible refine Ok_call (g2 _) fun v => ?_ | refine Ok_call (g0 _) fun v => ?_ | refine Ok_call (g1 _) fun v => ?_ | refine Ok_call (g2 _) fun v => ?_) <;> simp only [SSA, RS, *, e_laws_toAttrS, e_laws_toDeclS, e_laws_toNodeS, Nat.reduceAdd, Nat.reduceSub, Nat.reduceMul, Nat.reduceLeDiff, Nat.reduceLT, Nat.reduceEqDiff, Nat.reduceBEq, ↓reduceIte, reduceCtorEq])
  · intro F2 ih2 a
    show Ok _ _ _
    have ih2 : ∀ (a : List GNode) (out : List (GNode)) (i : Int), Ok (F2 a out i) _ _ := ih2
    rw [den_ev FTA (fn := k_laws_toNodeS) rfl (xOf_none rfl rfl _) (Nat.le_of_ble_eq_true rfl)]
    simp only [SSA, RS, c_laws_toNodeS, k_laws_toNodeS, Nat.reduceAdd, Nat.reduceSub, Nat.reduceMul, Nat.reduceLeDiff, Nat.reduceLT, Nat.reduceEqDiff, Nat.reduceBEq, ↓reduceIte, reduceCtorEq]
    repeat' first
      | with_reducible exact Ok_none
      | ((with_reducible refine Ok_ret ?_); first | rfl | (simp only [SSA, RS, e_laws_toNodeS, Nat.reduceAdd, Nat.reduceSub, Nat.reduceMul, Nat.reduceLeDiff, Nat.reduceLT, Nat.reduceEqDiff, Nat.reduceBEq, ↓reduceIte, reduceCtorEq]; done))
      | ((with_reducible refine Ok_tail (ih2 _ _ _) ?_); first | rfl | (simp only [SSA, RS, c_laws_toNodeS, Nat.reduceAdd, Nat.reduceSub, Nat.reduceMul, Nat.reduceLeDiff, Nat.reduceLT, Nat.reduceEqDiff, Nat.reduceBEq, ↓reduceIte, reduceCtorEq]; done) | (simp only [SSA, RS, c_laws_toNodeS, Nat.reduceAdd, Nat.reduceSub, Nat.reduceMul, Nat.reduceLeDiff, Nat.reduceLT, Nat.reduceEqDiff, Nat.reduceBEq, ↓reduceIte, reduceCtorEq]; rfl))
      | ((first | with_reducible refine Ok_prim (p := mkN _ _) fun a h => ?_) <;> simp only [SSA, RS, *, Nat.reduceAdd, Nat.reduceSub, Nat.reduceMul, Nat.reduceLeDiff, Nat.reduceLT, Nat.reduceEqDiff, Nat.reduceBEq, ↓reduceIte, reduceCtorEq])
  · intro F0 F2 ih0 ih2 a out i
    show Ok _ _ _
    have ih0 : ∀ (a : GNode), Ok (F0 a) _ _ := ih0
    have ih2 : ∀ (a : List GNode) (out : List (GNode)) (i : Int), Ok (F2 a out i) _ _ := ih2
    rw [ev_loop]
    have g0 := ih0; try simp only [SSA, RS, Nat.reduceAdd, Nat.reduceSub, Nat.reduceMul, Nat.reduceLeDiff, Nat.reduceLT, Nat.reduceEqDiff, Nat.reduceBEq, ↓reduceIte, reduceCtorEq] at g0
    simp only [SSA, RS, c_laws_toNodeS, k_laws_toNodeS_l8, k_laws_toNodeS_r4, e_laws_toNode, Nat.reduceAdd, Nat.reduceSub, Nat.reduceMul, Nat.reduceLeDiff, Nat.reduceLT, Nat.reduceEqDiff, Nat.reduceBEq, ↓reduceIte, reduceCtorEq]
    repeat' first
      | with_reducible exact Ok_none
      | ((with_reducible refine Ok_ret ?_); first | rfl | (simp only [SSA, RS, e_laws_toNodeS, Nat.reduceAdd, Nat.reduceSub, Nat.reduceMul, Nat.reduceLeDiff, Nat.reduceLT, Nat.reduceEqDiff, Nat.reduceBEq, ↓reduceIte, reduceCtorEq]; done))
      | ((with_reducible refine Ok_tail (ih2 _ _ _) ?_); first | rfl | (simp only [SSA, RS, c_laws_toNodeS, Nat.reduceAdd, Nat.reduceSub, Nat.reduceMul, Nat.reduceLeDiff, Nat.reduceLT, Nat.reduceEqDiff, Nat.reduceBEq, ↓reduceIte, reduceCtorEq]; done) | (simp only [SSA, RS, c_laws_toNodeS, Nat.reduceAdd, Nat.reduceSub, Nat.reduceMul, Nat.reduceLeDiff, Nat.reduceLT, Nat.reduceEqDiff, Nat.reduceBEq, ↓reduceIte, reduceCtorEq]; rfl))
      | ((first | with_reducible refine Ok_if (fun h => ?_) (fun h => ?_) | with_reducible refine Ok_get fun a h => ?_ | with_reducible refine Ok_call (g0 _) fun v => ?_ | refine Ok_call (g0 _) fun v => ?_) <;> simp only [SSA, RS, *, k_laws_toNodeS_r4, e_laws_toNode, Nat.reduceAdd, Nat.reduceSub, Nat.reduceMul, Nat.reduceLeDiff, Nat.reduceLT, Nat.reduceEqDiff, Nat.reduceBEq, ↓reduceIte, reduceCtorEq])
theorem laws_toNode_ok (a : GNode) : Ok (laws_toNode a) e_laws_toNode (dn FTA n_laws_toNode [.agg (((GNode.row false) a).map .t)]) := G_laws_toNode.1 a
theorem laws_toNodeS_ok (a : List GNode) : Ok (laws_toNodeS a) e_laws_toNodeS (dn FTA n_laws_toNodeS [.t (.sl false (a.map (GNode.row false)))]) := G_laws_toNode.2.1 a
theorem laws_toNodeS_l8_ok (a : List GNode) (out : List (GNode)) (i : Int) : Ok (laws_toNodeS_l8 a out i) e_laws_toNodeS (ev FTA c_laws_toNodeS (.loop k_laws_toNodeS_l8) [.lv 0, .th k_laws_toNodeS_r4] (putS (List.replicate 23 .dead) [(0, .t (.sl false (a.map (GNode.row false)))), (3, .ref (7, 0) out.length), (4, .t (.v (.int .i64 i)))]) (putR (List.replicate 23 []) [(7, [.mem (out.map (GNode.row true)) 0 false])])) := G_laws_toNode.2.2 a out i

def e_laws_toIntS (r : List Int) : Res := ⟨[.t (.sl true (r.map rI))], []⟩
def c_laws_toIntS : Cx := ⟨1, [0], [.tmp 2]⟩
theorem laws_toIntS_l8_ok' (a : List Int) : ∀ (out : List (Int)) (i : Int), Ok (laws_toIntS_l8 a out i) e_laws_toIntS (ev FTA c_laws_toIntS (.loop k_laws_toIntS_l8) [.lv 0, .th k_laws_toIntS_r4] (putS (List.replicate 22 .dead) [(0, .t (.sl false (a.map rI))), (3, .ref (7, 0) out.length), (4, .t (.v (.int .i64 i)))]) (putR (List.replicate 22 []) [(7, [.mem (out.map rI) 0 false])])) := by
  unfold Ok
  refine laws_toIntS_l8.partial_correctness a _ ?_
  intro F ih out i
  show Ok _ _ _
  have ih : ∀ (out : List (Int)) (i : Int), Ok (F out i) _ _ := ih
  rw [ev_loop]
  simp only [SSA, RS, c_laws_toIntS, k_laws_toIntS_l8, k_laws_toIntS_r4, Nat.reduceAdd, Nat.reduceSub, Nat.reduceMul, Nat.reduceLeDiff, Nat.reduceLT, Nat.reduceEqDiff, Nat.reduceBEq, ↓reduceIte, reduceCtorEq]
  repeat' first
    | with_reducible exact Ok_none
    | ((with_reducible refine Ok_ret ?_); first | rfl | (simp only [SSA, RS, e_laws_toIntS, Nat.reduceAdd, Nat.reduceSub, Nat.reduceMul, Nat.reduceLeDiff, Nat.reduceLT, Nat.reduceEqDiff, Nat.reduceBEq, ↓reduceIte, reduceCtorEq]; done))
    | ((with_reducible refine Ok_tail (ih _ _) ?_); first | rfl | (simp only [SSA, RS, c_laws_toIntS, Nat.reduceAdd, Nat.reduceSub, Nat.reduceMul, Nat.reduceLeDiff, Nat.reduceLT, Nat.reduceEqDiff, Nat.reduceBEq, ↓reduceIte, reduceCtorEq]; done) | (simp only [SSA, RS, c_laws_toIntS, Nat.reduceAdd, Nat.reduceSub, Nat.reduceMul, Nat.reduceLeDiff, Nat.reduceLT, Nat.reduceEqDiff, Nat.reduceBEq, ↓reduceIte, reduceCtorEq]; rfl))
    | ((first | with_reducible refine Ok_if (fun h => ?_) (fun h => ?_) | with_reducible refine Ok_get fun a h => ?_) <;> simp only [SSA, RS, *, k_laws_toIntS_r4, Nat.reduceAdd, Nat.reduceSub, Nat.reduceMul, Nat.reduceLeDiff, Nat.reduceLT, Nat.reduceEqDiff, Nat.reduceBEq, ↓reduceIte, reduceCtorEq])
theorem laws_toIntS_l8_ok (a : List Int) (out : List (Int)) (i : Int) : Ok (laws_toIntS_l8 a out i) e_laws_toIntS (ev FTA c_laws_toIntS (.loop k_laws_toIntS_l8) [.lv 0, .th k_laws_toIntS_r4] (putS (List.replicate 22 .dead) [(0, .t (.sl false (a.map rI))), (3, .ref (7, 0) out.length), (4, .t (.v (.int .i64 i)))]) (putR (List.replicate 22 []) [(7, [.mem (out.map rI) 0 false])])) := laws_toIntS_l8_ok' a out i

theorem laws_toIntS_ok : ∀ (a : List Int), Ok (laws_toIntS a) e_laws_toIntS (dn FTA n_laws_toIntS [.t (.sl false (a.map rI))]) := by
  intro a
  rw [den_ev FTA (fn := k_laws_toIntS) rfl (xOf_none rfl rfl _) (Nat.le_of_ble_eq_true rfl)]
  simp only [SSA, RS, c_laws_toIntS, k_laws_toIntS, laws_toIntS, Nat.reduceAdd, Nat.reduceSub, Nat.reduceMul, Nat.reduceLeDiff, Nat.reduceLT, Nat.reduceEqDiff, Nat.reduceBEq, ↓reduceIte, reduceCtorEq]
  repeat' first
    | with_reducible exact Ok_none
    | ((with_reducible refine Ok_ret ?_); first | rfl | (simp only [SSA, RS, e_laws_toIntS, Nat.reduceAdd, Nat.reduceSub, Nat.reduceMul, Nat.reduceLeDiff, Nat.reduceLT, Nat.reduceEqDiff, Nat.reduceBEq, ↓reduceIte, reduceCtorEq]; done))
    | ((with_reducible refine Ok_tail (laws_toIntS_l8_ok _ _ _) ?_); first | rfl | (simp only [SSA, RS, c_laws_toIntS, Nat.reduceAdd, Nat.reduceSub, Nat.reduceMul, Nat.reduceLeDiff, Nat.reduceLT, Nat.reduceEqDiff, Nat.reduceBEq, ↓reduceIte, reduceCtorEq]; done) | (simp only [SSA, RS, c_laws_toIntS, Nat.reduceAdd, Nat.reduceSub, Nat.reduceMul, Nat.reduceLeDiff, Nat.reduceLT, Nat.reduceEqDiff, Nat.reduceBEq, ↓reduceIte, reduceCtorEq]; rfl))
    | ((first | with_reducible refine Ok_prim (p := mkN _ _) fun a h => ?_) <;> simp only [SSA, RS, *, Nat.reduceAdd, Nat.reduceSub, Nat.reduceMul, Nat.reduceLeDiff, Nat.reduceLT, Nat.reduceEqDiff, Nat.reduceBEq, ↓reduceIte, reduceCtorEq])

def e_spec_l1In (r : Bool) : Res := ⟨[.t (.v (.bool r))], []⟩
def c_spec_l1In : Cx := ⟨3, [0, 0, 0], [.tmp 6]⟩
theorem spec_l1In_ok : ∀ (a0 : Int) (least : Int) (most : Int), Ok (spec_l1In a0 least most) e_spec_l1In (dn FTA n_spec_l1In [.t (.v (.int .i64 a0)), .t (.v (.int .i64 least)), .t (.v (.int .i64 most))]) := by
  intro a0 least most
  rw [den_ev FTA (fn := k_spec_l1In) rfl (xOf_none rfl rfl _) (Nat.le_of_ble_eq_true rfl)]
  simp only [SSA, RS, c_spec_l1In, k_spec_l1In, spec_l1In, Nat.reduceAdd, Nat.reduceSub, Nat.reduceMul, Nat.reduceLeDiff, Nat.reduceLT, Nat.reduceEqDiff, Nat.reduceBEq, ↓reduceIte, reduceCtorEq]
  repeat' first
    | with_reducible exact Ok_none
    | ((with_reducible refine Ok_ret ?_); first | rfl | (simp only [SSA, RS, e_spec_l1In, Nat.reduceAdd, Nat.reduceSub, Nat.reduceMul, Nat.reduceLeDiff, Nat.reduceLT, Nat.reduceEqDiff, Nat.reduceBEq, ↓reduceIte, reduceCtorEq]; done))
    | ((first | with_reducible refine Ok_if (fun h => ?_) (fun h => ?_)) <;> simp only [SSA, RS, *, Nat.reduceAdd, Nat.reduceSub, Nat.reduceMul, Nat.reduceLeDiff, Nat.reduceLT, Nat.reduceEqDiff, Nat.reduceBEq, ↓reduceIte, reduceCtorEq])

def e_spec_l5All (r : List GNode) : Res := ⟨[.t (.sl true (r.map (GNode.row true)))], []⟩
def c_spec_l5All : Cx := ⟨1, [0], [.tmp 2]⟩
def e_spec_l5Copy (r : GNode) : Res := ⟨[.agg [.v (.int .i64 r.Kind), .v (.string r.Pre), .v (.string r.Local), .v (.string r.Uri), .sl true (r.Decls.map GDecl.row), .sl true (r.Attrs.map GAttr.row), .sl true (r.Kids.map (GNode.row true)), .v (.string r.Text)]], []⟩
def c_spec_l5Copy : Cx := ⟨1, [0], [.cell 2 8 true]⟩
theorem G_spec_l5All : (∀ (l : List GNode), Ok (spec_l5All l) e_spec_l5All (dn FTA n_spec_l5All [.t (.sl false (l.map (GNode.row false)))])) ∧
    (∀ (l : List GNode) (out : List (GNode)) (i : Int), Ok (spec_l5All_l8 l out i) e_spec_l5All (ev FTA c_spec_l5All (.loop k_spec_l5All_l8) [.lv 0, .th k_spec_l5All_r4] (putS (List.replicate 23 .dead) [(0, .t (.sl false (l.map (GNode.row false)))), (3, .ref (6, 0) out.length), (4, .t (.v (.int .i64 i)))]) (putR (List.replicate 23 []) [(6, [.mem (out.map (GNode.row true)) 0 false])]))) ∧
    (∀ (n : GNode), Ok (spec_l5Copy n) e_spec_l5Copy (dn FTA n_spec_l5Copy [.agg (((GNode.row false) n).map .t)])) := by
  unfold Ok
  refine spec_l5All.mutual_partial_correctness _ _ _ ?_ ?_ ?_ 
  · intro F1 ih1 l
    show Ok _ _ _
    have ih1 : ∀ (l : List GNode) (out : List (GNode)) (i : Int), Ok (F1 l out i) _ _ := ih1
    rw [den_ev FTA (fn := k_spec_l5All) rfl (xOf_none rfl rfl _) (Nat.le_of_ble_eq_true rfl)]
    simp only [SSA, RS, c_spec_l5All, k_spec_l5All, Nat.reduceAdd, Nat.reduceSub, Nat.reduceMul, Nat.reduceLeDiff, Nat.reduceLT, Nat.reduceEqDiff, Nat.reduceBEq, ↓reduceIte, reduceCtorEq]
    repeat' first
      | with_reducible exact Ok_none
      | ((with_reducible refine Ok_ret ?_); first | rfl | (simp only [SSA, RS, e_spec_l5All, Nat.reduceAdd, Nat.reduceSub, Nat.reduceMul, Nat.reduceLeDiff, Nat.reduceLT, Nat.reduceEqDiff, Nat.reduceBEq, ↓reduceIte, reduceCtorEq]; done))
      | ((with_reducible refine Ok_tail (ih1 _ _ _) ?_); first | rfl | (simp only [SSA, RS, c_spec_l5All, Nat.reduceAdd, Nat.reduceSub, Nat.reduceMul, Nat.reduceLeDiff, Nat.reduceLT, Nat.reduceEqDiff, Nat.reduceBEq, ↓reduceIte, reduceCtorEq]; done) | (simp only [SSA, RS, c_spec_l5All, Nat.reduceAdd, Nat.reduceSub, Nat.reduceMul, Nat.reduceLeDiff, Nat.reduceLT, Nat.reduceEqDiff, Nat.reduceBEq, ↓reduceIte, reduceCtorEq]; rfl))
  · intro F1 F2 ih1 ih2 l out i
    show Ok _ _ _
    have ih2 : ∀ (n : GNode), Ok (F2 n) _ _ := ih2
    have ih1 : ∀ (l : List GNode) (out : List (GNode)) (i : Int), Ok (F1 l out i) _ _ := ih1
    rw [ev_loop]
    have g0 := ih2; try simp only [SSA, RS, Nat.reduceAdd, Nat.reduceSub, Nat.reduceMul, Nat.reduceLeDiff, Nat.reduceLT, Nat.reduceEqDiff, Nat.reduceBEq, ↓reduceIte, reduceCtorEq] at g0
    simp only [SSA, RS, c_spec_l5All, k_spec_l5All_l8, k_spec_l5All_r4, e_spec_l5Copy, Nat.reduceAdd, Nat.reduceSub, Nat.reduceMul, Nat.reduceLeDiff, Nat.reduceLT, Nat.reduceEqDiff, Nat.reduceBEq, ↓reduceIte, reduceCtorEq]
    repeat' first
      | with_reducible exact Ok_none
      | ((with_reducible refine Ok_ret ?_); first | rfl | (simp only [SSA, RS, e_spec_l5All, Nat.reduceAdd, Nat.reduceSub, Nat.reduceMul, Nat.reduceLeDiff, Nat.reduceLT, Nat.reduceEqDiff, Nat.reduceBEq, ↓reduceIte, reduceCtorEq]; done))
      | ((with_reducible refine Ok_tail (ih1 _ _ _) ?_); first | rfl | (simp only [SSA, RS, c_spec_l5All, Nat.reduceAdd, Nat.reduceSub, Nat.reduceMul, Nat.reduceLeDiff, Nat.reduceLT, Nat.reduceEqDiff, Nat.reduceBEq, ↓reduceIte, reduceCtorEq]; done) | (simp only [SSA, RS, c_spec_l5All, Nat.reduceAdd, Nat.reduceSub, Nat.reduceMul, Nat.reduceLeDiff, Nat.reduceLT, Nat.reduceEqDiff, Nat.reduceBEq, ↓reduceIte, reduceCtorEq]; rfl))
      | ((first | with_reducible refine Ok_if (fun h => ?_) (fun h => ?_) | with_reducible refine Ok_get fun a h => ?_ | with_reducible refine Ok_call (g0 _) fun v => ?_ | with_reducible refine Ok_prim (p := room _ _) fun a h => ?_ | refine Ok_call (g0 _) fun v => ?_) <;> simp only [SSA, RS, *, k_spec_l5All_r4, e_spec_l5Copy, Nat.reduceAdd, Nat.reduceSub, Nat.reduceMul, Nat.reduceLeDiff, Nat.reduceLT, Nat.reduceEqDiff, Nat.reduceBEq, ↓reduceIte, reduceCtorEq])
  · intro F0 ih0 n
    show Ok _ _ _
    have ih0 : ∀ (l : List GNode), Ok (F0 l) _ _ := ih0
    rw [den_ev FTA (fn := k_spec_l5Copy) rfl (xOf_none rfl rfl _) (Nat.le_of_ble_eq_true rfl)]
    have g0 := ih0; try simp only [SSA, RS, Nat.reduceAdd, Nat.reduceSub, Nat.reduceMul, Nat.reduceLeDiff, Nat.reduceLT, Nat.reduceEqDiff, Nat.reduceBEq, ↓reduceIte, reduceCtorEq] at g0
    simp only [SSA, RS, c_spec_l5Copy, k_spec_l5Copy, e_spec_l5All, Nat.reduceAdd, Nat.reduceSub, Nat.reduceMul, Nat.reduceLeDiff, Nat.reduceLT, Nat.reduceEqDiff, Nat.reduceBEq, ↓reduceIte, reduceCtorEq]
    repeat' first
      | with_reducible exact Ok_none
      | ((with_reducible refine Ok_ret ?_); first | rfl | (simp only [SSA, RS, e_spec_l5Copy, Nat.reduceAdd, Nat.reduceSub, Nat.reduceMul, Nat.reduceLeDiff, Nat.reduceLT, Nat.reduceEqDiff, Nat.reduceBEq, ↓reduceIte, reduceCtorEq]; done))
      | ((first | with_reducible refine Ok_call (g0 _) fun v => ?_ | with_reducible refine Ok_prim (p := room _ _) fun a h => ?_ | refine Ok_call (g0 _) fun v => ?_) <;> simp only [SSA, RS, *, e_spec_l5All, Nat.reduceAdd, Nat.reduceSub, Nat.reduceMul, Nat.reduceLeDiff, Nat.reduceLT, Nat.reduceEqDiff, Nat.reduceBEq, ↓reduceIte, reduceCtorEq])
theorem spec_l5All_ok (l : List GNode) : Ok (spec_l5All l) e_spec_l5All (dn FTA n_spec_l5All [.t (.sl false (l.map (GNode.row false)))]) := G_spec_l5All.1 l
theorem spec_l5All_l8_ok (l : List GNode) (out : List (GNode)) (i : Int) : Ok (spec_l5All_l8 l out i) e_spec_l5All (ev FTA c_spec_l5All (.loop k_spec_l5All_l8) [.lv 0, .th k_spec_l5All_r4] (putS (List.replicate 23 .dead) [(0, .t (.sl false (l.map (GNode.row false)))), (3, .ref (6, 0) out.length), (4, .t (.v (.int .i64 i)))]) (putR (List.replicate 23 []) [(6, [.mem (out.map (GNode.row true)) 0 false])])) := G_spec_l5All.2.1 l out i
theorem spec_l5Copy_ok (n : GNode) : Ok (spec_l5Copy n) e_spec_l5Copy (dn FTA n_spec_l5Copy [.agg (((GNode.row false) n).map .t)]) := G_spec_l5All.2.2 n

def e_spec_NodeAt (r : GNode × Bool) : Res := ⟨[.agg [.v (.int .i64 r.1.Kind), .v (.string r.1.Pre), .v (.string r.1.Local), .v (.string r.1.Uri), .sl true (r.1.Decls.map GDecl.row), .sl true (r.1.Attrs.map GAttr.row), .sl true (r.1.Kids.map (GNode.row true)), .v (.string r.1.Text)], .t (.v (.bool r.2))], []⟩
def c_spec_NodeAt : Cx := ⟨2, [0, 0], [.cell 4 8 true, .tmp 5]⟩
theorem spec_NodeAt_l8_ok' (path : List Int) : ∀ (i : Int) (x3 : GNode), Ok (spec_NodeAt_l8 path i x3) e_spec_NodeAt (ev FTA c_spec_NodeAt (.loop k_spec_NodeAt_l8) [.lv 0, .th k_spec_NodeAt_r4] (putS (List.replicate 36 .dead) [(1, .t (.sl false (path.map rI))), (4, .ptr (4, 0) [] 0 0 1 0), (6, .ptr (6, 0) [] 0 0 1 0), (7, .t (.v (.int .i64 i)))]) (putR (List.replicate 36 []) [(4, [.mem [[.v (.int .i64 0), .v (.string (⟨#[]⟩)), .v (.string (⟨#[]⟩)), .v (.string (⟨#[]⟩)), .sl true [], .sl true [], .sl true [], .v (.string (⟨#[]⟩))]] 0 false]), (6, [.mem [[.v (.int .i64 x3.Kind), .v (.string x3.Pre), .v (.string x3.Local), .v (.string x3.Uri), .sl false (x3.Decls.map GDecl.row), .sl false (x3.Attrs.map GAttr.row), .sl false (x3.Kids.map (GNode.row false)), .v (.string x3.Text)]] 0 false])])) := by
  unfold Ok
  refine spec_NodeAt_l8.partial_correctness path _ ?_
  intro F ih i x3
  show Ok _ _ _
  have ih : ∀ (i : Int) (x3 : GNode), Ok (F i x3) _ _ := ih
  rw [ev_loop]
  have g0 := spec_l1In_ok; try simp only [SSA, RS, Nat.reduceAdd, Nat.reduceSub, Nat.reduceMul, Nat.reduceLeDiff, Nat.reduceLT, Nat.reduceEqDiff, Nat.reduceBEq, ↓reduceIte, reduceCtorEq] at g0
  have g1 := spec_l5Copy_ok; try simp only [SSA, RS, Nat.reduceAdd, Nat.reduceSub, Nat.reduceMul, Nat.reduceLeDiff, Nat.reduceLT, Nat.reduceEqDiff, Nat.reduceBEq, ↓reduceIte, reduceCtorEq] at g1
  simp only [SSA, RS, c_spec_NodeAt, k_spec_NodeAt_l8, k_spec_NodeAt_r4, e_spec_l1In, e_spec_l5Copy, Nat.reduceAdd, Nat.reduceSub, Nat.reduceMul, Nat.reduceLeDiff, Nat.reduceLT, Nat.reduceEqDiff, Nat.reduceBEq, ↓reduceIte, reduceCtorEq]
  repeat' first
    | with_reducible exact Ok_none
    | ((with_reducible refine Ok_ret ?_); first | rfl | (simp only [SSA, RS, e_spec_NodeAt, Nat.reduceAdd, Nat.reduceSub, Nat.reduceMul, Nat.reduceLeDiff, Nat.reduceLT, Nat.reduceEqDiff, Nat.reduceBEq, ↓reduceIte, reduceCtorEq]; done))
    | ((with_reducible refine Ok_tail (ih _ _) ?_); first | rfl | (simp only [SSA, RS, c_spec_NodeAt, Nat.reduceAdd, Nat.reduceSub, Nat.reduceMul, Nat.reduceLeDiff, Nat.reduceLT, Nat.reduceEqDiff, Nat.reduceBEq, ↓reduceIte, reduceCtorEq]; done) | (simp only [SSA, RS, c_spec_NodeAt, Nat.reduceAdd, Nat.reduceSub, Nat.reduceMul, Nat.reduceLeDiff, Nat.reduceLT, Nat.reduceEqDiff, Nat.reduceBEq, ↓reduceIte, reduceCtorEq]; rfl))
    | ((first | with_reducible refine Ok_if (fun h => ?_) (fun h => ?_) | with_reducible refine Ok_get fun a h => ?_ | with_reducible refine Ok_call (g0 _ _ _) fun v => ?_ | with_reducible refine Ok_call (g1 _) fun v => ?_ | refine Ok_call (g0 _ _ _) fun v => ?_ | refine Ok_call (g1 _) fun v => ?_) <;> simp only [SSA, RS, *, k_spec_NodeAt_r4, e_spec_l1In, e_spec_l5Copy, Nat.reduceAdd, Nat.reduceSub, Nat.reduceMul, Nat.reduceLeDiff, Nat.reduceLT, Nat.reduceEqDiff, Nat.reduceBEq, ↓reduceIte, reduceCtorEq])
theorem spec_NodeAt_l8_ok (path : List Int) (i : Int) (x3 : GNode) : Ok (spec_NodeAt_l8 path i x3) e_spec_NodeAt (ev FTA c_spec_NodeAt (.loop k_spec_NodeAt_l8) [.lv 0, .th k_spec_NodeAt_r4] (putS (List.replicate 36 .dead) [(1, .t (.sl false (path.map rI))), (4, .ptr (4, 0) [] 0 0 1 0), (6, .ptr (6, 0) [] 0 0 1 0), (7, .t (.v (.int .i64 i)))]) (putR (List.replicate 36 []) [(4, [.mem [[.v (.int .i64 0), .v (.string (⟨#[]⟩)), .v (.string (⟨#[]⟩)), .v (.string (⟨#[]⟩)), .sl true [], .sl true [], .sl true [], .v (.string (⟨#[]⟩))]] 0 false]), (6, [.mem [[.v (.int .i64 x3.Kind), .v (.string x3.Pre), .v (.string x3.Local), .v (.string x3.Uri), .sl false (x3.Decls.map GDecl.row), .sl false (x3.Attrs.map GAttr.row), .sl false (x3.Kids.map (GNode.row false)), .v (.string x3.Text)]] 0 false])])) := spec_NodeAt_l8_ok' path i x3

theorem spec_NodeAt_ok : ∀ (n : GNode) (path : List Int), Ok (spec_NodeAt n path) e_spec_NodeAt (dn FTA n_spec_NodeAt [.agg (((GNode.row false) n).map .t), .t (.sl false (path.map rI))]) := by
  intro n path
  rw [den_ev FTA (fn := k_spec_NodeAt) rfl (xOf_none rfl rfl _) (Nat.le_of_ble_eq_true rfl)]
  simp only [SSA, RS, c_spec_NodeAt, k_spec_NodeAt, spec_NodeAt, Nat.reduceAdd, Nat.reduceSub, Nat.reduceMul, Nat.reduceLeDiff, Nat.reduceLT, Nat.reduceEqDiff, Nat.reduceBEq, ↓reduceIte, reduceCtorEq]
  repeat' first
    | with_reducible exact Ok_none
    | ((with_reducible refine Ok_ret ?_); first | rfl | (simp only [SSA, RS, e_spec_NodeAt, Nat.reduceAdd, Nat.reduceSub, Nat.reduceMul, Nat.reduceLeDiff, Nat.reduceLT, Nat.reduceEqDiff, Nat.reduceBEq, ↓reduceIte, reduceCtorEq]; done))
    | ((with_reducible refine Ok_tail (spec_NodeAt_l8_ok _ _ _) ?_); first | rfl | (simp only [SSA, RS, c_spec_NodeAt, Nat.reduceAdd, Nat.reduceSub, Nat.reduceMul, Nat.reduceLeDiff, Nat.reduceLT, Nat.reduceEqDiff, Nat.reduceBEq, ↓reduceIte, reduceCtorEq]; done) | (simp only [SSA, RS, c_spec_NodeAt, Nat.reduceAdd, Nat.reduceSub, Nat.reduceMul, Nat.reduceLeDiff, Nat.reduceLT, Nat.reduceEqDiff, Nat.reduceBEq, ↓reduceIte, reduceCtorEq]; rfl))

def e_spec_l19Step (r : GStp) : Res := ⟨[.agg [.v (.bool r.Deep), .v (.int .i64 r.Kind), .v (.string r.Pre), .v (.string r.Local), .sl true (r.Preds.map GPred.row)]], []⟩
def c_spec_l19Step : Cx := ⟨2, [0, 0], [.cell 4 5 true]⟩
theorem spec_l19Step_l10_ok' (i : Int) (up : GNode) (x : GNode) : ∀ (nth : Int) (k : Int), Ok (spec_l19Step_l10 i nth k up x) e_spec_l19Step (ev FTA c_spec_l19Step (.loop k_spec_l19Step_l10) [.lv 0, .th k_spec_l19Step_r6] (putS (List.replicate 55 .dead) [(1, .t (.v (.int .i64 i))), (2, .ptr (2, 0) [] 0 0 1 0), (4, .ptr (4, 0) [] 0 0 1 0), (5, .ptr (5, 0) [] 0 0 1 0), (6, .t (.v (.int .i64 nth))), (7, .t (.v (.int .i64 k)))]) (putR (List.replicate 55 []) [(2, [.mem [[.v (.int .i64 up.Kind), .v (.string up.Pre), .v (.string up.Local), .v (.string up.Uri), .sl false (up.Decls.map GDecl.row), .sl false (up.Attrs.map GAttr.row), .sl false (up.Kids.map (GNode.row false)), .v (.string up.Text)]] 0 false]), (4, [.mem [[.v (.bool false), .v (.int .i64 0), .v (.string (⟨#[]⟩)), .v (.string (⟨#[]⟩)), .sl true []]] 0 false]), (5, [.mem [[.v (.int .i64 x.Kind), .v (.string x.Pre), .v (.string x.Local), .v (.string x.Uri), .sl false (x.Decls.map GDecl.row), .sl false (x.Attrs.map GAttr.row), .sl false (x.Kids.map (GNode.row false)), .v (.string x.Text)]] 0 false])])) := by
  unfold Ok
  refine spec_l19Step_l10.partial_correctness i up x _ ?_
  intro F ih nth k
  show Ok _ _ _
  have ih : ∀ (nth : Int) (k : Int), Ok (F nth k) _ _ := ih
  rw [ev_loop]
  simp only [SSA, RS, c_spec_l19Step, k_spec_l19Step_l10, k_spec_l19Step_r6, Nat.reduceAdd, Nat.reduceSub, Nat.reduceMul, Nat.reduceLeDiff, Nat.reduceLT, Nat.reduceEqDiff, Nat.reduceBEq, ↓reduceIte, reduceCtorEq]
  repeat' first
    | with_reducible exact Ok_none
    | ((with_reducible refine Ok_ret ?_); first | rfl | (simp only [SSA, RS, e_spec_l19Step, Nat.reduceAdd, Nat.reduceSub, Nat.reduceMul, Nat.reduceLeDiff, Nat.reduceLT, Nat.reduceEqDiff, Nat.reduceBEq, ↓reduceIte, reduceCtorEq]; done))
    | ((with_reducible refine Ok_tail (ih _ _) ?_); first | rfl | (simp only [SSA, RS, c_spec_l19Step, Nat.reduceAdd, Nat.reduceSub, Nat.reduceMul, Nat.reduceLeDiff, Nat.reduceLT, Nat.reduceEqDiff, Nat.reduceBEq, ↓reduceIte, reduceCtorEq]; done) | (simp only [SSA, RS, c_spec_l19Step, Nat.reduceAdd, Nat.reduceSub, Nat.reduceMul, Nat.reduceLeDiff, Nat.reduceLT, Nat.reduceEqDiff, Nat.reduceBEq, ↓reduceIte, reduceCtorEq]; rfl))
    | ((first | with_reducible refine Ok_if (fun h => ?_) (fun h => ?_) | with_reducible refine Ok_get fun a h => ?_) <;> simp only [SSA, RS, *, k_spec_l19Step_r6, Nat.reduceAdd, Nat.reduceSub, Nat.reduceMul, Nat.reduceLeDiff, Nat.reduceLT, Nat.reduceEqDiff, Nat.reduceBEq, ↓reduceIte, reduceCtorEq])
theorem spec_l19Step_l10_ok (i : Int) (nth : Int) (k : Int) (up : GNode) (x : GNode) : Ok (spec_l19Step_l10 i nth k up x) e_spec_l19Step (ev FTA c_spec_l19Step (.loop k_spec_l19Step_l10) [.lv 0, .th k_spec_l19Step_r6] (putS (List.replicate 55 .dead) [(1, .t (.v (.int .i64 i))), (2, .ptr (2, 0) [] 0 0 1 0), (4, .ptr (4, 0) [] 0 0 1 0), (5, .ptr (5, 0) [] 0 0 1 0), (6, .t (.v (.int .i64 nth))), (7, .t (.v (.int .i64 k)))]) (putR (List.replicate 55 []) [(2, [.mem [[.v (.int .i64 up.Kind), .v (.string up.Pre), .v (.string up.Local), .v (.string up.Uri), .sl false (up.Decls.map GDecl.row), .sl false (up.Attrs.map GAttr.row), .sl false (up.Kids.map (GNode.row false)), .v (.string up.Text)]] 0 false]), (4, [.mem [[.v (.bool false), .v (.int .i64 0), .v (.string (⟨#[]⟩)), .v (.string (⟨#[]⟩)), .sl true []]] 0 false]), (5, [.mem [[.v (.int .i64 x.Kind), .v (.string x.Pre), .v (.string x.Local), .v (.string x.Uri), .sl false (x.Decls.map GDecl.row), .sl false (x.Attrs.map GAttr.row), .sl false (x.Kids.map (GNode.row false)), .v (.string x.Text)]] 0 false])])) := spec_l19Step_l10_ok' i up x nth k

theorem spec_l19Step_ok : ∀ (up : GNode) (i : Int), Ok (spec_l19Step up i) e_spec_l19Step (dn FTA n_spec_l19Step [.agg (((GNode.row false) up).map .t), .t (.v (.int .i64 i))]) := by
  intro up i
  rw [den_ev FTA (fn := k_spec_l19Step) rfl (xOf_none rfl rfl _) (Nat.le_of_ble_eq_true rfl)]
  simp only [SSA, RS, c_spec_l19Step, k_spec_l19Step, spec_l19Step, Nat.reduceAdd, Nat.reduceSub, Nat.reduceMul, Nat.reduceLeDiff, Nat.reduceLT, Nat.reduceEqDiff, Nat.reduceBEq, ↓reduceIte, reduceCtorEq]
  repeat' first
    | with_reducible exact Ok_none
    | ((with_reducible refine Ok_ret ?_); first | rfl | (simp only [SSA, RS, e_spec_l19Step, Nat.reduceAdd, Nat.reduceSub, Nat.reduceMul, Nat.reduceLeDiff, Nat.reduceLT, Nat.reduceEqDiff, Nat.reduceBEq, ↓reduceIte, reduceCtorEq]; done))
    | ((with_reducible refine Ok_tail (spec_l19Step_l10_ok _ _ _ _ _) ?_); first | rfl | (simp only [SSA, RS, c_spec_l19Step, Nat.reduceAdd, Nat.reduceSub, Nat.reduceMul, Nat.reduceLeDiff, Nat.reduceLT, Nat.reduceEqDiff, Nat.reduceBEq, ↓reduceIte, reduceCtorEq]; done) | (simp only [SSA, RS, c_spec_l19Step, Nat.reduceAdd, Nat.reduceSub, Nat.reduceMul, Nat.reduceLeDiff, Nat.reduceLT, Nat.reduceEqDiff, Nat.reduceBEq, ↓reduceIte, reduceCtorEq]; rfl))
    | ((first | with_reducible refine Ok_get fun a h => ?_) <;> simp only [SSA, RS, *, Nat.reduceAdd, Nat.reduceSub, Nat.reduceMul, Nat.reduceLeDiff, Nat.reduceLT, Nat.reduceEqDiff, Nat.reduceBEq, ↓reduceIte, reduceCtorEq])

def e_spec_SelFor (r : GSel × Bool) : Res := ⟨[.agg [.v (.string r.1.Id), .sl true (r.1.Steps.map (GStp.row true))], .t (.v (.bool r.2))], []⟩
def c_spec_SelFor : Cx := ⟨2, [0, 0], [.cell 4 2 true, .tmp 5]⟩
theorem spec_SelFor_l20_ok' (path : List Int) : ∀ (i : Int) (outSteps : List (GStp)) (x3 : GNode), Ok (spec_SelFor_l20 path i outSteps x3) e_spec_SelFor (ev FTA c_spec_SelFor (.loop k_spec_SelFor_l20) [.lv 0, .th k_spec_SelFor_r16] (putS (List.replicate 54 .dead) [(1, .t (.sl false (path.map rI))), (4, .ptr (4, 0) [] 0 0 1 0), (6, .ptr (6, 0) [] 0 0 1 0), (9, .ptr (9, 0) [] 0 0 1 0), (10, .t (.v (.int .i64 i)))]) (putR (List.replicate 54 []) [(4, [.mem [[.v (.string (⟨#[]⟩)), .sl true []]] 0 false]), (6, [.mem [[.v (.string (⟨#[]⟩)), .sl true (outSteps.map (GStp.row true))]] 0 false]), (9, [.mem [[.v (.int .i64 x3.Kind), .v (.string x3.Pre), .v (.string x3.Local), .v (.string x3.Uri), .sl false (x3.Decls.map GDecl.row), .sl false (x3.Attrs.map GAttr.row), .sl false (x3.Kids.map (GNode.row false)), .v (.string x3.Text)]] 0 false])])) := by
  unfold Ok
  refine spec_SelFor_l20.partial_correctness path _ ?_
  intro F ih i outSteps x3
  show Ok _ _ _
  have ih : ∀ (i : Int) (outSteps : List (GStp)) (x3 : GNode), Ok (F i outSteps x3) _ _ := ih
  rw [ev_loop]
  have g0 := spec_l19Step_ok; try simp only [SSA, RS, Nat.reduceAdd, Nat.reduceSub, Nat.reduceMul, Nat.reduceLeDiff, Nat.reduceLT, Nat.reduceEqDiff, Nat.reduceBEq, ↓reduceIte, reduceCtorEq] at g0
  simp only [SSA, RS, c_spec_SelFor, k_spec_SelFor_l20, k_spec_SelFor_r16, e_spec_l19Step, Nat.reduceAdd, Nat.reduceSub, Nat.reduceMul, Nat.reduceLeDiff, Nat.reduceLT, Nat.reduceEqDiff, Nat.reduceBEq, ↓reduceIte, reduceCtorEq]
  repeat' first
    | with_reducible exact Ok_none
    | ((with_reducible refine Ok_ret ?_); first | rfl | (simp only [SSA, RS, e_spec_SelFor, Nat.reduceAdd, Nat.reduceSub, Nat.reduceMul, Nat.reduceLeDiff, Nat.reduceLT, Nat.reduceEqDiff, Nat.reduceBEq, ↓reduceIte, reduceCtorEq]; done))
    | ((with_reducible refine Ok_tail (ih _ _ _) ?_); first | rfl | (simp only [SSA, RS, c_spec_SelFor, Nat.reduceAdd, Nat.reduceSub, Nat.reduceMul, Nat.reduceLeDiff, Nat.reduceLT, Nat.reduceEqDiff, Nat.reduceBEq, ↓reduceIte, reduceCtorEq]; done) | (simp only [SSA, RS, c_spec_SelFor, Nat.reduceAdd, Nat.reduceSub, Nat.reduceMul, Nat.reduceLeDiff, Nat.reduceLT, Nat.reduceEqDiff, Nat.reduceBEq, ↓reduceIte, reduceCtorEq]; rfl))
    | ((first | with_reducible refine Ok_if (fun h => ?_) (fun h => ?_) | with_reducible refine Ok_get fun a h => ?_ | with_reducible refine Ok_call (g0 _ _) fun v => ?_ | with_reducible refine Ok_prim (p := room _ _) fun a h => ?_ | refine Ok_call (g0 _ _) fun v => ?_) <;> simp only [SSA, RS, *, k_spec_SelFor_r16, e_spec_l19Step, Nat.reduceAdd, Nat.reduceSub, Nat.reduceMul, Nat.reduceLeDiff, Nat.reduceLT, Nat.reduceEqDiff, Nat.reduceBEq, ↓reduceIte, reduceCtorEq])
theorem spec_SelFor_l20_ok (path : List Int) (i : Int) (outSteps : List (GStp)) (x3 : GNode) : Ok (spec_SelFor_l20 path i outSteps x3) e_spec_SelFor (ev FTA c_spec_SelFor (.loop k_spec_SelFor_l20) [.lv 0, .th k_spec_SelFor_r16] (putS (List.replicate 54 .dead) [(1, .t (.sl false (path.map rI))), (4, .ptr (4, 0) [] 0 0 1 0), (6, .ptr (6, 0) [] 0 0 1 0), (9, .ptr (9, 0) [] 0 0 1 0), (10, .t (.v (.int .i64 i)))]) (putR (List.replicate 54 []) [(4, [.mem [[.v (.string (⟨#[]⟩)), .sl true []]] 0 false]), (6, [.mem [[.v (.string (⟨#[]⟩)), .sl true (outSteps.map (GStp.row true))]] 0 false]), (9, [.mem [[.v (.int .i64 x3.Kind), .v (.string x3.Pre), .v (.string x3.Local), .v (.string x3.Uri), .sl false (x3.Decls.map GDecl.row), .sl false (x3.Attrs.map GAttr.row), .sl false (x3.Kids.map (GNode.row false)), .v (.string x3.Text)]] 0 false])])) := spec_SelFor_l20_ok' path i outSteps x3

theorem spec_SelFor_ok : ∀ (t : GNode) (path : List Int), Ok (spec_SelFor t path) e_spec_SelFor (dn FTA n_spec_SelFor [.agg (((GNode.row false) t).map .t), .t (.sl false (path.map rI))]) := by
  intro t path
  rw [den_ev FTA (fn := k_spec_SelFor) rfl (xOf_none rfl rfl _) (Nat.le_of_ble_eq_true rfl)]
  have g0 := spec_NodeAt_ok; try simp only [SSA, RS, Nat.reduceAdd, Nat.reduceSub, Nat.reduceMul, Nat.reduceLeDiff, Nat.reduceLT, Nat.reduceEqDiff, Nat.reduceBEq, ↓reduceIte, reduceCtorEq] at g0
  have g1 := spec_l1In_ok; try simp only [SSA, RS, Nat.reduceAdd, Nat.reduceSub, Nat.reduceMul, Nat.reduceLeDiff, Nat.reduceLT, Nat.reduceEqDiff, Nat.reduceBEq, ↓reduceIte, reduceCtorEq] at g1
  simp only [SSA, RS, c_spec_SelFor, k_spec_SelFor, spec_SelFor, e_spec_NodeAt, e_spec_l1In, Nat.reduceAdd, Nat.reduceSub, Nat.reduceMul, Nat.reduceLeDiff, Nat.reduceLT, Nat.reduceEqDiff, Nat.reduceBEq, ↓reduceIte, reduceCtorEq]
  repeat' first
    | with_reducible exact Ok_none
    | ((with_reducible refine Ok_ret ?_); first | rfl | (simp only [SSA, RS, e_spec_SelFor, Nat.reduceAdd, Nat.reduceSub, Nat.reduceMul, Nat.reduceLeDiff, Nat.reduceLT, Nat.reduceEqDiff, Nat.reduceBEq, ↓reduceIte, reduceCtorEq]; done))
    | ((with_reducible refine Ok_tail (spec_SelFor_l20_ok _ _ _ _) ?_); first | rfl | (simp only [SSA, RS, c_spec_SelFor, Nat.reduceAdd, Nat.reduceSub, Nat.reduceMul, Nat.reduceLeDiff, Nat.reduceLT, Nat.reduceEqDiff, Nat.reduceBEq, ↓reduceIte, reduceCtorEq]; done) | (simp only [SSA, RS, c_spec_SelFor, Nat.reduceAdd, Nat.reduceSub, Nat.reduceMul, Nat.reduceLeDiff, Nat.reduceLT, Nat.reduceEqDiff, Nat.reduceBEq, ↓reduceIte, reduceCtorEq]; rfl))
    | ((first | with_reducible refine Ok_if (fun h => ?_) (fun h => ?_) | with_reducible refine Ok_call (g0 _ _) fun v => ?_ | with_reducible refine Ok_call (g1 _ _ _) fun v => ?_ | refine Ok_call (g0 _ _) fun v => ?_ | refine Ok_call (g1 _ _ _) fun v => ?_) <;> simp only [SSA, RS, *, e_spec_NodeAt, e_spec_l1In, Nat.reduceAdd, Nat.reduceSub, Nat.reduceMul, Nat.reduceLeDiff, Nat.reduceLT, Nat.reduceEqDiff, Nat.reduceBEq, ↓reduceIte, reduceCtorEq])

def e_spec_SignAt (r : Int × Int × Bool) : Res := ⟨[.t (.v (.int .i64 r.1)), .t (.v (.int .i64 r.2.1)), .t (.v (.bool r.2.2))], []⟩
def c_spec_SignAt : Cx := ⟨2, [0, 0], [.tmp 4, .tmp 5, .tmp 6]⟩
theorem spec_SignAt_l55_ok' (s : ByteArray) (at1 : Int) (n : Int) (least : Int) : ∀ (v1 : Int) (i : Int), Ok (spec_SignAt_l55 s at1 n least v1 i) e_spec_SignAt (ev FTA c_spec_SignAt (.loop k_spec_SignAt_l55) [.lv 1, .th k_spec_SignAt_r51] (putS (List.replicate 102 .dead) [(0, .t (.v (.string s))), (1, .t (.v (.int .i64 at1))), (8, .t (.v (.int .i64 n))), (9, .t (.v (.int .i64 least))), (10, .t (.v (.int .i64 v1))), (11, .t (.v (.int .i64 i)))]) (putR (List.replicate 102 []) [])) := by
  unfold Ok
  refine spec_SignAt_l55.partial_correctness s at1 n least _ ?_
  intro F ih v1 i
  show Ok _ _ _
  have ih : ∀ (v1 : Int) (i : Int), Ok (F v1 i) _ _ := ih
  rw [ev_loop]
  have g0 := spec_l1In_ok; try simp only [SSA, RS, Nat.reduceAdd, Nat.reduceSub, Nat.reduceMul, Nat.reduceLeDiff, Nat.reduceLT, Nat.reduceEqDiff, Nat.reduceBEq, ↓reduceIte, reduceCtorEq] at g0
  simp only [SSA, RS, c_spec_SignAt, k_spec_SignAt_l55, k_spec_SignAt_r51, e_spec_l1In, Nat.reduceAdd, Nat.reduceSub, Nat.reduceMul, Nat.reduceLeDiff, Nat.reduceLT, Nat.reduceEqDiff, Nat.reduceBEq, ↓reduceIte, reduceCtorEq]
  repeat' first
    | with_reducible exact Ok_none
    | ((with_reducible refine Ok_ret ?_); first | rfl | (simp only [SSA, RS, e_spec_SignAt, Nat.reduceAdd, Nat.reduceSub, Nat.reduceMul, Nat.reduceLeDiff, Nat.reduceLT, Nat.reduceEqDiff, Nat.reduceBEq, ↓reduceIte, reduceCtorEq]; done))
    | ((with_reducible refine Ok_tail (ih _ _) ?_); first | rfl | (simp only [SSA, RS, c_spec_SignAt, Nat.reduceAdd, Nat.reduceSub, Nat.reduceMul, Nat.reduceLeDiff, Nat.reduceLT, Nat.reduceEqDiff, Nat.reduceBEq, ↓reduceIte, reduceCtorEq]; done) | (simp only [SSA, RS, c_spec_SignAt, Nat.reduceAdd, Nat.reduceSub, Nat.reduceMul, Nat.reduceLeDiff, Nat.reduceLT, Nat.reduceEqDiff, Nat.reduceBEq, ↓reduceIte, reduceCtorEq]; rfl))
    | ((first | with_reducible refine Ok_if (fun h => ?_) (fun h => ?_) | with_reducible refine Ok_call (g0 _ _ _) fun v => ?_ | with_reducible refine Ok_prim (p := atS _ _) fun a h => ?_ | refine Ok_call (g0 _ _ _) fun v => ?_) <;> simp only [SSA, RS, *, k_spec_SignAt_r51, e_spec_l1In, Nat.reduceAdd, Nat.reduceSub, Nat.reduceMul, Nat.reduceLeDiff, Nat.reduceLT, Nat.reduceEqDiff, Nat.reduceBEq, ↓reduceIte, reduceCtorEq])
theorem spec_SignAt_l55_ok (s : ByteArray) (at1 : Int) (n : Int) (least : Int) (v1 : Int) (i : Int) : Ok (spec_SignAt_l55 s at1 n least v1 i) e_spec_SignAt (ev FTA c_spec_SignAt (.loop k_spec_SignAt_l55) [.lv 1, .th k_spec_SignAt_r51] (putS (List.replicate 102 .dead) [(0, .t (.v (.string s))), (1, .t (.v (.int .i64 at1))), (8, .t (.v (.int .i64 n))), (9, .t (.v (.int .i64 least))), (10, .t (.v (.int .i64 v1))), (11, .t (.v (.int .i64 i)))]) (putR (List.replicate 102 []) [])) := spec_SignAt_l55_ok' s at1 n least v1 i

theorem spec_SignAt_j26_ok : ∀ (s : ByteArray) (at1 : Int) (n : Int) (least : Int) (v : Int), Ok (spec_SignAt_j26 s at1 n least v) e_spec_SignAt (ev FTA c_spec_SignAt k_spec_SignAt_r26 [] (putS (List.replicate 102 .dead) [(0, .t (.v (.string s))), (1, .t (.v (.int .i64 at1))), (8, .t (.v (.int .i64 n))), (9, .t (.v (.int .i64 least))), (10, .t (.v (.int .i64 v)))]) (putR (List.replicate 102 []) [])) := by
  intro s at1 n least v
  simp only [SSA, RS, c_spec_SignAt, k_spec_SignAt_r26, spec_SignAt_j26, Nat.reduceAdd, Nat.reduceSub, Nat.reduceMul, Nat.reduceLeDiff, Nat.reduceLT, Nat.reduceEqDiff, Nat.reduceBEq, ↓reduceIte, reduceCtorEq]
  repeat' first
    | with_reducible exact Ok_none
    | ((with_reducible refine Ok_ret ?_); first | rfl | (simp only [SSA, RS, e_spec_SignAt, Nat.reduceAdd, Nat.reduceSub, Nat.reduceMul, Nat.reduceLeDiff, Nat.reduceLT, Nat.reduceEqDiff, Nat.reduceBEq, ↓reduceIte, reduceCtorEq]; done))
    | ((with_reducible refine Ok_tail (spec_SignAt_l55_ok _ _ _ _ _ _) ?_); first | rfl | (simp only [SSA, RS, c_spec_SignAt, Nat.reduceAdd, Nat.reduceSub, Nat.reduceMul, Nat.reduceLeDiff, Nat.reduceLT, Nat.reduceEqDiff, Nat.reduceBEq, ↓reduceIte, reduceCtorEq]; done) | (simp only [SSA, RS, c_spec_SignAt, Nat.reduceAdd, Nat.reduceSub, Nat.reduceMul, Nat.reduceLeDiff, Nat.reduceLT, Nat.reduceEqDiff, Nat.reduceBEq, ↓reduceIte, reduceCtorEq]; rfl))
    | ((first | with_reducible refine Ok_if (fun h => ?_) (fun h => ?_)) <;> simp only [SSA, RS, *, Nat.reduceAdd, Nat.reduceSub, Nat.reduceMul, Nat.reduceLeDiff, Nat.reduceLT, Nat.reduceEqDiff, Nat.reduceBEq, ↓reduceIte, reduceCtorEq])

theorem spec_SignAt_j32_ok : ∀ (s : ByteArray) (at1 : Int) (x : Int) (x2 : Bool), Ok (spec_SignAt_j32 s at1 x x2) e_spec_SignAt (ev FTA c_spec_SignAt k_spec_SignAt_r32 [.lv 0, .hk [.clean []], .th k_spec_SignAt_r26] (putS (List.replicate 102 .dead) [(0, .t (.v (.string s))), (1, .t (.v (.int .i64 at1))), (7, .t (.v (.int .i64 (wr .i64 x)))), (39, .t (.v (.bool x2)))]) (putR (List.replicate 102 []) [])) := by
  intro s at1 x x2
  simp only [SSA, RS, c_spec_SignAt, k_spec_SignAt_r32, spec_SignAt_j32, Nat.reduceAdd, Nat.reduceSub, Nat.reduceMul, Nat.reduceLeDiff, Nat.reduceLT, Nat.reduceEqDiff, Nat.reduceBEq, ↓reduceIte, reduceCtorEq]
  repeat' first
    | with_reducible exact Ok_none
    | ((with_reducible refine Ok_ret ?_); first | rfl | (simp only [SSA, RS, e_spec_SignAt, Nat.reduceAdd, Nat.reduceSub, Nat.reduceMul, Nat.reduceLeDiff, Nat.reduceLT, Nat.reduceEqDiff, Nat.reduceBEq, ↓reduceIte, reduceCtorEq]; done))
    | ((with_reducible refine Ok_tail (spec_SignAt_j26_ok _ _ _ _ _) ?_); first | rfl | (simp only [SSA, RS, c_spec_SignAt, Nat.reduceAdd, Nat.reduceSub, Nat.reduceMul, Nat.reduceLeDiff, Nat.reduceLT, Nat.reduceEqDiff, Nat.reduceBEq, ↓reduceIte, reduceCtorEq]; done) | (simp only [SSA, RS, c_spec_SignAt, Nat.reduceAdd, Nat.reduceSub, Nat.reduceMul, Nat.reduceLeDiff, Nat.reduceLT, Nat.reduceEqDiff, Nat.reduceBEq, ↓reduceIte, reduceCtorEq]; rfl))
    | ((first | with_reducible refine Ok_if (fun h => ?_) (fun h => ?_)) <;> simp only [SSA, RS, *, Nat.reduceAdd, Nat.reduceSub, Nat.reduceMul, Nat.reduceLeDiff, Nat.reduceLT, Nat.reduceEqDiff, Nat.reduceBEq, ↓reduceIte, reduceCtorEq])

theorem spec_SignAt_j28_ok : ∀ (s : ByteArray) (at1 : Int) (x : Int) (x1 : Bool), Ok (spec_SignAt_j28 s at1 x x1) e_spec_SignAt (ev FTA c_spec_SignAt k_spec_SignAt_r28 [.lv 0, .hk [.clean []], .th k_spec_SignAt_r26] (putS (List.replicate 102 .dead) [(0, .t (.v (.string s))), (1, .t (.v (.int .i64 at1))), (7, .t (.v (.int .i64 (wr .i64 x)))), (30, .t (.v (.bool x1)))]) (putR (List.replicate 102 []) [])) := by
  intro s at1 x x1
  simp only [SSA, RS, c_spec_SignAt, k_spec_SignAt_r28, spec_SignAt_j28, Nat.reduceAdd, Nat.reduceSub, Nat.reduceMul, Nat.reduceLeDiff, Nat.reduceLT, Nat.reduceEqDiff, Nat.reduceBEq, ↓reduceIte, reduceCtorEq]
  repeat' first
    | with_reducible exact Ok_none
    | ((with_reducible refine Ok_ret ?_); first | rfl | (simp only [SSA, RS, e_spec_SignAt, Nat.reduceAdd, Nat.reduceSub, Nat.reduceMul, Nat.reduceLeDiff, Nat.reduceLT, Nat.reduceEqDiff, Nat.reduceBEq, ↓reduceIte, reduceCtorEq]; done))
    | ((with_reducible refine Ok_tail (spec_SignAt_j26_ok _ _ _ _ _) ?_); first | rfl | (simp only [SSA, RS, c_spec_SignAt, Nat.reduceAdd, Nat.reduceSub, Nat.reduceMul, Nat.reduceLeDiff, Nat.reduceLT, Nat.reduceEqDiff, Nat.reduceBEq, ↓reduceIte, reduceCtorEq]; done) | (simp only [SSA, RS, c_spec_SignAt, Nat.reduceAdd, Nat.reduceSub, Nat.reduceMul, Nat.reduceLeDiff, Nat.reduceLT, Nat.reduceEqDiff, Nat.reduceBEq, ↓reduceIte, reduceCtorEq]; rfl))
    | ((with_reducible refine Ok_tail (spec_SignAt_j32_ok _ _ _ _) ?_); first | rfl | (simp only [SSA, RS, c_spec_SignAt, Nat.reduceAdd, Nat.reduceSub, Nat.reduceMul, Nat.reduceLeDiff, Nat.reduceLT, Nat.reduceEqDiff, Nat.reduceBEq, ↓reduceIte, reduceCtorEq]; done) | (simp only [SSA, RS, c_spec_SignAt, Nat.reduceAdd, Nat.reduceSub, Nat.reduceMul, Nat.reduceLeDiff, Nat.reduceLT, Nat.reduceEqDiff, Nat.reduceBEq, ↓reduceIte, reduceCtorEq]; rfl))
    | ((first | with_reducible refine Ok_if (fun h => ?_) (fun h => ?_)) <;> simp only [SSA, RS, *, Nat.reduceAdd, Nat.reduceSub, Nat.reduceMul, Nat.reduceLeDiff, Nat.reduceLT, Nat.reduceEqDiff, Nat.reduceBEq, ↓reduceIte, reduceCtorEq])

theorem spec_SignAt_ok : ∀ (s : ByteArray) (at1 : Int), Ok (spec_SignAt s at1) e_spec_SignAt (dn FTA n_spec_SignAt [.t (.v (.string s)), .t (.v (.int .i64 at1))]) := by
  intro s at1
  rw [den_ev FTA (fn := k_spec_SignAt) rfl (xOf_none rfl rfl _) (Nat.le_of_ble_eq_true rfl)]
  simp only [SSA, RS, c_spec_SignAt, k_spec_SignAt, spec_SignAt, Nat.reduceAdd, Nat.reduceSub, Nat.reduceMul, Nat.reduceLeDiff, Nat.reduceLT, Nat.reduceEqDiff, Nat.reduceBEq, ↓reduceIte, reduceCtorEq]
  repeat' first
    | with_reducible exact Ok_none
    | ((with_reducible refine Ok_ret ?_); first | rfl | (simp only [SSA, RS, e_spec_SignAt, Nat.reduceAdd, Nat.reduceSub, Nat.reduceMul, Nat.reduceLeDiff, Nat.reduceLT, Nat.reduceEqDiff, Nat.reduceBEq, ↓reduceIte, reduceCtorEq]; done))
    | ((with_reducible refine Ok_tail (spec_SignAt_j28_ok _ _ _ _) ?_); first | rfl | (simp only [SSA, RS, c_spec_SignAt, Nat.reduceAdd, Nat.reduceSub, Nat.reduceMul, Nat.reduceLeDiff, Nat.reduceLT, Nat.reduceEqDiff, Nat.reduceBEq, ↓reduceIte, reduceCtorEq]; done) | (simp only [SSA, RS, c_spec_SignAt, Nat.reduceAdd, Nat.reduceSub, Nat.reduceMul, Nat.reduceLeDiff, Nat.reduceLT, Nat.reduceEqDiff, Nat.reduceBEq, ↓reduceIte, reduceCtorEq]; rfl))
    | ((first | with_reducible refine Ok_if (fun h => ?_) (fun h => ?_) | with_reducible refine Ok_prim (p := atS _ _) fun a h => ?_) <;> simp only [SSA, RS, *, Nat.reduceAdd, Nat.reduceSub, Nat.reduceMul, Nat.reduceLeDiff, Nat.reduceLT, Nat.reduceEqDiff, Nat.reduceBEq, ↓reduceIte, reduceCtorEq])

def e_spec_l1Ranges (r : Bool) : Res := ⟨[.t (.v (.bool r))], []⟩
def c_spec_l1Ranges : Cx := ⟨2, [0, 0], [.tmp 4]⟩
theorem spec_l1Ranges_l6_ok' (n : Int) (l : List Int) : ∀ (i : Int), Ok (spec_l1Ranges_l6 n l i) e_spec_l1Ranges (ev FTA c_spec_l1Ranges (.loop k_spec_l1Ranges_l6) [.lv 0, .th k_spec_l1Ranges_r2] (putS (List.replicate 24 .dead) [(0, .t (.v (.int .i64 n))), (1, .t (.sl false (l.map rI))), (5, .t (.v (.int .i64 i)))]) (putR (List.replicate 24 []) [])) := by
  unfold Ok
  refine spec_l1Ranges_l6.partial_correctness n l _ ?_
  intro F ih i
  show Ok _ _ _
  have ih : ∀ (i : Int), Ok (F i) _ _ := ih
  rw [ev_loop]
  have g0 := spec_l1In_ok; try simp only [SSA, RS, Nat.reduceAdd, Nat.reduceSub, Nat.reduceMul, Nat.reduceLeDiff, Nat.reduceLT, Nat.reduceEqDiff, Nat.reduceBEq, ↓reduceIte, reduceCtorEq] at g0
  simp only [SSA, RS, c_spec_l1Ranges, k_spec_l1Ranges_l6, k_spec_l1Ranges_r2, e_spec_l1In, Nat.reduceAdd, Nat.reduceSub, Nat.reduceMul, Nat.reduceLeDiff, Nat.reduceLT, Nat.reduceEqDiff, Nat.reduceBEq, ↓reduceIte, reduceCtorEq]
  repeat' first
    | with_reducible exact Ok_none
    | ((with_reducible refine Ok_ret ?_); first | rfl | (simp only [SSA, RS, e_spec_l1Ranges, Nat.reduceAdd, Nat.reduceSub, Nat.reduceMul, Nat.reduceLeDiff, Nat.reduceLT, Nat.reduceEqDiff, Nat.reduceBEq, ↓reduceIte, reduceCtorEq]; done))
    | ((with_reducible refine Ok_tail (ih _) ?_); first | rfl | (simp only [SSA, RS, c_spec_l1Ranges, Nat.reduceAdd, Nat.reduceSub, Nat.reduceMul, Nat.reduceLeDiff, Nat.reduceLT, Nat.reduceEqDiff, Nat.reduceBEq, ↓reduceIte, reduceCtorEq]; done) | (simp only [SSA, RS, c_spec_l1Ranges, Nat.reduceAdd, Nat.reduceSub, Nat.reduceMul, Nat.reduceLeDiff, Nat.reduceLT, Nat.reduceEqDiff, Nat.reduceBEq, ↓reduceIte, reduceCtorEq]; rfl))
    | ((first | with_reducible refine Ok_if (fun h => ?_) (fun h => ?_) | with_reducible refine Ok_get fun a h => ?_ | with_reducible refine Ok_call (g0 _ _ _) fun v => ?_ | refine Ok_call (g0 _ _ _) fun v => ?_) <;> simp only [SSA, RS, *, k_spec_l1Ranges_r2, e_spec_l1In, Nat.reduceAdd, Nat.reduceSub, Nat.reduceMul, Nat.reduceLeDiff, Nat.reduceLT, Nat.reduceEqDiff, Nat.reduceBEq, ↓reduceIte, reduceCtorEq])
theorem spec_l1Ranges_l6_ok (n : Int) (l : List Int) (i : Int) : Ok (spec_l1Ranges_l6 n l i) e_spec_l1Ranges (ev FTA c_spec_l1Ranges (.loop k_spec_l1Ranges_l6) [.lv 0, .th k_spec_l1Ranges_r2] (putS (List.replicate 24 .dead) [(0, .t (.v (.int .i64 n))), (1, .t (.sl false (l.map rI))), (5, .t (.v (.int .i64 i)))]) (putR (List.replicate 24 []) [])) := spec_l1Ranges_l6_ok' n l i

theorem spec_l1Ranges_ok : ∀ (n : Int) (l : List Int), Ok (spec_l1Ranges n l) e_spec_l1Ranges (dn FTA n_spec_l1Ranges [.t (.v (.int .i64 n)), .t (.sl false (l.map rI))]) := by
  intro n l
  rw [den_ev FTA (fn := k_spec_l1Ranges) rfl (xOf_none rfl rfl _) (Nat.le_of_ble_eq_true rfl)]
  simp only [SSA, RS, c_spec_l1Ranges, k_spec_l1Ranges, spec_l1Ranges, Nat.reduceAdd, Nat.reduceSub, Nat.reduceMul, Nat.reduceLeDiff, Nat.reduceLT, Nat.reduceEqDiff, Nat.reduceBEq, ↓reduceIte, reduceCtorEq]
  repeat' first
    | with_reducible exact Ok_none
    | ((with_reducible refine Ok_ret ?_); first | rfl | (simp only [SSA, RS, e_spec_l1Ranges, Nat.reduceAdd, Nat.reduceSub, Nat.reduceMul, Nat.reduceLeDiff, Nat.reduceLT, Nat.reduceEqDiff, Nat.reduceBEq, ↓reduceIte, reduceCtorEq]; done))
    | ((with_reducible refine Ok_tail (spec_l1Ranges_l6_ok _ _ _) ?_); first | rfl | (simp only [SSA, RS, c_spec_l1Ranges, Nat.reduceAdd, Nat.reduceSub, Nat.reduceMul, Nat.reduceLeDiff, Nat.reduceLT, Nat.reduceEqDiff, Nat.reduceBEq, ↓reduceIte, reduceCtorEq]; done) | (simp only [SSA, RS, c_spec_l1Ranges, Nat.reduceAdd, Nat.reduceSub, Nat.reduceMul, Nat.reduceLeDiff, Nat.reduceLT, Nat.reduceEqDiff, Nat.reduceBEq, ↓reduceIte, reduceCtorEq]; rfl))

def e_spec_IsStart (r : Bool) : Res := ⟨[.t (.v (.bool r))], []⟩
def c_spec_IsStart : Cx := ⟨1, [0], [.tmp 2]⟩
theorem spec_IsStart_ok : ∀ (n : Int), Ok (spec_IsStart n) e_spec_IsStart (dn FTA n_spec_IsStart [.t (.v (.int .i64 n))]) := by
  intro n
  rw [den_ev FTA (fn := k_spec_IsStart) rfl (xOf_none rfl rfl _) (Nat.le_of_ble_eq_true rfl)]
  have g0 := spec_l1Ranges_ok; try simp only [SSA, RS, Nat.reduceAdd, Nat.reduceSub, Nat.reduceMul, Nat.reduceLeDiff, Nat.reduceLT, Nat.reduceEqDiff, Nat.reduceBEq, ↓reduceIte, reduceCtorEq] at g0
  simp only [SSA, RS, c_spec_IsStart, k_spec_IsStart, spec_IsStart, e_spec_l1Ranges, Nat.reduceAdd, Nat.reduceSub, Nat.reduceMul, Nat.reduceLeDiff, Nat.reduceLT, Nat.reduceEqDiff, Nat.reduceBEq, ↓reduceIte, reduceCtorEq]
  repeat' first
    | with_reducible exact Ok_none
    | ((with_reducible refine Ok_ret ?_); first | rfl | (simp only [SSA, RS, e_spec_IsStart, Nat.reduceAdd, Nat.reduceSub, Nat.reduceMul, Nat.reduceLeDiff, Nat.reduceLT, Nat.reduceEqDiff, Nat.reduceBEq, ↓reduceIte, reduceCtorEq]; done))
    | ((first | with_reducible refine Ok_call (g0 _ _) fun v => ?_ | refine Ok_call (g0 _ _) fun v => ?_) <;> simp only [SSA, RS, *, e_spec_l1Ranges, Nat.reduceAdd, Nat.reduceSub, Nat.reduceMul, Nat.reduceLeDiff, Nat.reduceLT, Nat.reduceEqDiff, Nat.reduceBEq, ↓reduceIte, reduceCtorEq])

def e_spec_IsPart (r : Bool) : Res := ⟨[.t (.v (.bool r))], []⟩
def c_spec_IsPart : Cx := ⟨1, [0], [.tmp 2]⟩
theorem spec_IsPart_ok : ∀ (n : Int), Ok (spec_IsPart n) e_spec_IsPart (dn FTA n_spec_IsPart [.t (.v (.int .i64 n))]) := by
  intro n
  rw [den_ev FTA (fn := k_spec_IsPart) rfl (xOf_none rfl rfl _) (Nat.le_of_ble_eq_true rfl)]
  have g0 := spec_IsStart_ok; try simp only [SSA, RS, Nat.reduceAdd, Nat.reduceSub, Nat.reduceMul, Nat.reduceLeDiff, Nat.reduceLT, Nat.reduceEqDiff, Nat.reduceBEq, ↓reduceIte, reduceCtorEq] at g0
  have g1 := spec_l1Ranges_ok; try simp only [SSA, RS, Nat.reduceAdd, Nat.reduceSub, Nat.reduceMul, Nat.reduceLeDiff, Nat.reduceLT, Nat.reduceEqDiff, Nat.reduceBEq, ↓reduceIte, reduceCtorEq] at g1
  simp only [SSA, RS, c_spec_IsPart, k_spec_IsPart, spec_IsPart, e_spec_IsStart, e_spec_l1Ranges, Nat.reduceAdd, Nat.reduceSub, Nat.reduceMul, Nat.reduceLeDiff, Nat.reduceLT, Nat.reduceEqDiff, Nat.reduceBEq, ↓reduceIte, reduceCtorEq]
  repeat' first
    | with_reducible exact Ok_none
    | ((with_reducible refine Ok_ret ?_); first | rfl | (simp only [SSA, RS, e_spec_IsPart, Nat.reduceAdd, Nat.reduceSub, Nat.reduceMul, Nat.reduceLeDiff, Nat.reduceLT, Nat.reduceEqDiff, Nat.reduceBEq, ↓reduceIte, reduceCtorEq]; done))
    | ((first | with_reducible refine Ok_if (fun h => ?_) (fun h => ?_) | with_reducible refine Ok_call (g0 _) fun v => ?_ | with_reducible refine Ok_call (g1 _ _) fun v => ?_ | refine Ok_call (g0 _) fun v => ?_ | refine Ok_call (g1 _ _) fun v => ?_) <;> simp only [SSA, RS, *, e_spec_IsStart, e_spec_l1Ranges, Nat.reduceAdd, Nat.reduceSub, Nat.reduceMul, Nat.reduceLeDiff, Nat.reduceLT, Nat.reduceEqDiff, Nat.reduceBEq, ↓reduceIte, reduceCtorEq])

def e_spec_PlainOk (r : Bool) : Res := ⟨[.t (.v (.bool r))], []⟩
def c_spec_PlainOk : Cx := ⟨1, [0], [.tmp 2]⟩
theorem spec_PlainOk_l14_ok' (s : ByteArray) : ∀ (at1 : Int), Ok (spec_PlainOk_l14 s at1) e_spec_PlainOk (ev FTA c_spec_PlainOk (.loop k_spec_PlainOk_l14) [.lv 0, .th k_spec_PlainOk_r10] (putS (List.replicate 39 .dead) [(0, .t (.v (.string s))), (3, .t (.v (.int .i64 at1)))]) (putR (List.replicate 39 []) [])) := by
  unfold Ok
  refine spec_PlainOk_l14.partial_correctness s _ ?_
  intro F ih at1
  show Ok _ _ _
  have ih : ∀ (at1 : Int), Ok (F at1) _ _ := ih
  rw [ev_loop]
  have g0 := spec_SignAt_ok; try simp only [SSA, RS, Nat.reduceAdd, Nat.reduceSub, Nat.reduceMul, Nat.reduceLeDiff, Nat.reduceLT, Nat.reduceEqDiff, Nat.reduceBEq, ↓reduceIte, reduceCtorEq] at g0
  have g1 := spec_IsStart_ok; try simp only [SSA, RS, Nat.reduceAdd, Nat.reduceSub, Nat.reduceMul, Nat.reduceLeDiff, Nat.reduceLT, Nat.reduceEqDiff, Nat.reduceBEq, ↓reduceIte, reduceCtorEq] at g1
  have g2 := spec_IsPart_ok; try simp only [SSA, RS, Nat.reduceAdd, Nat.reduceSub, Nat.reduceMul, Nat.reduceLeDiff, Nat.reduceLT, Nat.reduceEqDiff, Nat.reduceBEq, ↓reduceIte, reduceCtorEq] at g2
  simp only [SSA, RS, c_spec_PlainOk, k_spec_PlainOk_l14, k_spec_PlainOk_r10, e_spec_IsPart, e_spec_IsStart, e_spec_SignAt, Nat.reduceAdd, Nat.reduceSub, Nat.reduceMul, Nat.reduceLeDiff, Nat.reduceLT, Nat.reduceEqDiff, Nat.reduceBEq, ↓reduceIte, reduceCtorEq]
  repeat' first
    | with_reducible exact Ok_none
    | ((with_reducible refine Ok_ret ?_); first | rfl | (simp only [SSA, RS, e_spec_PlainOk, Nat.reduceAdd, Nat.reduceSub, Nat.reduceMul, Nat.reduceLeDiff, Nat.reduceLT, Nat.reduceEqDiff, Nat.reduceBEq, ↓reduceIte, reduceCtorEq]; done))
    | ((with_reducible refine Ok_tail (ih _) ?_); first | rfl | (simp only [SSA, RS, c_spec_PlainOk, Nat.reduceAdd, Nat.reduceSub, Nat.reduceMul, Nat.reduceLeDiff, Nat.reduceLT, Nat.reduceEqDiff, Nat.reduceBEq, ↓reduceIte, reduceCtorEq]; done) | (simp only [SSA, RS, c_spec_PlainOk, Nat.reduceAdd, Nat.reduceSub, Nat.reduceMul, Nat.reduceLeDiff, Nat.reduceLT, Nat.reduceEqDiff, Nat.reduceBEq, ↓reduceIte, reduceCtorEq]; rfl))
    | ((first | with_reducible refine Ok_if (fun h => ?_) (fun h => ?_) | with_reducible refine Ok_call (g0 _ _) fun v => ?_ | with_reducible refine Ok_call (g1 _) fun v => ?_ | with_reducible refine Ok_call (g2 _) fun v => ?_ | refine Ok_call (g0 _ _) fun v => ?_ | refine Ok_call (g1 _) fun v => ?_ | refine Ok_call (g2 _) fun v => ?_) <;> simp only [SSA, RS, *, k_spec_PlainOk_r10, e_spec_IsPart, e_spec_IsStart, e_spec_SignAt, Nat.reduceAdd, Nat.reduceSub, Nat.reduceMul, Nat.reduceLeDiff, Nat.reduceLT, Nat.reduceEqDiff, Nat.reduceBEq, ↓reduceIte, reduceCtorEq])
theorem spec_PlainOk_l14_ok (s : ByteArray) (at1 : Int) : Ok (spec_PlainOk_l14 s at1) e_spec_PlainOk (ev FTA c_spec_PlainOk (.loop k_spec_PlainOk_l14) [.lv 0, .th k_spec_PlainOk_r10] (putS (List.replicate 39 .dead) [(0, .t (.v (.string s))), (3, .t (.v (.int .i64 at1)))]) (putR (List.replicate 39 []) [])) := spec_PlainOk_l14_ok' s at1

theorem spec_PlainOk_ok : ∀ (s : ByteArray), Ok (spec_PlainOk s) e_spec_PlainOk (dn FTA n_spec_PlainOk [.t (.v (.string s))]) := by
  intro s
  rw [den_ev FTA (fn := k_spec_PlainOk) rfl (xOf_none rfl rfl _) (Nat.le_of_ble_eq_true rfl)]
  have g0 := spec_l1In_ok; try simp only [SSA, RS, Nat.reduceAdd, Nat.reduceSub, Nat.reduceMul, Nat.reduceLeDiff, Nat.reduceLT, Nat.reduceEqDiff, Nat.reduceBEq, ↓reduceIte, reduceCtorEq] at g0
  simp only [SSA, RS, c_spec_PlainOk, k_spec_PlainOk, spec_PlainOk, e_spec_l1In, Nat.reduceAdd, Nat.reduceSub, Nat.reduceMul, Nat.reduceLeDiff, Nat.reduceLT, Nat.reduceEqDiff, Nat.reduceBEq, ↓reduceIte, reduceCtorEq]
  repeat' first
    | with_reducible exact Ok_none
    | ((with_reducible refine Ok_ret ?_); first | rfl | (simp only [SSA, RS, e_spec_PlainOk, Nat.reduceAdd, Nat.reduceSub, Nat.reduceMul, Nat.reduceLeDiff, Nat.reduceLT, Nat.reduceEqDiff, Nat.reduceBEq, ↓reduceIte, reduceCtorEq]; done))
    | ((with_reducible refine Ok_tail (spec_PlainOk_l14_ok _ _) ?_); first | rfl | (simp only [SSA, RS, c_spec_PlainOk, Nat.reduceAdd, Nat.reduceSub, Nat.reduceMul, Nat.reduceLeDiff, Nat.reduceLT, Nat.reduceEqDiff, Nat.reduceBEq, ↓reduceIte, reduceCtorEq]; done) | (simp only [SSA, RS, c_spec_PlainOk, Nat.reduceAdd, Nat.reduceSub, Nat.reduceMul, Nat.reduceLeDiff, Nat.reduceLT, Nat.reduceEqDiff, Nat.reduceBEq, ↓reduceIte, reduceCtorEq]; rfl))
    | ((first | with_reducible refine Ok_if (fun h => ?_) (fun h => ?_) | with_reducible refine Ok_call (g0 _ _ _) fun v => ?_ | refine Ok_call (g0 _ _ _) fun v => ?_) <;> simp only [SSA, RS, *, e_spec_l1In, Nat.reduceAdd, Nat.reduceSub, Nat.reduceMul, Nat.reduceLeDiff, Nat.reduceLT, Nat.reduceEqDiff, Nat.reduceBEq, ↓reduceIte, reduceCtorEq])

def e_spec_SplitName (r : ByteArray × ByteArray × Bool) : Res := ⟨[.t (.v (.string r.1)), .t (.v (.string r.2.1)), .t (.v (.bool r.2.2))], []⟩
def c_spec_SplitName : Cx := ⟨1, [0], [.tmp 2, .tmp 3, .tmp 4]⟩
theorem spec_SplitName_l14_ok' (s : ByteArray) : ∀ (i : Int), Ok (spec_SplitName_l14 s i) e_spec_SplitName (ev FTA c_spec_SplitName (.loop k_spec_SplitName_l14) [.lv 0, .th k_spec_SplitName_r10] (putS (List.replicate 39 .dead) [(0, .t (.v (.string s))), (5, .t (.v (.int .i64 i)))]) (putR (List.replicate 39 []) [])) := by
  unfold Ok
  refine spec_SplitName_l14.partial_correctness s _ ?_
  intro F ih i
  show Ok _ _ _
  have ih : ∀ (i : Int), Ok (F i) _ _ := ih
  rw [ev_loop]
  have g0 := spec_PlainOk_ok; try simp only [SSA, RS, Nat.reduceAdd, Nat.reduceSub, Nat.reduceMul, Nat.reduceLeDiff, Nat.reduceLT, Nat.reduceEqDiff, Nat.reduceBEq, ↓reduceIte, reduceCtorEq] at g0
  simp only [SSA, RS, c_spec_SplitName, k_spec_SplitName_l14, k_spec_SplitName_r10, e_spec_PlainOk, Nat.reduceAdd, Nat.reduceSub, Nat.reduceMul, Nat.reduceLeDiff, Nat.reduceLT, Nat.reduceEqDiff, Nat.reduceBEq, ↓reduceIte, reduceCtorEq]
  repeat' first
    | with_reducible exact Ok_none
    | ((with_reducible refine Ok_ret ?_); first | rfl | (simp only [SSA, RS, e_spec_SplitName, Nat.reduceAdd, Nat.reduceSub, Nat.reduceMul, Nat.reduceLeDiff, Nat.reduceLT, Nat.reduceEqDiff, Nat.reduceBEq, ↓reduceIte, reduceCtorEq]; done))
    | ((with_reducible refine Ok_tail (ih _) ?_); first | rfl | (simp only [SSA, RS, c_spec_SplitName, Nat.reduceAdd, Nat.reduceSub, Nat.reduceMul, Nat.reduceLeDiff, Nat.reduceLT, Nat.reduceEqDiff, Nat.reduceBEq, ↓reduceIte, reduceCtorEq]; done) | (simp only [SSA, RS, c_spec_SplitName, Nat.reduceAdd, Nat.reduceSub, Nat.reduceMul, Nat.reduceLeDiff, Nat.reduceLT, Nat.reduceEqDiff, Nat.reduceBEq, ↓reduceIte, reduceCtorEq]; rfl))
    | ((first | with_reducible refine Ok_if (fun h => ?_) (fun h => ?_) | with_reducible refine Ok_call (g0 _) fun v => ?_ | with_reducible refine Ok_prim (p := subS _ _ _) fun a h => ?_ | with_reducible refine Ok_prim (p := atS _ _) fun a h => ?_ | refine Ok_call (g0 _) fun v => ?_) <;> simp only [SSA, RS, *, k_spec_SplitName_r10, e_spec_PlainOk, Nat.reduceAdd, Nat.reduceSub, Nat.reduceMul, Nat.reduceLeDiff, Nat.reduceLT, Nat.reduceEqDiff, Nat.reduceBEq, ↓reduceIte, reduceCtorEq])
theorem spec_SplitName_l14_ok (s : ByteArray) (i : Int) : Ok (spec_SplitName_l14 s i) e_spec_SplitName (ev FTA c_spec_SplitName (.loop k_spec_SplitName_l14) [.lv 0, .th k_spec_SplitName_r10] (putS (List.replicate 39 .dead) [(0, .t (.v (.string s))), (5, .t (.v (.int .i64 i)))]) (putR (List.replicate 39 []) [])) := spec_SplitName_l14_ok' s i

theorem spec_SplitName_ok : ∀ (s : ByteArray), Ok (spec_SplitName s) e_spec_SplitName (dn FTA n_spec_SplitName [.t (.v (.string s))]) := by
  intro s
  rw [den_ev FTA (fn := k_spec_SplitName) rfl (xOf_none rfl rfl _) (Nat.le_of_ble_eq_true rfl)]
  have g0 := spec_PlainOk_ok; try simp only [SSA, RS, Nat.reduceAdd, Nat.reduceSub, Nat.reduceMul, Nat.reduceLeDiff, Nat.reduceLT, Nat.reduceEqDiff, Nat.reduceBEq, ↓reduceIte, reduceCtorEq] at g0
  simp only [SSA, RS, c_spec_SplitName, k_spec_SplitName, spec_SplitName, e_spec_PlainOk, Nat.reduceAdd, Nat.reduceSub, Nat.reduceMul, Nat.reduceLeDiff, Nat.reduceLT, Nat.reduceEqDiff, Nat.reduceBEq, ↓reduceIte, reduceCtorEq]
  repeat' first
    | with_reducible exact Ok_none
    | ((with_reducible refine Ok_ret ?_); first | rfl | (simp only [SSA, RS, e_spec_SplitName, Nat.reduceAdd, Nat.reduceSub, Nat.reduceMul, Nat.reduceLeDiff, Nat.reduceLT, Nat.reduceEqDiff, Nat.reduceBEq, ↓reduceIte, reduceCtorEq]; done))
    | ((with_reducible refine Ok_tail (spec_SplitName_l14_ok _ _) ?_); first | rfl | (simp only [SSA, RS, c_spec_SplitName, Nat.reduceAdd, Nat.reduceSub, Nat.reduceMul, Nat.reduceLeDiff, Nat.reduceLT, Nat.reduceEqDiff, Nat.reduceBEq, ↓reduceIte, reduceCtorEq]; done) | (simp only [SSA, RS, c_spec_SplitName, Nat.reduceAdd, Nat.reduceSub, Nat.reduceMul, Nat.reduceLeDiff, Nat.reduceLT, Nat.reduceEqDiff, Nat.reduceBEq, ↓reduceIte, reduceCtorEq]; rfl))
    | ((first | with_reducible refine Ok_if (fun h => ?_) (fun h => ?_) | with_reducible refine Ok_call (g0 _) fun v => ?_ | refine Ok_call (g0 _) fun v => ?_) <;> simp only [SSA, RS, *, e_spec_PlainOk, Nat.reduceAdd, Nat.reduceSub, Nat.reduceMul, Nat.reduceLeDiff, Nat.reduceLT, Nat.reduceEqDiff, Nat.reduceBEq, ↓reduceIte, reduceCtorEq])

def e_spec_JoinName (r : ByteArray) : Res := ⟨[.t (.v (.string r))], []⟩
def c_spec_JoinName : Cx := ⟨2, [0, 0], [.tmp 4]⟩
theorem spec_JoinName_j4_ok : ∀ (pre : ByteArray) (local1 : ByteArray) (s : ByteArray), Ok (spec_JoinName_j4 pre local1 s) e_spec_JoinName (ev FTA c_spec_JoinName k_spec_JoinName_r4 [] (putS (List.replicate 35 .dead) [(0, .t (.v (.string pre))), (1, .t (.v (.string local1))), (5, .t (.v (.string s)))]) (putR (List.replicate 35 []) [])) := by
  intro pre local1 s
  have g0 := spec_SplitName_ok; try simp only [SSA, RS, Nat.reduceAdd, Nat.reduceSub, Nat.reduceMul, Nat.reduceLeDiff, Nat.reduceLT, Nat.reduceEqDiff, Nat.reduceBEq, ↓reduceIte, reduceCtorEq] at g0
  simp only [SSA, RS, c_spec_JoinName, k_spec_JoinName_r4, spec_JoinName_j4, e_spec_SplitName, Nat.reduceAdd, Nat.reduceSub, Nat.reduceMul, Nat.reduceLeDiff, Nat.reduceLT, Nat.reduceEqDiff, Nat.reduceBEq, ↓reduceIte, reduceCtorEq]
  repeat' first
    | with_reducible exact Ok_none
    | ((with_reducible refine Ok_ret ?_); first | rfl | (simp only [SSA, RS, e_spec_JoinName, Nat.reduceAdd, Nat.reduceSub, Nat.reduceMul, Nat.reduceLeDiff, Nat.reduceLT, Nat.reduceEqDiff, Nat.reduceBEq, ↓reduceIte, reduceCtorEq]; done))
    | ((first | with_reducible refine Ok_if (fun h => ?_) (fun h => ?_) | with_reducible refine Ok_call (g0 _) fun v => ?_ | refine Ok_call (g0 _) fun v => ?_) <;> simp only [SSA, RS, *, e_spec_SplitName, Nat.reduceAdd, Nat.reduceSub, Nat.reduceMul, Nat.reduceLeDiff, Nat.reduceLT, Nat.reduceEqDiff, Nat.reduceBEq, ↓reduceIte, reduceCtorEq])

theorem spec_JoinName_ok : ∀ (pre : ByteArray) (local1 : ByteArray), Ok (spec_JoinName pre local1) e_spec_JoinName (dn FTA n_spec_JoinName [.t (.v (.string pre)), .t (.v (.string local1))]) := by
  intro pre local1
  rw [den_ev FTA (fn := k_spec_JoinName) rfl (xOf_none rfl rfl _) (Nat.le_of_ble_eq_true rfl)]
  simp only [SSA, RS, c_spec_JoinName, k_spec_JoinName, spec_JoinName, Nat.reduceAdd, Nat.reduceSub, Nat.reduceMul, Nat.reduceLeDiff, Nat.reduceLT, Nat.reduceEqDiff, Nat.reduceBEq, ↓reduceIte, reduceCtorEq]
  repeat' first
    | with_reducible exact Ok_none
    | ((with_reducible refine Ok_ret ?_); first | rfl | (simp only [SSA, RS, e_spec_JoinName, Nat.reduceAdd, Nat.reduceSub, Nat.reduceMul, Nat.reduceLeDiff, Nat.reduceLT, Nat.reduceEqDiff, Nat.reduceBEq, ↓reduceIte, reduceCtorEq]; done))
    | ((with_reducible refine Ok_tail (spec_JoinName_j4_ok _ _ _) ?_); first | rfl | (simp only [SSA, RS, c_spec_JoinName, Nat.reduceAdd, Nat.reduceSub, Nat.reduceMul, Nat.reduceLeDiff, Nat.reduceLT, Nat.reduceEqDiff, Nat.reduceBEq, ↓reduceIte, reduceCtorEq]; done) | (simp only [SSA, RS, c_spec_JoinName, Nat.reduceAdd, Nat.reduceSub, Nat.reduceMul, Nat.reduceLeDiff, Nat.reduceLT, Nat.reduceEqDiff, Nat.reduceBEq, ↓reduceIte, reduceCtorEq]; rfl))
    | ((first | with_reducible refine Ok_if (fun h => ?_) (fun h => ?_) | with_reducible refine Ok_prim (p := catS _ _) fun a h => ?_) <;> simp only [SSA, RS, *, Nat.reduceAdd, Nat.reduceSub, Nat.reduceMul, Nat.reduceLeDiff, Nat.reduceLT, Nat.reduceEqDiff, Nat.reduceBEq, ↓reduceIte, reduceCtorEq])

def e_spec_IsSign (r : Bool) : Res := ⟨[.t (.v (.bool r))], []⟩
def c_spec_IsSign : Cx := ⟨1, [0], [.tmp 2]⟩
theorem spec_IsSign_ok : ∀ (n : Int), Ok (spec_IsSign n) e_spec_IsSign (dn FTA n_spec_IsSign [.t (.v (.int .i64 n))]) := by
  intro n
  rw [den_ev FTA (fn := k_spec_IsSign) rfl (xOf_none rfl rfl _) (Nat.le_of_ble_eq_true rfl)]
  have g0 := spec_l1In_ok; try simp only [SSA, RS, Nat.reduceAdd, Nat.reduceSub, Nat.reduceMul, Nat.reduceLeDiff, Nat.reduceLT, Nat.reduceEqDiff, Nat.reduceBEq, ↓reduceIte, reduceCtorEq] at g0
  simp only [SSA, RS, c_spec_IsSign, k_spec_IsSign, spec_IsSign, e_spec_l1In, Nat.reduceAdd, Nat.reduceSub, Nat.reduceMul, Nat.reduceLeDiff, Nat.reduceLT, Nat.reduceEqDiff, Nat.reduceBEq, ↓reduceIte, reduceCtorEq]
  repeat' first
    | with_reducible exact Ok_none
    | ((with_reducible refine Ok_ret ?_); first | rfl | (simp only [SSA, RS, e_spec_IsSign, Nat.reduceAdd, Nat.reduceSub, Nat.reduceMul, Nat.reduceLeDiff, Nat.reduceLT, Nat.reduceEqDiff, Nat.reduceBEq, ↓reduceIte, reduceCtorEq]; done))
    | ((first | with_reducible refine Ok_if (fun h => ?_) (fun h => ?_) | with_reducible refine Ok_call (g0 _ _ _) fun v => ?_ | refine Ok_call (g0 _ _ _) fun v => ?_) <;> simp only [SSA, RS, *, e_spec_l1In, Nat.reduceAdd, Nat.reduceSub, Nat.reduceMul, Nat.reduceLeDiff, Nat.reduceLT, Nat.reduceEqDiff, Nat.reduceBEq, ↓reduceIte, reduceCtorEq])

def e_spec_l1Signs (r : Bool) : Res := ⟨[.t (.v (.bool r))], []⟩
def c_spec_l1Signs : Cx := ⟨1, [0], [.tmp 2]⟩
theorem spec_l1Signs_l6_ok' (s : ByteArray) : ∀ (at1 : Int), Ok (spec_l1Signs_l6 s at1) e_spec_l1Signs (ev FTA c_spec_l1Signs (.loop k_spec_l1Signs_l6) [.lv 0, .th k_spec_l1Signs_r2] (putS (List.replicate 29 .dead) [(0, .t (.v (.string s))), (3, .t (.v (.int .i64 at1)))]) (putR (List.replicate 29 []) [])) := by
  unfold Ok
  refine spec_l1Signs_l6.partial_correctness s _ ?_
  intro F ih at1
  show Ok _ _ _
  have ih : ∀ (at1 : Int), Ok (F at1) _ _ := ih
  rw [ev_loop]
  have g0 := spec_SignAt_ok; try simp only [SSA, RS, Nat.reduceAdd, Nat.reduceSub, Nat.reduceMul, Nat.reduceLeDiff, Nat.reduceLT, Nat.reduceEqDiff, Nat.reduceBEq, ↓reduceIte, reduceCtorEq] at g0
  have g1 := spec_IsSign_ok; try simp only [SSA, RS, Nat.reduceAdd, Nat.reduceSub, Nat.reduceMul, Nat.reduceLeDiff, Nat.reduceLT, Nat.reduceEqDiff, Nat.reduceBEq, ↓reduceIte, reduceCtorEq] at g1
  simp only [SSA, RS, c_spec_l1Signs, k_spec_l1Signs_l6, k_spec_l1Signs_r2, e_spec_IsSign, e_spec_SignAt, Nat.reduceAdd, Nat.reduceSub, Nat.reduceMul, Nat.reduceLeDiff, Nat.reduceLT, Nat.reduceEqDiff, Nat.reduceBEq, ↓reduceIte, reduceCtorEq]
  repeat' first
    | with_reducible exact Ok_none
    | ((with_reducible refine Ok_ret ?_); first | rfl | (simp only [SSA, RS, e_spec_l1Signs, Nat.reduceAdd, Nat.reduceSub, Nat.reduceMul, Nat.reduceLeDiff, Nat.reduceLT, Nat.reduceEqDiff, Nat.reduceBEq, ↓reduceIte, reduceCtorEq]; done))
    | ((with_reducible refine Ok_tail (ih _) ?_); first | rfl | (simp only [SSA, RS, c_spec_l1Signs, Nat.reduceAdd, Nat.reduceSub, Nat.reduceMul, Nat.reduceLeDiff, Nat.reduceLT, Nat.reduceEqDiff, Nat.reduceBEq, ↓reduceIte, reduceCtorEq]; done) | (simp only [SSA, RS, c_spec_l1Signs, Nat.reduceAdd, Nat.reduceSub, Nat.reduceMul, Nat.reduceLeDiff, Nat.reduceLT, Nat.reduceEqDiff, Nat.reduceBEq, ↓reduceIte, reduceCtorEq]; rfl))
    | ((first | with_reducible refine Ok_if (fun h => ?_) (fun h => ?_) | with_reducible refine Ok_call (g0 _ _) fun v => ?_ | with_reducible refine Ok_call (g1 _) fun v => ?_ | refine Ok_call (g0 _ _) fun v => ?_ | refine Ok_call (g1 _) fun v => ?_) <;> simp only [SSA, RS, *, k_spec_l1Signs_r2, e_spec_IsSign, e_spec_SignAt, Nat.reduceAdd, Nat.reduceSub, Nat.reduceMul, Nat.reduceLeDiff, Nat.reduceLT, Nat.reduceEqDiff, Nat.reduceBEq, ↓reduceIte, reduceCtorEq])
theorem spec_l1Signs_l6_ok (s : ByteArray) (at1 : Int) : Ok (spec_l1Signs_l6 s at1) e_spec_l1Signs (ev FTA c_spec_l1Signs (.loop k_spec_l1Signs_l6) [.lv 0, .th k_spec_l1Signs_r2] (putS (List.replicate 29 .dead) [(0, .t (.v (.string s))), (3, .t (.v (.int .i64 at1)))]) (putR (List.replicate 29 []) [])) := spec_l1Signs_l6_ok' s at1

theorem spec_l1Signs_ok : ∀ (s : ByteArray), Ok (spec_l1Signs s) e_spec_l1Signs (dn FTA n_spec_l1Signs [.t (.v (.string s))]) := by
  intro s
  rw [den_ev FTA (fn := k_spec_l1Signs) rfl (xOf_none rfl rfl _) (Nat.le_of_ble_eq_true rfl)]
  simp only [SSA, RS, c_spec_l1Signs, k_spec_l1Signs, spec_l1Signs, Nat.reduceAdd, Nat.reduceSub, Nat.reduceMul, Nat.reduceLeDiff, Nat.reduceLT, Nat.reduceEqDiff, Nat.reduceBEq, ↓reduceIte, reduceCtorEq]
  repeat' first
    | with_reducible exact Ok_none
    | ((with_reducible refine Ok_ret ?_); first | rfl | (simp only [SSA, RS, e_spec_l1Signs, Nat.reduceAdd, Nat.reduceSub, Nat.reduceMul, Nat.reduceLeDiff, Nat.reduceLT, Nat.reduceEqDiff, Nat.reduceBEq, ↓reduceIte, reduceCtorEq]; done))
    | ((with_reducible refine Ok_tail (spec_l1Signs_l6_ok _ _) ?_); first | rfl | (simp only [SSA, RS, c_spec_l1Signs, Nat.reduceAdd, Nat.reduceSub, Nat.reduceMul, Nat.reduceLeDiff, Nat.reduceLT, Nat.reduceEqDiff, Nat.reduceBEq, ↓reduceIte, reduceCtorEq]; done) | (simp only [SSA, RS, c_spec_l1Signs, Nat.reduceAdd, Nat.reduceSub, Nat.reduceMul, Nat.reduceLeDiff, Nat.reduceLT, Nat.reduceEqDiff, Nat.reduceBEq, ↓reduceIte, reduceCtorEq]; rfl))

def e_spec_TextOk (r : Bool) : Res := ⟨[.t (.v (.bool r))], []⟩
def c_spec_TextOk : Cx := ⟨1, [0], [.tmp 2]⟩
theorem spec_TextOk_ok : ∀ (s : ByteArray), Ok (spec_TextOk s) e_spec_TextOk (dn FTA n_spec_TextOk [.t (.v (.string s))]) := by
  intro s
  rw [den_ev FTA (fn := k_spec_TextOk) rfl (xOf_none rfl rfl _) (Nat.le_of_ble_eq_true rfl)]
  have g0 := spec_l1Signs_ok; try simp only [SSA, RS, Nat.reduceAdd, Nat.reduceSub, Nat.reduceMul, Nat.reduceLeDiff, Nat.reduceLT, Nat.reduceEqDiff, Nat.reduceBEq, ↓reduceIte, reduceCtorEq] at g0
  simp only [SSA, RS, c_spec_TextOk, k_spec_TextOk, spec_TextOk, e_spec_l1Signs, Nat.reduceAdd, Nat.reduceSub, Nat.reduceMul, Nat.reduceLeDiff, Nat.reduceLT, Nat.reduceEqDiff, Nat.reduceBEq, ↓reduceIte, reduceCtorEq]
  repeat' first
    | with_reducible exact Ok_none
    | ((with_reducible refine Ok_ret ?_); first | rfl | (simp only [SSA, RS, e_spec_TextOk, Nat.reduceAdd, Nat.reduceSub, Nat.reduceMul, Nat.reduceLeDiff, Nat.reduceLT, Nat.reduceEqDiff, Nat.reduceBEq, ↓reduceIte, reduceCtorEq]; done))
    | ((first | with_reducible refine Ok_if (fun h => ?_) (fun h => ?_) | with_reducible refine Ok_call (g0 _) fun v => ?_ | refine Ok_call (g0 _) fun v => ?_) <;> simp only [SSA, RS, *, e_spec_l1Signs, Nat.reduceAdd, Nat.reduceSub, Nat.reduceMul, Nat.reduceLeDiff, Nat.reduceLT, Nat.reduceEqDiff, Nat.reduceBEq, ↓reduceIte, reduceCtorEq])

def e_spec_l5Has (r : Bool) : Res := ⟨[.t (.v (.bool r))], []⟩
def c_spec_l5Has : Cx := ⟨2, [0, 0], [.tmp 4]⟩
theorem spec_l5Has_l6_ok' (s : ByteArray) (t : ByteArray) : ∀ (i : Int), Ok (spec_l5Has_l6 s t i) e_spec_l5Has (ev FTA c_spec_l5Has (.loop k_spec_l5Has_l6) [.lv 0, .th k_spec_l5Has_r2] (putS (List.replicate 24 .dead) [(0, .t (.v (.string s))), (1, .t (.v (.string t))), (5, .t (.v (.int .i64 i)))]) (putR (List.replicate 24 []) [])) := by
  unfold Ok
  refine spec_l5Has_l6.partial_correctness s t _ ?_
  intro F ih i
  show Ok _ _ _
  have ih : ∀ (i : Int), Ok (F i) _ _ := ih
  rw [ev_loop]
  simp only [SSA, RS, c_spec_l5Has, k_spec_l5Has_l6, k_spec_l5Has_r2, Nat.reduceAdd, Nat.reduceSub, Nat.reduceMul, Nat.reduceLeDiff, Nat.reduceLT, Nat.reduceEqDiff, Nat.reduceBEq, ↓reduceIte, reduceCtorEq]
  repeat' first
    | with_reducible exact Ok_none
    | ((with_reducible refine Ok_ret ?_); first | rfl | (simp only [SSA, RS, e_spec_l5Has, Nat.reduceAdd, Nat.reduceSub, Nat.reduceMul, Nat.reduceLeDiff, Nat.reduceLT, Nat.reduceEqDiff, Nat.reduceBEq, ↓reduceIte, reduceCtorEq]; done))
    | ((with_reducible refine Ok_tail (ih _) ?_); first | rfl | (simp only [SSA, RS, c_spec_l5Has, Nat.reduceAdd, Nat.reduceSub, Nat.reduceMul, Nat.reduceLeDiff, Nat.reduceLT, Nat.reduceEqDiff, Nat.reduceBEq, ↓reduceIte, reduceCtorEq]; done) | (simp only [SSA, RS, c_spec_l5Has, Nat.reduceAdd, Nat.reduceSub, Nat.reduceMul, Nat.reduceLeDiff, Nat.reduceLT, Nat.reduceEqDiff, Nat.reduceBEq, ↓reduceIte, reduceCtorEq]; rfl))
    | ((first | with_reducible refine Ok_if (fun h => ?_) (fun h => ?_) | with_reducible refine Ok_prim (p := subS _ _ _) fun a h => ?_) <;> simp only [SSA, RS, *, k_spec_l5Has_r2, Nat.reduceAdd, Nat.reduceSub, Nat.reduceMul, Nat.reduceLeDiff, Nat.reduceLT, Nat.reduceEqDiff, Nat.reduceBEq, ↓reduceIte, reduceCtorEq])
theorem spec_l5Has_l6_ok (s : ByteArray) (t : ByteArray) (i : Int) : Ok (spec_l5Has_l6 s t i) e_spec_l5Has (ev FTA c_spec_l5Has (.loop k_spec_l5Has_l6) [.lv 0, .th k_spec_l5Has_r2] (putS (List.replicate 24 .dead) [(0, .t (.v (.string s))), (1, .t (.v (.string t))), (5, .t (.v (.int .i64 i)))]) (putR (List.replicate 24 []) [])) := spec_l5Has_l6_ok' s t i

theorem spec_l5Has_ok : ∀ (s : ByteArray) (t : ByteArray), Ok (spec_l5Has s t) e_spec_l5Has (dn FTA n_spec_l5Has [.t (.v (.string s)), .t (.v (.string t))]) := by
  intro s t
  rw [den_ev FTA (fn := k_spec_l5Has) rfl (xOf_none rfl rfl _) (Nat.le_of_ble_eq_true rfl)]
  simp only [SSA, RS, c_spec_l5Has, k_spec_l5Has, spec_l5Has, Nat.reduceAdd, Nat.reduceSub, Nat.reduceMul, Nat.reduceLeDiff, Nat.reduceLT, Nat.reduceEqDiff, Nat.reduceBEq, ↓reduceIte, reduceCtorEq]
  repeat' first
    | with_reducible exact Ok_none
    | ((with_reducible refine Ok_ret ?_); first | rfl | (simp only [SSA, RS, e_spec_l5Has, Nat.reduceAdd, Nat.reduceSub, Nat.reduceMul, Nat.reduceLeDiff, Nat.reduceLT, Nat.reduceEqDiff, Nat.reduceBEq, ↓reduceIte, reduceCtorEq]; done))
    | ((with_reducible refine Ok_tail (spec_l5Has_l6_ok _ _ _) ?_); first | rfl | (simp only [SSA, RS, c_spec_l5Has, Nat.reduceAdd, Nat.reduceSub, Nat.reduceMul, Nat.reduceLeDiff, Nat.reduceLT, Nat.reduceEqDiff, Nat.reduceBEq, ↓reduceIte, reduceCtorEq]; done) | (simp only [SSA, RS, c_spec_l5Has, Nat.reduceAdd, Nat.reduceSub, Nat.reduceMul, Nat.reduceLeDiff, Nat.reduceLT, Nat.reduceEqDiff, Nat.reduceBEq, ↓reduceIte, reduceCtorEq]; rfl))

def e_spec_l11Val (r : Bool) : Res := ⟨[.t (.v (.bool r))], []⟩
def c_spec_l11Val : Cx := ⟨1, [0], [.tmp 2]⟩
theorem spec_l11Val_ok : ∀ (s : ByteArray), Ok (spec_l11Val s) e_spec_l11Val (dn FTA n_spec_l11Val [.t (.v (.string s))]) := by
  intro s
  rw [den_ev FTA (fn := k_spec_l11Val) rfl (xOf_none rfl rfl _) (Nat.le_of_ble_eq_true rfl)]
  have g0 := spec_TextOk_ok; try simp only [SSA, RS, Nat.reduceAdd, Nat.reduceSub, Nat.reduceMul, Nat.reduceLeDiff, Nat.reduceLT, Nat.reduceEqDiff, Nat.reduceBEq, ↓reduceIte, reduceCtorEq] at g0
  have g1 := spec_l5Has_ok; try simp only [SSA, RS, Nat.reduceAdd, Nat.reduceSub, Nat.reduceMul, Nat.reduceLeDiff, Nat.reduceLT, Nat.reduceEqDiff, Nat.reduceBEq, ↓reduceIte, reduceCtorEq] at g1
  simp only [SSA, RS, c_spec_l11Val, k_spec_l11Val, spec_l11Val, e_spec_TextOk, e_spec_l5Has, Nat.reduceAdd, Nat.reduceSub, Nat.reduceMul, Nat.reduceLeDiff, Nat.reduceLT, Nat.reduceEqDiff, Nat.reduceBEq, ↓reduceIte, reduceCtorEq]
  repeat' first
    | with_reducible exact Ok_none
    | ((with_reducible refine Ok_ret ?_); first | rfl | (simp only [SSA, RS, e_spec_l11Val, Nat.reduceAdd, Nat.reduceSub, Nat.reduceMul, Nat.reduceLeDiff, Nat.reduceLT, Nat.reduceEqDiff, Nat.reduceBEq, ↓reduceIte, reduceCtorEq]; done))
    | ((first | with_reducible refine Ok_if (fun h => ?_) (fun h => ?_) | with_reducible refine Ok_call (g0 _) fun v => ?_ | with_reducible refine Ok_call (g1 _ _) fun v => ?_ | refine Ok_call (g0 _) fun v => ?_ | refine Ok_call (g1 _ _) fun v => ?_) <;> simp only [SSA, RS, *, e_spec_TextOk, e_spec_l5Has, Nat.reduceAdd, Nat.reduceSub, Nat.reduceMul, Nat.reduceLeDiff, Nat.reduceLT, Nat.reduceEqDiff, Nat.reduceBEq, ↓reduceIte, reduceCtorEq])

def e_spec_l11PredOk (r : Bool) : Res := ⟨[.t (.v (.bool r))], []⟩
def c_spec_l11PredOk : Cx := ⟨2, [0, 0], [.tmp 4]⟩
theorem spec_l11PredOk_j12_ok : ∀ (kind : Int) (p : GPred) (x : Bool), Ok (spec_l11PredOk_j12 kind p x) e_spec_l11PredOk (ev FTA c_spec_l11PredOk k_spec_l11PredOk_r12 [.lv 0, .th k_spec_l11PredOk_r2] (putS (List.replicate 74 .dead) [(1, .t (.v (.int .i64 kind))), (2, .ptr (2, 0) [] 0 0 1 0), (6, .t (.v (.int .i64 p.Kind))), (27, .t (.v (.bool x)))]) (putR (List.replicate 74 []) [(2, [.mem [[.v (.int .i64 p.Kind), .v (.int .i64 p.N), .v (.string p.Pre), .v (.string p.Local), .v (.string p.Val)]] 0 false])])) := by
  intro kind p x
  have g0 := spec_l1In_ok; try simp only [SSA, RS, Nat.reduceAdd, Nat.reduceSub, Nat.reduceMul, Nat.reduceLeDiff, Nat.reduceLT, Nat.reduceEqDiff, Nat.reduceBEq, ↓reduceIte, reduceCtorEq] at g0
  have g1 := spec_JoinName_ok; try simp only [SSA, RS, Nat.reduceAdd, Nat.reduceSub, Nat.reduceMul, Nat.reduceLeDiff, Nat.reduceLT, Nat.reduceEqDiff, Nat.reduceBEq, ↓reduceIte, reduceCtorEq] at g1
  have g2 := spec_l11Val_ok; try simp only [SSA, RS, Nat.reduceAdd, Nat.reduceSub, Nat.reduceMul, Nat.reduceLeDiff, Nat.reduceLT, Nat.reduceEqDiff, Nat.reduceBEq, ↓reduceIte, reduceCtorEq] at g2
  simp only [SSA, RS, c_spec_l11PredOk, k_spec_l11PredOk_r12, k_spec_l11PredOk_r2, spec_l11PredOk_j12, e_spec_JoinName, e_spec_l11Val, e_spec_l1In, Nat.reduceAdd, Nat.reduceSub, Nat.reduceMul, Nat.reduceLeDiff, Nat.reduceLT, Nat.reduceEqDiff, Nat.reduceBEq, ↓reduceIte, reduceCtorEq]
  repeat' first
    | with_reducible exact Ok_none
    | ((with_reducible refine Ok_ret ?_); first | rfl | (simp only [SSA, RS, e_spec_l11PredOk, Nat.reduceAdd, Nat.reduceSub, Nat.reduceMul, Nat.reduceLeDiff, Nat.reduceLT, Nat.reduceEqDiff, Nat.reduceBEq, ↓reduceIte, reduceCtorEq]; done))
    | ((first | with_reducible refine Ok_if (fun h => ?_) (fun h => ?_) | with_reducible refine Ok_call (g0 _ _ _) fun v => ?_ | with_reducible refine Ok_call (g1 _ _) fun v => ?_ | with_reducible refine Ok_call (g2 _) fun v => ?_ | refine Ok_call (g0 _ _ _) fun v => ?_ | refine Ok_call (g1 _ _) fun v => ?_ | refine Ok_call (g2 _) fun v => ?_) <;> simp only [SSA, RS, *, k_spec_l11PredOk_r2, e_spec_JoinName, e_spec_l11Val, e_spec_l1In, Nat.reduceAdd, Nat.reduceSub, Nat.reduceMul, Nat.reduceLeDiff, Nat.reduceLT, Nat.reduceEqDiff, Nat.reduceBEq, ↓reduceIte, reduceCtorEq])

theorem spec_l11PredOk_ok : ∀ (p : GPred) (kind : Int), Ok (spec_l11PredOk p kind) e_spec_l11PredOk (dn FTA n_spec_l11PredOk [.agg ((GPred.row p).map .t), .t (.v (.int .i64 kind))]) := by
  intro p kind
  rw [den_ev FTA (fn := k_spec_l11PredOk) rfl (xOf_none rfl rfl _) (Nat.le_of_ble_eq_true rfl)]
  have g0 := spec_l1In_ok; try simp only [SSA, RS, Nat.reduceAdd, Nat.reduceSub, Nat.reduceMul, Nat.reduceLeDiff, Nat.reduceLT, Nat.reduceEqDiff, Nat.reduceBEq, ↓reduceIte, reduceCtorEq] at g0
  simp only [SSA, RS, c_spec_l11PredOk, k_spec_l11PredOk, spec_l11PredOk, e_spec_l1In, Nat.reduceAdd, Nat.reduceSub, Nat.reduceMul, Nat.reduceLeDiff, Nat.reduceLT, Nat.reduceEqDiff, Nat.reduceBEq, ↓reduceIte, reduceCtorEq]
  repeat' first
    | with_reducible exact Ok_none
    | ((with_reducible refine Ok_ret ?_); first | rfl | (simp only [SSA, RS, e_spec_l11PredOk, Nat.reduceAdd, Nat.reduceSub, Nat.reduceMul, Nat.reduceLeDiff, Nat.reduceLT, Nat.reduceEqDiff, Nat.reduceBEq, ↓reduceIte, reduceCtorEq]; done))
    | ((with_reducible refine Ok_tail (spec_l11PredOk_j12_ok _ _ _) ?_); first | rfl | (simp only [SSA, RS, c_spec_l11PredOk, Nat.reduceAdd, Nat.reduceSub, Nat.reduceMul, Nat.reduceLeDiff, Nat.reduceLT, Nat.reduceEqDiff, Nat.reduceBEq, ↓reduceIte, reduceCtorEq]; done) | (simp only [SSA, RS, c_spec_l11PredOk, Nat.reduceAdd, Nat.reduceSub, Nat.reduceMul, Nat.reduceLeDiff, Nat.reduceLT, Nat.reduceEqDiff, Nat.reduceBEq, ↓reduceIte, reduceCtorEq]; rfl))
    | ((first | with_reducible refine Ok_if (fun h => ?_) (fun h => ?_) | with_reducible refine Ok_call (g0 _ _ _) fun v => ?_ | refine Ok_call (g0 _ _ _) fun v => ?_) <;> simp only [SSA, RS, *, e_spec_l1In, Nat.reduceAdd, Nat.reduceSub, Nat.reduceMul, Nat.reduceLeDiff, Nat.reduceLT, Nat.reduceEqDiff, Nat.reduceBEq, ↓reduceIte, reduceCtorEq])

def e_spec_l11StepOk (r : Bool) : Res := ⟨[.t (.v (.bool r))], []⟩
def c_spec_l11StepOk : Cx := ⟨2, [0, 0], [.tmp 4]⟩
theorem spec_l11StepOk_j45_ok : ∀ (a0 : GStp) (x5 : Bool) (xDeep : Bool), Ok (spec_l11StepOk_j45 a0 x5 xDeep) e_spec_l11StepOk (ev FTA c_spec_l11StepOk k_spec_l11StepOk_r45 [.lv 2, .th k_spec_l11StepOk_r31] (putS (List.replicate 96 .dead) [(2, .ptr (2, 0) [] 0 0 1 0), (46, .t (.v (.int .i64 a0.Kind))), (56, .t (.v (.bool x5)))]) (putR (List.replicate 96 []) [(2, [.mem [[.v (.bool xDeep), .v (.int .i64 a0.Kind), .v (.string a0.Pre), .v (.string a0.Local), .sl false (a0.Preds.map GPred.row)]] 0 false])])) := by
  intro a0 x5 xDeep
  have g0 := spec_PlainOk_ok; try simp only [SSA, RS, Nat.reduceAdd, Nat.reduceSub, Nat.reduceMul, Nat.reduceLeDiff, Nat.reduceLT, Nat.reduceEqDiff, Nat.reduceBEq, ↓reduceIte, reduceCtorEq] at g0
  simp only [SSA, RS, c_spec_l11StepOk, k_spec_l11StepOk_r45, k_spec_l11StepOk_r31, spec_l11StepOk_j45, e_spec_PlainOk, Nat.reduceAdd, Nat.reduceSub, Nat.reduceMul, Nat.reduceLeDiff, Nat.reduceLT, Nat.reduceEqDiff, Nat.reduceBEq, ↓reduceIte, reduceCtorEq]
  repeat' first
    | with_reducible exact Ok_none
    | ((with_reducible refine Ok_ret ?_); first | rfl | (simp only [SSA, RS, e_spec_l11StepOk, Nat.reduceAdd, Nat.reduceSub, Nat.reduceMul, Nat.reduceLeDiff, Nat.reduceLT, Nat.reduceEqDiff, Nat.reduceBEq, ↓reduceIte, reduceCtorEq]; done))
    | ((first | with_reducible refine Ok_if (fun h => ?_) (fun h => ?_) | with_reducible refine Ok_call (g0 _) fun v => ?_ | refine Ok_call (g0 _) fun v => ?_) <;> simp only [SSA, RS, *, k_spec_l11StepOk_r31, e_spec_PlainOk, Nat.reduceAdd, Nat.reduceSub, Nat.reduceMul, Nat.reduceLeDiff, Nat.reduceLT, Nat.reduceEqDiff, Nat.reduceBEq, ↓reduceIte, reduceCtorEq])

theorem spec_l11StepOk_j35_ok : ∀ (a0 : GStp) (x4 : Bool) (xDeep : Bool), Ok (spec_l11StepOk_j35 a0 x4 xDeep) e_spec_l11StepOk (ev FTA c_spec_l11StepOk k_spec_l11StepOk_r35 [.lv 2, .th k_spec_l11StepOk_r31] (putS (List.replicate 96 .dead) [(2, .ptr (2, 0) [] 0 0 1 0), (46, .t (.v (.int .i64 a0.Kind))), (47, .t (.v (.bool x4)))]) (putR (List.replicate 96 []) [(2, [.mem [[.v (.bool xDeep), .v (.int .i64 a0.Kind), .v (.string a0.Pre), .v (.string a0.Local), .sl false (a0.Preds.map GPred.row)]] 0 false])])) := by
  intro a0 x4 xDeep
  have g0 := spec_JoinName_ok; try simp only [SSA, RS, Nat.reduceAdd, Nat.reduceSub, Nat.reduceMul, Nat.reduceLeDiff, Nat.reduceLT, Nat.reduceEqDiff, Nat.reduceBEq, ↓reduceIte, reduceCtorEq] at g0
  simp only [SSA, RS, c_spec_l11StepOk, k_spec_l11StepOk_r35, spec_l11StepOk_j35, e_spec_JoinName, Nat.reduceAdd, Nat.reduceSub, Nat.reduceMul, Nat.reduceLeDiff, Nat.reduceLT, Nat.reduceEqDiff, Nat.reduceBEq, ↓reduceIte, reduceCtorEq]
  repeat' first
    | with_reducible exact Ok_none
    | ((with_reducible refine Ok_ret ?_); first | rfl | (simp only [SSA, RS, e_spec_l11StepOk, Nat.reduceAdd, Nat.reduceSub, Nat.reduceMul, Nat.reduceLeDiff, Nat.reduceLT, Nat.reduceEqDiff, Nat.reduceBEq, ↓reduceIte, reduceCtorEq]; done))
    | ((with_reducible refine Ok_tail (spec_l11StepOk_j45_ok _ _ _) ?_); first | rfl | (simp only [SSA, RS, c_spec_l11StepOk, Nat.reduceAdd, Nat.reduceSub, Nat.reduceMul, Nat.reduceLeDiff, Nat.reduceLT, Nat.reduceEqDiff, Nat.reduceBEq, ↓reduceIte, reduceCtorEq]; done) | (simp only [SSA, RS, c_spec_l11StepOk, Nat.reduceAdd, Nat.reduceSub, Nat.reduceMul, Nat.reduceLeDiff, Nat.reduceLT, Nat.reduceEqDiff, Nat.reduceBEq, ↓reduceIte, reduceCtorEq]; rfl))
    | ((first | with_reducible refine Ok_if (fun h => ?_) (fun h => ?_) | with_reducible refine Ok_call (g0 _ _) fun v => ?_ | refine Ok_call (g0 _ _) fun v => ?_) <;> simp only [SSA, RS, *, e_spec_JoinName, Nat.reduceAdd, Nat.reduceSub, Nat.reduceMul, Nat.reduceLeDiff, Nat.reduceLT, Nat.reduceEqDiff, Nat.reduceBEq, ↓reduceIte, reduceCtorEq])

theorem spec_l11StepOk_l14_ok' (xDeep : Bool) (a0 : GStp) : ∀ (i : Int), Ok (spec_l11StepOk_l14 i xDeep a0) e_spec_l11StepOk (ev FTA c_spec_l11StepOk (.loop k_spec_l11StepOk_l14) [.lv 0, .th k_spec_l11StepOk_r10] (putS (List.replicate 96 .dead) [(2, .ptr (2, 0) [] 0 0 1 0), (5, .t (.v (.int .i64 i)))]) (putR (List.replicate 96 []) [(2, [.mem [[.v (.bool xDeep), .v (.int .i64 a0.Kind), .v (.string a0.Pre), .v (.string a0.Local), .sl false (a0.Preds.map GPred.row)]] 0 false])])) := by
  unfold Ok
  refine spec_l11StepOk_l14.partial_correctness xDeep a0 _ ?_
  intro F ih i
  show Ok _ _ _
  have ih : ∀ (i : Int), Ok (F i) _ _ := ih
  rw [ev_loop]
  have g0 := spec_l11PredOk_ok; try simp only [SSA, RS, Nat.reduceAdd, Nat.reduceSub, Nat.reduceMul, Nat.reduceLeDiff, Nat.reduceLT, Nat.reduceEqDiff, Nat.reduceBEq, ↓reduceIte, reduceCtorEq] at g0
  simp only [SSA, RS, c_spec_l11StepOk, k_spec_l11StepOk_l14, k_spec_l11StepOk_r10, e_spec_l11PredOk, Nat.reduceAdd, Nat.reduceSub, Nat.reduceMul, Nat.reduceLeDiff, Nat.reduceLT, Nat.reduceEqDiff, Nat.reduceBEq, ↓reduceIte, reduceCtorEq]
  repeat' first
    | with_reducible exact Ok_none
    | ((with_reducible refine Ok_ret ?_); first | rfl | (simp only [SSA, RS, e_spec_l11StepOk, Nat.reduceAdd, Nat.reduceSub, Nat.reduceMul, Nat.reduceLeDiff, Nat.reduceLT, Nat.reduceEqDiff, Nat.reduceBEq, ↓reduceIte, reduceCtorEq]; done))
    | ((with_reducible refine Ok_tail (ih _) ?_); first | rfl | (simp only [SSA, RS, c_spec_l11StepOk, Nat.reduceAdd, Nat.reduceSub, Nat.reduceMul, Nat.reduceLeDiff, Nat.reduceLT, Nat.reduceEqDiff, Nat.reduceBEq, ↓reduceIte, reduceCtorEq]; done) | (simp only [SSA, RS, c_spec_l11StepOk, Nat.reduceAdd, Nat.reduceSub, Nat.reduceMul, Nat.reduceLeDiff, Nat.reduceLT, Nat.reduceEqDiff, Nat.reduceBEq, ↓reduceIte, reduceCtorEq]; rfl))
    | ((with_reducible refine Ok_tail (spec_l11StepOk_j35_ok _ _ _) ?_); first | rfl | (simp only [SSA, RS, c_spec_l11StepOk, Nat.reduceAdd, Nat.reduceSub, Nat.reduceMul, Nat.reduceLeDiff, Nat.reduceLT, Nat.reduceEqDiff, Nat.reduceBEq, ↓reduceIte, reduceCtorEq]; done) | (simp only [SSA, RS, c_spec_l11StepOk, Nat.reduceAdd, Nat.reduceSub, Nat.reduceMul, Nat.reduceLeDiff, Nat.reduceLT, Nat.reduceEqDiff, Nat.reduceBEq, ↓reduceIte, reduceCtorEq]; rfl))
    | ((first | with_reducible refine Ok_if (fun h => ?_) (fun h => ?_) | with_reducible refine Ok_get fun a h => ?_ | with_reducible refine Ok_call (g0 _ _) fun v => ?_ | refine Ok_call (g0 _ _) fun v => ?_) <;> simp only [SSA, RS, *, k_spec_l11StepOk_r10, e_spec_l11PredOk, Nat.reduceAdd, Nat.reduceSub, Nat.reduceMul, Nat.reduceLeDiff, Nat.reduceLT, Nat.reduceEqDiff, Nat.reduceBEq, ↓reduceIte, reduceCtorEq])
theorem spec_l11StepOk_l14_ok (i : Int) (xDeep : Bool) (a0 : GStp) : Ok (spec_l11StepOk_l14 i xDeep a0) e_spec_l11StepOk (ev FTA c_spec_l11StepOk (.loop k_spec_l11StepOk_l14) [.lv 0, .th k_spec_l11StepOk_r10] (putS (List.replicate 96 .dead) [(2, .ptr (2, 0) [] 0 0 1 0), (5, .t (.v (.int .i64 i)))]) (putR (List.replicate 96 []) [(2, [.mem [[.v (.bool xDeep), .v (.int .i64 a0.Kind), .v (.string a0.Pre), .v (.string a0.Local), .sl false (a0.Preds.map GPred.row)]] 0 false])])) := spec_l11StepOk_l14_ok' xDeep a0 i

theorem spec_l11StepOk_j2_ok : ∀ (xDeep : Bool) (a0 : GStp), Ok (spec_l11StepOk_j2 xDeep a0) e_spec_l11StepOk (ev FTA c_spec_l11StepOk k_spec_l11StepOk_r2 [] (putS (List.replicate 96 .dead) [(2, .ptr (2, 0) [] 0 0 1 0)]) (putR (List.replicate 96 []) [(2, [.mem [[.v (.bool xDeep), .v (.int .i64 a0.Kind), .v (.string a0.Pre), .v (.string a0.Local), .sl false (a0.Preds.map GPred.row)]] 0 false])])) := by
  intro xDeep a0
  simp only [SSA, RS, c_spec_l11StepOk, k_spec_l11StepOk_r2, spec_l11StepOk_j2, Nat.reduceAdd, Nat.reduceSub, Nat.reduceMul, Nat.reduceLeDiff, Nat.reduceLT, Nat.reduceEqDiff, Nat.reduceBEq, ↓reduceIte, reduceCtorEq]
  repeat' first
    | with_reducible exact Ok_none
    | ((with_reducible refine Ok_ret ?_); first | rfl | (simp only [SSA, RS, e_spec_l11StepOk, Nat.reduceAdd, Nat.reduceSub, Nat.reduceMul, Nat.reduceLeDiff, Nat.reduceLT, Nat.reduceEqDiff, Nat.reduceBEq, ↓reduceIte, reduceCtorEq]; done))
    | ((with_reducible refine Ok_tail (spec_l11StepOk_l14_ok _ _ _) ?_); first | rfl | (simp only [SSA, RS, c_spec_l11StepOk, Nat.reduceAdd, Nat.reduceSub, Nat.reduceMul, Nat.reduceLeDiff, Nat.reduceLT, Nat.reduceEqDiff, Nat.reduceBEq, ↓reduceIte, reduceCtorEq]; done) | (simp only [SSA, RS, c_spec_l11StepOk, Nat.reduceAdd, Nat.reduceSub, Nat.reduceMul, Nat.reduceLeDiff, Nat.reduceLT, Nat.reduceEqDiff, Nat.reduceBEq, ↓reduceIte, reduceCtorEq]; rfl))

theorem spec_l11StepOk_ok : ∀ (a0 : GStp) (last : Bool), Ok (spec_l11StepOk a0 last) e_spec_l11StepOk (dn FTA n_spec_l11StepOk [.agg (((GStp.row false) a0).map .t), .t (.v (.bool last))]) := by
  intro a0 last
  rw [den_ev FTA (fn := k_spec_l11StepOk) rfl (xOf_none rfl rfl _) (Nat.le_of_ble_eq_true rfl)]
  simp only [SSA, RS, c_spec_l11StepOk, k_spec_l11StepOk, spec_l11StepOk, Nat.reduceAdd, Nat.reduceSub, Nat.reduceMul, Nat.reduceLeDiff, Nat.reduceLT, Nat.reduceEqDiff, Nat.reduceBEq, ↓reduceIte, reduceCtorEq]
  repeat' first
    | with_reducible exact Ok_none
    | ((with_reducible refine Ok_ret ?_); first | rfl | (simp only [SSA, RS, e_spec_l11StepOk, Nat.reduceAdd, Nat.reduceSub, Nat.reduceMul, Nat.reduceLeDiff, Nat.reduceLT, Nat.reduceEqDiff, Nat.reduceBEq, ↓reduceIte, reduceCtorEq]; done))
    | ((with_reducible refine Ok_tail (spec_l11StepOk_j2_ok _ _) ?_); first | rfl | (simp only [SSA, RS, c_spec_l11StepOk, Nat.reduceAdd, Nat.reduceSub, Nat.reduceMul, Nat.reduceLeDiff, Nat.reduceLT, Nat.reduceEqDiff, Nat.reduceBEq, ↓reduceIte, reduceCtorEq]; done) | (simp only [SSA, RS, c_spec_l11StepOk, Nat.reduceAdd, Nat.reduceSub, Nat.reduceMul, Nat.reduceLeDiff, Nat.reduceLT, Nat.reduceEqDiff, Nat.reduceBEq, ↓reduceIte, reduceCtorEq]; rfl))
    | ((first | with_reducible refine Ok_if (fun h => ?_) (fun h => ?_)) <;> simp only [SSA, RS, *, Nat.reduceAdd, Nat.reduceSub, Nat.reduceMul, Nat.reduceLeDiff, Nat.reduceLT, Nat.reduceEqDiff, Nat.reduceBEq, ↓reduceIte, reduceCtorEq])

def e_spec_SelOk (r : Bool) : Res := ⟨[.t (.v (.bool r))], []⟩
def c_spec_SelOk : Cx := ⟨1, [0], [.tmp 2]⟩
theorem spec_SelOk_l6_ok' (s : GSel) : ∀ (i : Int), Ok (spec_SelOk_l6 i s) e_spec_SelOk (ev FTA c_spec_SelOk (.loop k_spec_SelOk_l6) [.lv 0, .th k_spec_SelOk_r2] (putS (List.replicate 44 .dead) [(1, .ptr (1, 0) [] 0 0 1 0), (3, .t (.v (.int .i64 i)))]) (putR (List.replicate 44 []) [(1, [.mem [[.v (.string s.Id), .sl false (s.Steps.map (GStp.row false))]] 0 false])])) := by
  unfold Ok
  refine spec_SelOk_l6.partial_correctness s _ ?_
  intro F ih i
  show Ok _ _ _
  have ih : ∀ (i : Int), Ok (F i) _ _ := ih
  rw [ev_loop]
  have g0 := spec_l11StepOk_ok; try simp only [SSA, RS, Nat.reduceAdd, Nat.reduceSub, Nat.reduceMul, Nat.reduceLeDiff, Nat.reduceLT, Nat.reduceEqDiff, Nat.reduceBEq, ↓reduceIte, reduceCtorEq] at g0
  have g1 := spec_l11Val_ok; try simp only [SSA, RS, Nat.reduceAdd, Nat.reduceSub, Nat.reduceMul, Nat.reduceLeDiff, Nat.reduceLT, Nat.reduceEqDiff, Nat.reduceBEq, ↓reduceIte, reduceCtorEq] at g1
  simp only [SSA, RS, c_spec_SelOk, k_spec_SelOk_l6, k_spec_SelOk_r2, e_spec_l11StepOk, e_spec_l11Val, Nat.reduceAdd, Nat.reduceSub, Nat.reduceMul, Nat.reduceLeDiff, Nat.reduceLT, Nat.reduceEqDiff, Nat.reduceBEq, ↓reduceIte, reduceCtorEq]
  repeat' first
    | with_reducible exact Ok_none
    | ((with_reducible refine Ok_ret ?_); first | rfl | (simp only [SSA, RS, e_spec_SelOk, Nat.reduceAdd, Nat.reduceSub, Nat.reduceMul, Nat.reduceLeDiff, Nat.reduceLT, Nat.reduceEqDiff, Nat.reduceBEq, ↓reduceIte, reduceCtorEq]; done))
    | ((with_reducible refine Ok_tail (ih _) ?_); first | rfl | (simp only [SSA, RS, c_spec_SelOk, Nat.reduceAdd, Nat.reduceSub, Nat.reduceMul, Nat.reduceLeDiff, Nat.reduceLT, Nat.reduceEqDiff, Nat.reduceBEq, ↓reduceIte, reduceCtorEq]; done) | (simp only [SSA, RS, c_spec_SelOk, Nat.reduceAdd, Nat.reduceSub, Nat.reduceMul, Nat.reduceLeDiff, Nat.reduceLT, Nat.reduceEqDiff, Nat.reduceBEq, ↓reduceIte, reduceCtorEq]; rfl))
    | ((first | with_reducible refine Ok_if (fun h => ?_) (fun h => ?_) | with_reducible refine Ok_get fun a h => ?_ | with_reducible refine Ok_call (g0 _ _) fun v => ?_ | with_reducible refine Ok_call (g1 _) fun v => ?_ | refine Ok_call (g0 _ _) fun v => ?_ | refine Ok_call (g1 _) fun v => ?_) <;> simp only [SSA, RS, *, k_spec_SelOk_r2, e_spec_l11StepOk, e_spec_l11Val, Nat.reduceAdd, Nat.reduceSub, Nat.reduceMul, Nat.reduceLeDiff, Nat.reduceLT, Nat.reduceEqDiff, Nat.reduceBEq, ↓reduceIte, reduceCtorEq])
theorem spec_SelOk_l6_ok (i : Int) (s : GSel) : Ok (spec_SelOk_l6 i s) e_spec_SelOk (ev FTA c_spec_SelOk (.loop k_spec_SelOk_l6) [.lv 0, .th k_spec_SelOk_r2] (putS (List.replicate 44 .dead) [(1, .ptr (1, 0) [] 0 0 1 0), (3, .t (.v (.int .i64 i)))]) (putR (List.replicate 44 []) [(1, [.mem [[.v (.string s.Id), .sl false (s.Steps.map (GStp.row false))]] 0 false])])) := spec_SelOk_l6_ok' s i

theorem spec_SelOk_ok : ∀ (s : GSel), Ok (spec_SelOk s) e_spec_SelOk (dn FTA n_spec_SelOk [.agg (((GSel.row false) s).map .t)]) := by
  intro s
  rw [den_ev FTA (fn := k_spec_SelOk) rfl (xOf_none rfl rfl _) (Nat.le_of_ble_eq_true rfl)]
  simp only [SSA, RS, c_spec_SelOk, k_spec_SelOk, spec_SelOk, Nat.reduceAdd, Nat.reduceSub, Nat.reduceMul, Nat.reduceLeDiff, Nat.reduceLT, Nat.reduceEqDiff, Nat.reduceBEq, ↓reduceIte, reduceCtorEq]
  repeat' first
    | with_reducible exact Ok_none
    | ((with_reducible refine Ok_ret ?_); first | rfl | (simp only [SSA, RS, e_spec_SelOk, Nat.reduceAdd, Nat.reduceSub, Nat.reduceMul, Nat.reduceLeDiff, Nat.reduceLT, Nat.reduceEqDiff, Nat.reduceBEq, ↓reduceIte, reduceCtorEq]; done))
    | ((with_reducible refine Ok_tail (spec_SelOk_l6_ok _ _) ?_); first | rfl | (simp only [SSA, RS, c_spec_SelOk, Nat.reduceAdd, Nat.reduceSub, Nat.reduceMul, Nat.reduceLeDiff, Nat.reduceLT, Nat.reduceEqDiff, Nat.reduceBEq, ↓reduceIte, reduceCtorEq]; done) | (simp only [SSA, RS, c_spec_SelOk, Nat.reduceAdd, Nat.reduceSub, Nat.reduceMul, Nat.reduceLeDiff, Nat.reduceLT, Nat.reduceEqDiff, Nat.reduceBEq, ↓reduceIte, reduceCtorEq]; rfl))

def e_spec_SelAttr (r : GSel × Bool) : Res := ⟨[.agg [.v (.string r.1.Id), .sl true (r.1.Steps.map (GStp.row true))], .t (.v (.bool r.2))], []⟩
def c_spec_SelAttr : Cx := ⟨3, [0, 0, 0], [.cell 6 2 true, .tmp 7]⟩
theorem spec_SelAttr_ok : ∀ (t : GNode) (path : List Int) (a : GAttr), Ok (spec_SelAttr t path a) e_spec_SelAttr (dn FTA n_spec_SelAttr [.agg (((GNode.row false) t).map .t), .t (.sl false (path.map rI)), .agg ((GAttr.row a).map .t)]) := by
  intro t path a
  rw [den_ev FTA (fn := k_spec_SelAttr) rfl (xOf_none rfl rfl _) (Nat.le_of_ble_eq_true rfl)]
  have g0 := spec_SelFor_ok; try simp only [SSA, RS, Nat.reduceAdd, Nat.reduceSub, Nat.reduceMul, Nat.reduceLeDiff, Nat.reduceLT, Nat.reduceEqDiff, Nat.reduceBEq, ↓reduceIte, reduceCtorEq] at g0
  have g1 := spec_SelOk_ok; try simp only [SSA, RS, Nat.reduceAdd, Nat.reduceSub, Nat.reduceMul, Nat.reduceLeDiff, Nat.reduceLT, Nat.reduceEqDiff, Nat.reduceBEq, ↓reduceIte, reduceCtorEq] at g1
  simp only [SSA, RS, c_spec_SelAttr, k_spec_SelAttr, spec_SelAttr, e_spec_SelFor, e_spec_SelOk, Nat.reduceAdd, Nat.reduceSub, Nat.reduceMul, Nat.reduceLeDiff, Nat.reduceLT, Nat.reduceEqDiff, Nat.reduceBEq, ↓reduceIte, reduceCtorEq]
  repeat' first
    | with_reducible exact Ok_none
    | ((with_reducible refine Ok_ret ?_); first | rfl | (simp only [SSA, RS, e_spec_SelAttr, Nat.reduceAdd, Nat.reduceSub, Nat.reduceMul, Nat.reduceLeDiff, Nat.reduceLT, Nat.reduceEqDiff, Nat.reduceBEq, ↓reduceIte, reduceCtorEq]; done))
    | ((first | with_reducible refine Ok_if (fun h => ?_) (fun h => ?_) | with_reducible refine Ok_call (g0 _ _) fun v => ?_ | with_reducible refine Ok_call (g1 _) fun v => ?_ | with_reducible refine Ok_prim (p := room _ _) fun a h => ?_ | refine Ok_call (g0 _ _) fun v => ?_ | refine Ok_call (g1 _) fun v => ?_) <;> simp only [SSA, RS, *, e_spec_SelFor, e_spec_SelOk, Nat.reduceAdd, Nat.reduceSub, Nat.reduceMul, Nat.reduceLeDiff, Nat.reduceLT, Nat.reduceEqDiff, Nat.reduceBEq, ↓reduceIte, reduceCtorEq])

def e_impl_in (r : Bool) : Res := ⟨[.t (.v (.bool r))], []⟩
def c_impl_in : Cx := ⟨3, [0, 0, 0], [.tmp 6]⟩
theorem impl_in_ok : ∀ (n : Int) (lo : Int) (hi : Int), Ok (impl_in n lo hi) e_impl_in (dn FTA n_impl_in [.t (.v (.int .i64 n)), .t (.v (.int .i64 lo)), .t (.v (.int .i64 hi))]) := by
  intro n lo hi
  rw [den_ev FTA (fn := k_impl_in) rfl (xOf_none rfl rfl _) (Nat.le_of_ble_eq_true rfl)]
  simp only [SSA, RS, c_impl_in, k_impl_in, impl_in, Nat.reduceAdd, Nat.reduceSub, Nat.reduceMul, Nat.reduceLeDiff, Nat.reduceLT, Nat.reduceEqDiff, Nat.reduceBEq, ↓reduceIte, reduceCtorEq]
  repeat' first
    | with_reducible exact Ok_none
    | ((with_reducible refine Ok_ret ?_); first | rfl | (simp only [SSA, RS, e_impl_in, Nat.reduceAdd, Nat.reduceSub, Nat.reduceMul, Nat.reduceLeDiff, Nat.reduceLT, Nat.reduceEqDiff, Nat.reduceBEq, ↓reduceIte, reduceCtorEq]; done))
    | ((first | with_reducible refine Ok_if (fun h => ?_) (fun h => ?_)) <;> simp only [SSA, RS, *, Nat.reduceAdd, Nat.reduceSub, Nat.reduceMul, Nat.reduceLeDiff, Nat.reduceLT, Nat.reduceEqDiff, Nat.reduceBEq, ↓reduceIte, reduceCtorEq])

def e_slices_Clone_Decl (r : List GDecl) : Res := ⟨[.t (.sl true (r.map GDecl.row))], []⟩
def c_slices_Clone_Decl : Cx := ⟨1, [0], [.tmp 2]⟩
theorem slices_Clone_Decl_ok : ∀ (s : List (GDecl)), Ok (slices_Clone_Decl s) e_slices_Clone_Decl (dn FTA n_slices_Clone_Decl [.t (.sl false (s.map GDecl.row))]) := by
  intro s
  cases s with
  | nil =>
    intro r hr
    unfold slices_Clone_Decl at hr
    obtain ⟨_, _, h⟩ := Option.bind_eq_some_iff.1 hr
    cases h
    exact den_ext FTA.ft (xOf FTA) (xOf_nil rfl)
  | cons x s =>
    simp only [List.map_cons]
    rw [den_ev FTA (fn := k_slices_Clone_Decl) rfl (xOf_cons rfl _ _) (Nat.le_of_ble_eq_true rfl)]
    simp only [SSA, RS, c_slices_Clone_Decl, k_slices_Clone_Decl, slices_Clone_Decl, Nat.reduceAdd, Nat.reduceSub, Nat.reduceMul, Nat.reduceLeDiff, Nat.reduceLT, Nat.reduceEqDiff, Nat.reduceBEq, ↓reduceIte, reduceCtorEq]
    refine Ok_prim fun a h => ?_
    simp only [SSA, RS, *, Nat.reduceAdd, Nat.reduceSub, Nat.reduceMul, Nat.reduceLeDiff, Nat.reduceLT, Nat.reduceEqDiff, Nat.reduceBEq, ↓reduceIte, reduceCtorEq]
    exact Ok_ret rfl

def e_slices_Clone_Attr (r : List GAttr) : Res := ⟨[.t (.sl true (r.map GAttr.row))], []⟩
def c_slices_Clone_Attr : Cx := ⟨1, [0], [.tmp 2]⟩
theorem slices_Clone_Attr_ok : ∀ (s : List (GAttr)), Ok (slices_Clone_Attr s) e_slices_Clone_Attr (dn FTA n_slices_Clone_Attr [.t (.sl false (s.map GAttr.row))]) := by
  intro s
  cases s with
  | nil =>
    intro r hr
    unfold slices_Clone_Attr at hr
    obtain ⟨_, _, h⟩ := Option.bind_eq_some_iff.1 hr
    cases h
    exact den_ext FTA.ft (xOf FTA) (xOf_nil rfl)
  | cons x s =>
    simp only [List.map_cons]
    rw [den_ev FTA (fn := k_slices_Clone_Attr) rfl (xOf_cons rfl _ _) (Nat.le_of_ble_eq_true rfl)]
    simp only [SSA, RS, c_slices_Clone_Attr, k_slices_Clone_Attr, slices_Clone_Attr, Nat.reduceAdd, Nat.reduceSub, Nat.reduceMul, Nat.reduceLeDiff, Nat.reduceLT, Nat.reduceEqDiff, Nat.reduceBEq, ↓reduceIte, reduceCtorEq]
    refine Ok_prim fun a h => ?_
    simp only [SSA, RS, *, Nat.reduceAdd, Nat.reduceSub, Nat.reduceMul, Nat.reduceLeDiff, Nat.reduceLT, Nat.reduceEqDiff, Nat.reduceBEq, ↓reduceIte, reduceCtorEq]
    exact Ok_ret rfl

def e_impl_cloneNode (r : GNode) : Res := ⟨[.agg [.v (.int .i64 r.Kind), .v (.string r.Pre), .v (.string r.Local), .v (.string r.Uri), .sl true (r.Decls.map GDecl.row), .sl true (r.Attrs.map GAttr.row), .sl true (r.Kids.map (GNode.row true)), .v (.string r.Text)]], []⟩
def c_impl_cloneNode : Cx := ⟨1, [0], [.cell 2 8 true]⟩
def e_impl_cloneNodes (r : List GNode) : Res := ⟨[.t (.sl true (r.map (GNode.row true)))], []⟩
def c_impl_cloneNodes : Cx := ⟨1, [0], [.tmp 2]⟩
theorem G_impl_cloneNode : (∀ (n : GNode), Ok (impl_cloneNode n) e_impl_cloneNode (dn FTA n_impl_cloneNode [.agg (((GNode.row false) n).map .t)])) ∧
    (∀ (l : List GNode), Ok (impl_cloneNodes l) e_impl_cloneNodes (dn FTA n_impl_cloneNodes [.t (.sl false (l.map (GNode.row false)))])) ∧
    (∀ (out : List (GNode)) (l : List GNode) (x1 : Int), Ok (impl_cloneNodes_l8 out l x1) e_impl_cloneNodes (ev FTA c_impl_cloneNodes (.loop k_impl_cloneNodes_l8) [.lv 0, .th k_impl_cloneNodes_r4] (putS (List.replicate 19 .dead) [(3, .ref (16, 0) out.length), (6, .t (.sl false (l.map (GNode.row false)))), (7, .t (.v (.int .i64 (lenL l)))), (8, .t (.v (.int .i64 x1)))]) (putR (List.replicate 19 []) [(16, [.mem (out.map (GNode.row true)) 0 false])]))) := by
  unfold Ok
  refine impl_cloneNode.mutual_partial_correctness _ _ _ ?_ ?_ ?_ 
  · intro F1 ih1 n
    show Ok _ _ _
    have ih1 : ∀ (l : List GNode), Ok (F1 l) _ _ := ih1
    rw [den_ev FTA (fn := k_impl_cloneNode) rfl (xOf_none rfl rfl _) (Nat.le_of_ble_eq_true rfl)]
    have g0 := slices_Clone_Decl_ok; try simp only [SSA, RS, Nat.reduceAdd, Nat.reduceSub, Nat.reduceMul, Nat.reduceLeDiff, Nat.reduceLT, Nat.reduceEqDiff, Nat.reduceBEq, ↓reduceIte, reduceCtorEq] at g0
    have g1 := slices_Clone_Attr_ok; try simp only [SSA, RS, Nat.reduceAdd, Nat.reduceSub, Nat.reduceMul, Nat.reduceLeDiff, Nat.reduceLT, Nat.reduceEqDiff, Nat.reduceBEq, ↓reduceIte, reduceCtorEq] at g1
    have g2 := ih1; try simp only [SSA, RS, Nat.reduceAdd, Nat.reduceSub, Nat.reduceMul, Nat.reduceLeDiff, Nat.reduceLT, Nat.reduceEqDiff, Nat.reduceBEq, ↓reduceIte, reduceCtorEq] at g2
    simp only [SSA, RS, c_impl_cloneNode, k_impl_cloneNode, e_impl_cloneNodes, e_slices_Clone_Attr, e_slices_Clone_Decl, Nat.reduceAdd, Nat.reduceSub, Nat.reduceMul, Nat.reduceLeDiff, Nat.reduceLT, Nat.reduceEqDiff, Nat.reduceBEq, ↓reduceIte, reduceCtorEq]
    repeat' first
      | with_reducible exact Ok_none
      | ((with_reducible refine Ok_ret ?_); first | rfl | (simp only [SSA, RS, e_impl_cloneNode, Nat.reduceAdd, Nat.reduceSub, Nat.reduceMul, Nat.reduceLeDiff, Nat.reduceLT, Nat.reduceEqDiff, Nat.reduceBEq, ↓reduceIte, reduceCtorEq]; done))
      | ((first | with_reducible refine Ok_call (g0 _) fun v => ?_ | with_reducible refine Ok_call (g1 _) fun v => ?_ | with_reducible refine Ok_call (g2 _) fun v => ?_ | refine Ok_call (g0 _) fun v => ?_ | refine Ok_call (g1 _) fun v => ?_ | refine Ok_call (g2 _) fun v => ?_) <;> simp only [SSA, RS, *, e_impl_cloneNodes, e_slices_Clone_Attr, e_slices_Clone_Decl, Nat.reduceAdd, Nat.reduceSub, Nat.reduceMul, Nat.reduceLeDiff, Nat.reduceLT, Nat.reduceEqDiff, Nat.reduceBEq, ↓reduceIte, reduceCtorEq])
  · intro F2 ih2 l
    show Ok _ _ _
    have ih2 : ∀ (out : List (GNode)) (l : List GNode) (x1 : Int), Ok (F2 out l x1) _ _ := ih2
    rw [den_ev FTA (fn := k_impl_cloneNodes) rfl (xOf_none rfl rfl _) (Nat.le_of_ble_eq_true rfl)]
    simp only [SSA, RS, c_impl_cloneNodes, k_impl_cloneNodes, Nat.reduceAdd, Nat.reduceSub, Nat.reduceMul, Nat.reduceLeDiff, Nat.reduceLT, Nat.reduceEqDiff, Nat.reduceBEq, ↓reduceIte, reduceCtorEq]
    repeat' first
      | with_reducible exact Ok_none
      | ((with_reducible refine Ok_ret ?_); first | rfl | (simp only [SSA, RS, e_impl_cloneNodes, Nat.reduceAdd, Nat.reduceSub, Nat.reduceMul, Nat.reduceLeDiff, Nat.reduceLT, Nat.reduceEqDiff, Nat.reduceBEq, ↓reduceIte, reduceCtorEq]; done))
      | ((with_reducible refine Ok_tail (ih2 _ _ _) ?_); first | rfl | (simp only [SSA, RS, c_impl_cloneNodes, Nat.reduceAdd, Nat.reduceSub, Nat.reduceMul, Nat.reduceLeDiff, Nat.reduceLT, Nat.reduceEqDiff, Nat.reduceBEq, ↓reduceIte, reduceCtorEq]; done) | (simp only [SSA, RS, c_impl_cloneNodes, Nat.reduceAdd, Nat.reduceSub, Nat.reduceMul, Nat.reduceLeDiff, Nat.reduceLT, Nat.reduceEqDiff, Nat.reduceBEq, ↓reduceIte, reduceCtorEq]; rfl))
  · intro F0 F2 ih0 ih2 out l x1
    show Ok _ _ _
    have ih0 : ∀ (n : GNode), Ok (F0 n) _ _ := ih0
    have ih2 : ∀ (out : List (GNode)) (l : List GNode) (x1 : Int), Ok (F2 out l x1) _ _ := ih2
    rw [ev_loop]
    have g0 := ih0; try simp only [SSA, RS, Nat.reduceAdd, Nat.reduceSub, Nat.reduceMul, Nat.reduceLeDiff, Nat.reduceLT, Nat.reduceEqDiff, Nat.reduceBEq, ↓reduceIte, reduceCtorEq] at g0
    simp only [SSA, RS, c_impl_cloneNodes, k_impl_cloneNodes_l8, k_impl_cloneNodes_r4, e_impl_cloneNode, Nat.reduceAdd, Nat.reduceSub, Nat.reduceMul, Nat.reduceLeDiff, Nat.reduceLT, Nat.reduceEqDiff, Nat.reduceBEq, ↓reduceIte, reduceCtorEq]
    repeat' first
      | with_reducible exact Ok_none
      | ((with_reducible refine Ok_ret ?_); first | rfl | (simp only [SSA, RS, e_impl_cloneNodes, Nat.reduceAdd, Nat.reduceSub, Nat.reduceMul, Nat.reduceLeDiff, Nat.reduceLT, Nat.reduceEqDiff, Nat.reduceBEq, ↓reduceIte, reduceCtorEq]; done))
      | ((with_reducible refine Ok_tail (ih2 _ _ _) ?_); first | rfl | (simp only [SSA, RS, c_impl_cloneNodes, Nat.reduceAdd, Nat.reduceSub, Nat.reduceMul, Nat.reduceLeDiff, Nat.reduceLT, Nat.reduceEqDiff, Nat.reduceBEq, ↓reduceIte, reduceCtorEq]; done) | (simp only [SSA, RS, c_impl_cloneNodes, Nat.reduceAdd, Nat.reduceSub, Nat.reduceMul, Nat.reduceLeDiff, Nat.reduceLT, Nat.reduceEqDiff, Nat.reduceBEq, ↓reduceIte, reduceCtorEq]; rfl))
      | ((first | with_reducible refine Ok_if (fun h => ?_) (fun h => ?_) | with_reducible refine Ok_get fun a h => ?_ | with_reducible refine Ok_call (g0 _) fun v => ?_ | with_reducible refine Ok_prim (p := room _ _) fun a h => ?_ | refine Ok_call (g0 _) fun v => ?_) <;> simp only [SSA, RS, *, k_impl_cloneNodes_r4, e_impl_cloneNode, Nat.reduceAdd, Nat.reduceSub, Nat.reduceMul, Nat.reduceLeDiff, Nat.reduceLT, Nat.reduceEqDiff, Nat.reduceBEq, ↓reduceIte, reduceCtorEq])
theorem impl_cloneNode_ok (n : GNode) : Ok (impl_cloneNode n) e_impl_cloneNode (dn FTA n_impl_cloneNode [.agg (((GNode.row false) n).map .t)]) := G_impl_cloneNode.1 n
theorem impl_cloneNodes_ok (l : List GNode) : Ok (impl_cloneNodes l) e_impl_cloneNodes (dn FTA n_impl_cloneNodes [.t (.sl false (l.map (GNode.row false)))]) := G_impl_cloneNode.2.1 l
theorem impl_cloneNodes_l8_ok (out : List (GNode)) (l : List GNode) (x1 : Int) : Ok (impl_cloneNodes_l8 out l x1) e_impl_cloneNodes (ev FTA c_impl_cloneNodes (.loop k_impl_cloneNodes_l8) [.lv 0, .th k_impl_cloneNodes_r4] (putS (List.replicate 19 .dead) [(3, .ref (16, 0) out.length), (6, .t (.sl false (l.map (GNode.row false)))), (7, .t (.v (.int .i64 (lenL l)))), (8, .t (.v (.int .i64 x1)))]) (putR (List.replicate 19 []) [(16, [.mem (out.map (GNode.row true)) 0 false])])) := G_impl_cloneNode.2.2 out l x1

def e_impl_NodeAt (r : GNode × Bool) : Res := ⟨[.agg [.v (.int .i64 r.1.Kind), .v (.string r.1.Pre), .v (.string r.1.Local), .v (.string r.1.Uri), .sl true (r.1.Decls.map GDecl.row), .sl true (r.1.Attrs.map GAttr.row), .sl true (r.1.Kids.map (GNode.row true)), .v (.string r.1.Text)], .t (.v (.bool r.2))], []⟩
def c_impl_NodeAt : Cx := ⟨2, [0, 0], [.cell 4 8 true, .tmp 5]⟩
theorem impl_NodeAt_l6_ok' (path : List Int) : ∀ (x2 : Int) (n1 : GNode), Ok (impl_NodeAt_l6 path x2 n1) e_impl_NodeAt (ev FTA c_impl_NodeAt (.loop k_impl_NodeAt_l6) [.lv 0, .th k_impl_NodeAt_r2] (putS (List.replicate 30 .dead) [(2, .ptr (2, 0) [] 0 0 1 0), (4, .ptr (4, 0) [] 0 0 1 0), (8, .t (.sl false (path.map rI))), (9, .t (.v (.int .i64 (lenL path)))), (10, .t (.v (.int .i64 x2)))]) (putR (List.replicate 30 []) [(2, [.mem [[.v (.int .i64 n1.Kind), .v (.string n1.Pre), .v (.string n1.Local), .v (.string n1.Uri), .sl false (n1.Decls.map GDecl.row), .sl false (n1.Attrs.map GAttr.row), .sl false (n1.Kids.map (GNode.row false)), .v (.string n1.Text)]] 0 false]), (4, [.mem [[.v (.int .i64 0), .v (.string (⟨#[]⟩)), .v (.string (⟨#[]⟩)), .v (.string (⟨#[]⟩)), .sl true [], .sl true [], .sl true [], .v (.string (⟨#[]⟩))]] 0 false])])) := by
  unfold Ok
  refine impl_NodeAt_l6.partial_correctness path _ ?_
  intro F ih x2 n1
  show Ok _ _ _
  have ih : ∀ (x2 : Int) (n1 : GNode), Ok (F x2 n1) _ _ := ih
  rw [ev_loop]
  have g0 := impl_in_ok; try simp only [SSA, RS, Nat.reduceAdd, Nat.reduceSub, Nat.reduceMul, Nat.reduceLeDiff, Nat.reduceLT, Nat.reduceEqDiff, Nat.reduceBEq, ↓reduceIte, reduceCtorEq] at g0
  have g1 := impl_cloneNode_ok; try simp only [SSA, RS, Nat.reduceAdd, Nat.reduceSub, Nat.reduceMul, Nat.reduceLeDiff, Nat.reduceLT, Nat.reduceEqDiff, Nat.reduceBEq, ↓reduceIte, reduceCtorEq] at g1
  simp only [SSA, RS, c_impl_NodeAt, k_impl_NodeAt_l6, k_impl_NodeAt_r2, e_impl_cloneNode, e_impl_in, Nat.reduceAdd, Nat.reduceSub, Nat.reduceMul, Nat.reduceLeDiff, Nat.reduceLT, Nat.reduceEqDiff, Nat.reduceBEq, ↓reduceIte, reduceCtorEq]
  repeat' first
    | with_reducible exact Ok_none
    | ((with_reducible refine Ok_ret ?_); first | rfl | (simp only [SSA, RS, e_impl_NodeAt, Nat.reduceAdd, Nat.reduceSub, Nat.reduceMul, Nat.reduceLeDiff, Nat.reduceLT, Nat.reduceEqDiff, Nat.reduceBEq, ↓reduceIte, reduceCtorEq]; done))
    | ((with_reducible refine Ok_tail (ih _ _) ?_); first | rfl | (simp only [SSA, RS, c_impl_NodeAt, Nat.reduceAdd, Nat.reduceSub, Nat.reduceMul, Nat.reduceLeDiff, Nat.reduceLT, Nat.reduceEqDiff, Nat.reduceBEq, ↓reduceIte, reduceCtorEq]; done) | (simp only [SSA, RS, c_impl_NodeAt, Nat.reduceAdd, Nat.reduceSub, Nat.reduceMul, Nat.reduceLeDiff, Nat.reduceLT, Nat.reduceEqDiff, Nat.reduceBEq, ↓reduceIte, reduceCtorEq]; rfl))
    | ((first | with_reducible refine Ok_if (fun h => ?_) (fun h => ?_) | with_reducible refine Ok_get fun a h => ?_ | with_reducible refine Ok_call (g0 _ _ _) fun v => ?_ | with_reducible refine Ok_call (g1 _) fun v => ?_ | refine Ok_call (g0 _ _ _) fun v => ?_ | refine Ok_call (g1 _) fun v => ?_) <;> simp only [SSA, RS, *, k_impl_NodeAt_r2, e_impl_cloneNode, e_impl_in, Nat.reduceAdd, Nat.reduceSub, Nat.reduceMul, Nat.reduceLeDiff, Nat.reduceLT, Nat.reduceEqDiff, Nat.reduceBEq, ↓reduceIte, reduceCtorEq])
theorem impl_NodeAt_l6_ok (path : List Int) (x2 : Int) (n1 : GNode) : Ok (impl_NodeAt_l6 path x2 n1) e_impl_NodeAt (ev FTA c_impl_NodeAt (.loop k_impl_NodeAt_l6) [.lv 0, .th k_impl_NodeAt_r2] (putS (List.replicate 30 .dead) [(2, .ptr (2, 0) [] 0 0 1 0), (4, .ptr (4, 0) [] 0 0 1 0), (8, .t (.sl false (path.map rI))), (9, .t (.v (.int .i64 (lenL path)))), (10, .t (.v (.int .i64 x2)))]) (putR (List.replicate 30 []) [(2, [.mem [[.v (.int .i64 n1.Kind), .v (.string n1.Pre), .v (.string n1.Local), .v (.string n1.Uri), .sl false (n1.Decls.map GDecl.row), .sl false (n1.Attrs.map GAttr.row), .sl false (n1.Kids.map (GNode.row false)), .v (.string n1.Text)]] 0 false]), (4, [.mem [[.v (.int .i64 0), .v (.string (⟨#[]⟩)), .v (.string (⟨#[]⟩)), .v (.string (⟨#[]⟩)), .sl true [], .sl true [], .sl true [], .v (.string (⟨#[]⟩))]] 0 false])])) := impl_NodeAt_l6_ok' path x2 n1

theorem impl_NodeAt_ok : ∀ (n : GNode) (path : List Int), Ok (impl_NodeAt n path) e_impl_NodeAt (dn FTA n_impl_NodeAt [.agg (((GNode.row false) n).map .t), .t (.sl false (path.map rI))]) := by
  intro n path
  rw [den_ev FTA (fn := k_impl_NodeAt) rfl (xOf_none rfl rfl _) (Nat.le_of_ble_eq_true rfl)]
  simp only [SSA, RS, c_impl_NodeAt, k_impl_NodeAt, impl_NodeAt, Nat.reduceAdd, Nat.reduceSub, Nat.reduceMul, Nat.reduceLeDiff, Nat.reduceLT, Nat.reduceEqDiff, Nat.reduceBEq, ↓reduceIte, reduceCtorEq]
  repeat' first
    | with_reducible exact Ok_none
    | ((with_reducible refine Ok_ret ?_); first | rfl | (simp only [SSA, RS, e_impl_NodeAt, Nat.reduceAdd, Nat.reduceSub, Nat.reduceMul, Nat.reduceLeDiff, Nat.reduceLT, Nat.reduceEqDiff, Nat.reduceBEq, ↓reduceIte, reduceCtorEq]; done))
    | ((with_reducible refine Ok_tail (impl_NodeAt_l6_ok _ _ _) ?_); first | rfl | (simp only [SSA, RS, c_impl_NodeAt, Nat.reduceAdd, Nat.reduceSub, Nat.reduceMul, Nat.reduceLeDiff, Nat.reduceLT, Nat.reduceEqDiff, Nat.reduceBEq, ↓reduceIte, reduceCtorEq]; done) | (simp only [SSA, RS, c_impl_NodeAt, Nat.reduceAdd, Nat.reduceSub, Nat.reduceMul, Nat.reduceLeDiff, Nat.reduceLT, Nat.reduceEqDiff, Nat.reduceBEq, ↓reduceIte, reduceCtorEq]; rfl))

def e_impl_ofKind (r : Int) : Res := ⟨[.t (.v (.int .i64 r))], []⟩
def c_impl_ofKind : Cx := ⟨2, [0, 0], [.tmp 4]⟩
theorem impl_ofKind_l8_ok' (kind : Int) (l : List GNode) : ∀ (n : Int) (x1 : Int), Ok (impl_ofKind_l8 kind n l x1) e_impl_ofKind (ev FTA c_impl_ofKind (.loop k_impl_ofKind_l8) [.lv 0, .th k_impl_ofKind_r4] (putS (List.replicate 22 .dead) [(1, .t (.v (.int .i64 kind))), (5, .t (.v (.int .i64 n))), (8, .t (.sl false (l.map (GNode.row false)))), (9, .t (.v (.int .i64 (lenL l)))), (10, .t (.v (.int .i64 x1)))]) (putR (List.replicate 22 []) [])) := by
  unfold Ok
  refine impl_ofKind_l8.partial_correctness kind l _ ?_
  intro F ih n x1
  show Ok _ _ _
  have ih : ∀ (n : Int) (x1 : Int), Ok (F n x1) _ _ := ih
  rw [ev_loop]
  simp only [SSA, RS, c_impl_ofKind, k_impl_ofKind_l8, k_impl_ofKind_r4, Nat.reduceAdd, Nat.reduceSub, Nat.reduceMul, Nat.reduceLeDiff, Nat.reduceLT, Nat.reduceEqDiff, Nat.reduceBEq, ↓reduceIte, reduceCtorEq]
  repeat' first
    | with_reducible exact Ok_none
    | ((with_reducible refine Ok_ret ?_); first | rfl | (simp only [SSA, RS, e_impl_ofKind, Nat.reduceAdd, Nat.reduceSub, Nat.reduceMul, Nat.reduceLeDiff, Nat.reduceLT, Nat.reduceEqDiff, Nat.reduceBEq, ↓reduceIte, reduceCtorEq]; done))
    | ((with_reducible refine Ok_tail (ih _ _) ?_); first | rfl | (simp only [SSA, RS, c_impl_ofKind, Nat.reduceAdd, Nat.reduceSub, Nat.reduceMul, Nat.reduceLeDiff, Nat.reduceLT, Nat.reduceEqDiff, Nat.reduceBEq, ↓reduceIte, reduceCtorEq]; done) | (simp only [SSA, RS, c_impl_ofKind, Nat.reduceAdd, Nat.reduceSub, Nat.reduceMul, Nat.reduceLeDiff, Nat.reduceLT, Nat.reduceEqDiff, Nat.reduceBEq, ↓reduceIte, reduceCtorEq]; rfl))
    | ((first | with_reducible refine Ok_if (fun h => ?_) (fun h => ?_) | with_reducible refine Ok_get fun a h => ?_) <;> simp only [SSA, RS, *, k_impl_ofKind_r4, Nat.reduceAdd, Nat.reduceSub, Nat.reduceMul, Nat.reduceLeDiff, Nat.reduceLT, Nat.reduceEqDiff, Nat.reduceBEq, ↓reduceIte, reduceCtorEq])
theorem impl_ofKind_l8_ok (kind : Int) (n : Int) (l : List GNode) (x1 : Int) : Ok (impl_ofKind_l8 kind n l x1) e_impl_ofKind (ev FTA c_impl_ofKind (.loop k_impl_ofKind_l8) [.lv 0, .th k_impl_ofKind_r4] (putS (List.replicate 22 .dead) [(1, .t (.v (.int .i64 kind))), (5, .t (.v (.int .i64 n))), (8, .t (.sl false (l.map (GNode.row false)))), (9, .t (.v (.int .i64 (lenL l)))), (10, .t (.v (.int .i64 x1)))]) (putR (List.replicate 22 []) [])) := impl_ofKind_l8_ok' kind l n x1

theorem impl_ofKind_ok : ∀ (l : List GNode) (kind : Int), Ok (impl_ofKind l kind) e_impl_ofKind (dn FTA n_impl_ofKind [.t (.sl false (l.map (GNode.row false))), .t (.v (.int .i64 kind))]) := by
  intro l kind
  rw [den_ev FTA (fn := k_impl_ofKind) rfl (xOf_none rfl rfl _) (Nat.le_of_ble_eq_true rfl)]
  simp only [SSA, RS, c_impl_ofKind, k_impl_ofKind, impl_ofKind, Nat.reduceAdd, Nat.reduceSub, Nat.reduceMul, Nat.reduceLeDiff, Nat.reduceLT, Nat.reduceEqDiff, Nat.reduceBEq, ↓reduceIte, reduceCtorEq]
  repeat' first
    | with_reducible exact Ok_none
    | ((with_reducible refine Ok_ret ?_); first | rfl | (simp only [SSA, RS, e_impl_ofKind, Nat.reduceAdd, Nat.reduceSub, Nat.reduceMul, Nat.reduceLeDiff, Nat.reduceLT, Nat.reduceEqDiff, Nat.reduceBEq, ↓reduceIte, reduceCtorEq]; done))
    | ((with_reducible refine Ok_tail (impl_ofKind_l8_ok _ _ _ _) ?_); first | rfl | (simp only [SSA, RS, c_impl_ofKind, Nat.reduceAdd, Nat.reduceSub, Nat.reduceMul, Nat.reduceLeDiff, Nat.reduceLT, Nat.reduceEqDiff, Nat.reduceBEq, ↓reduceIte, reduceCtorEq]; done) | (simp only [SSA, RS, c_impl_ofKind, Nat.reduceAdd, Nat.reduceSub, Nat.reduceMul, Nat.reduceLeDiff, Nat.reduceLT, Nat.reduceEqDiff, Nat.reduceBEq, ↓reduceIte, reduceCtorEq]; rfl))

def e_impl_stepKind (r : Int) : Res := ⟨[.t (.v (.int .i64 r))], []⟩
def c_impl_stepKind : Cx := ⟨1, [0], [.tmp 2]⟩
theorem impl_stepKind_ok : ∀ (kind : Int), Ok (impl_stepKind kind) e_impl_stepKind (dn FTA n_impl_stepKind [.t (.v (.int .i64 kind))]) := by
  intro kind
  rw [den_ev FTA (fn := k_impl_stepKind) rfl (xOf_none rfl rfl _) (Nat.le_of_ble_eq_true rfl)]
  simp only [SSA, RS, c_impl_stepKind, k_impl_stepKind, impl_stepKind, Nat.reduceAdd, Nat.reduceSub, Nat.reduceMul, Nat.reduceLeDiff, Nat.reduceLT, Nat.reduceEqDiff, Nat.reduceBEq, ↓reduceIte, reduceCtorEq]
  repeat' first
    | with_reducible exact Ok_none
    | ((with_reducible refine Ok_ret ?_); first | rfl | (simp only [SSA, RS, e_impl_stepKind, Nat.reduceAdd, Nat.reduceSub, Nat.reduceMul, Nat.reduceLeDiff, Nat.reduceLT, Nat.reduceEqDiff, Nat.reduceBEq, ↓reduceIte, reduceCtorEq]; done))
    | ((first | with_reducible refine Ok_if (fun h => ?_) (fun h => ?_)) <;> simp only [SSA, RS, *, Nat.reduceAdd, Nat.reduceSub, Nat.reduceMul, Nat.reduceLeDiff, Nat.reduceLT, Nat.reduceEqDiff, Nat.reduceBEq, ↓reduceIte, reduceCtorEq])

def e_impl_SelFor (r : GSel × Bool) : Res := ⟨[.agg [.v (.string r.1.Id), .sl true (r.1.Steps.map (GStp.row true))], .t (.v (.bool r.2))], []⟩
def c_impl_SelFor : Cx := ⟨2, [0, 0], [.cell 4 2 true, .tmp 5]⟩
theorem impl_SelFor_l18_ok' (path : List Int) : ∀ (x4 : Int) (t1 : GNode) (outSteps : List (GStp)), Ok (impl_SelFor_l18 path x4 t1 outSteps) e_impl_SelFor (ev FTA c_impl_SelFor (.loop k_impl_SelFor_l18) [.lv 0, .th k_impl_SelFor_r14] (putS (List.replicate 66 .dead) [(2, .ptr (2, 0) [] 0 0 1 0), (4, .ptr (4, 0) [] 0 0 1 0), (8, .ptr (8, 0) [] 0 0 1 0), (29, .t (.sl false (path.map rI))), (30, .t (.v (.int .i64 (lenL path)))), (31, .t (.v (.int .i64 x4)))]) (putR (List.replicate 66 []) [(2, [.mem [[.v (.int .i64 t1.Kind), .v (.string t1.Pre), .v (.string t1.Local), .v (.string t1.Uri), .sl false (t1.Decls.map GDecl.row), .sl false (t1.Attrs.map GAttr.row), .sl false (t1.Kids.map (GNode.row false)), .v (.string t1.Text)]] 0 false]), (4, [.mem [[.v (.string (⟨#[]⟩)), .sl true []]] 0 false]), (8, [.mem [[.v (.string (⟨#[]⟩)), .sl true (outSteps.map (GStp.row true))]] 0 false])])) := by
  unfold Ok
  refine impl_SelFor_l18.partial_correctness path _ ?_
  intro F ih x4 t1 outSteps
  show Ok _ _ _
  have ih : ∀ (x4 : Int) (t1 : GNode) (outSteps : List (GStp)), Ok (F x4 t1 outSteps) _ _ := ih
  rw [ev_loop]
  have g0 := impl_ofKind_ok; try simp only [SSA, RS, Nat.reduceAdd, Nat.reduceSub, Nat.reduceMul, Nat.reduceLeDiff, Nat.reduceLT, Nat.reduceEqDiff, Nat.reduceBEq, ↓reduceIte, reduceCtorEq] at g0
  have g1 := impl_stepKind_ok; try simp only [SSA, RS, Nat.reduceAdd, Nat.reduceSub, Nat.reduceMul, Nat.reduceLeDiff, Nat.reduceLT, Nat.reduceEqDiff, Nat.reduceBEq, ↓reduceIte, reduceCtorEq] at g1
  simp only [SSA, RS, c_impl_SelFor, k_impl_SelFor_l18, k_impl_SelFor_r14, e_impl_ofKind, e_impl_stepKind, Nat.reduceAdd, Nat.reduceSub, Nat.reduceMul, Nat.reduceLeDiff, Nat.reduceLT, Nat.reduceEqDiff, Nat.reduceBEq, ↓reduceIte, reduceCtorEq]
  repeat' first
    | with_reducible exact Ok_none
    | ((with_reducible refine Ok_ret ?_); first | rfl | (simp only [SSA, RS, e_impl_SelFor, Nat.reduceAdd, Nat.reduceSub, Nat.reduceMul, Nat.reduceLeDiff, Nat.reduceLT, Nat.reduceEqDiff, Nat.reduceBEq, ↓reduceIte, reduceCtorEq]; done))
    | ((with_reducible refine Ok_tail (ih _ _ _) ?_); first | rfl | (simp only [SSA, RS, c_impl_SelFor, Nat.reduceAdd, Nat.reduceSub, Nat.reduceMul, Nat.reduceLeDiff, Nat.reduceLT, Nat.reduceEqDiff, Nat.reduceBEq, ↓reduceIte, reduceCtorEq]; done) | (simp only [SSA, RS, c_impl_SelFor, Nat.reduceAdd, Nat.reduceSub, Nat.reduceMul, Nat.reduceLeDiff, Nat.reduceLT, Nat.reduceEqDiff, Nat.reduceBEq, ↓reduceIte, reduceCtorEq]; rfl))
    | ((first | with_reducible refine Ok_if (fun h => ?_) (fun h => ?_) | with_reducible refine Ok_get fun a h => ?_ | with_reducible refine Ok_call (g0 _ _) fun v => ?_ | with_reducible refine Ok_call (g1 _) fun v => ?_ | with_reducible refine Ok_prim (p := room _ _) fun a h => ?_ | with_reducible refine Ok_prim (p := slL _ _ _) fun a h => ?_ | refine Ok_call (g0 _ _) fun v => ?_ | refine Ok_call (g1 _) fun v => ?_) <;> simp only [SSA, RS, *, k_impl_SelFor_r14, e_impl_ofKind, e_impl_stepKind, Nat.reduceAdd, Nat.reduceSub, Nat.reduceMul, Nat.reduceLeDiff, Nat.reduceLT, Nat.reduceEqDiff, Nat.reduceBEq, ↓reduceIte, reduceCtorEq])
theorem impl_SelFor_l18_ok (path : List Int) (x4 : Int) (t1 : GNode) (outSteps : List (GStp)) : Ok (impl_SelFor_l18 path x4 t1 outSteps) e_impl_SelFor (ev FTA c_impl_SelFor (.loop k_impl_SelFor_l18) [.lv 0, .th k_impl_SelFor_r14] (putS (List.replicate 66 .dead) [(2, .ptr (2, 0) [] 0 0 1 0), (4, .ptr (4, 0) [] 0 0 1 0), (8, .ptr (8, 0) [] 0 0 1 0), (29, .t (.sl false (path.map rI))), (30, .t (.v (.int .i64 (lenL path)))), (31, .t (.v (.int .i64 x4)))]) (putR (List.replicate 66 []) [(2, [.mem [[.v (.int .i64 t1.Kind), .v (.string t1.Pre), .v (.string t1.Local), .v (.string t1.Uri), .sl false (t1.Decls.map GDecl.row), .sl false (t1.Attrs.map GAttr.row), .sl false (t1.Kids.map (GNode.row false)), .v (.string t1.Text)]] 0 false]), (4, [.mem [[.v (.string (⟨#[]⟩)), .sl true []]] 0 false]), (8, [.mem [[.v (.string (⟨#[]⟩)), .sl true (outSteps.map (GStp.row true))]] 0 false])])) := impl_SelFor_l18_ok' path x4 t1 outSteps

theorem impl_SelFor_ok : ∀ (t : GNode) (path : List Int), Ok (impl_SelFor t path) e_impl_SelFor (dn FTA n_impl_SelFor [.agg (((GNode.row false) t).map .t), .t (.sl false (path.map rI))]) := by
  intro t path
  rw [den_ev FTA (fn := k_impl_SelFor) rfl (xOf_none rfl rfl _) (Nat.le_of_ble_eq_true rfl)]
  have g0 := impl_NodeAt_ok; try simp only [SSA, RS, Nat.reduceAdd, Nat.reduceSub, Nat.reduceMul, Nat.reduceLeDiff, Nat.reduceLT, Nat.reduceEqDiff, Nat.reduceBEq, ↓reduceIte, reduceCtorEq] at g0
  have g1 := impl_in_ok; try simp only [SSA, RS, Nat.reduceAdd, Nat.reduceSub, Nat.reduceMul, Nat.reduceLeDiff, Nat.reduceLT, Nat.reduceEqDiff, Nat.reduceBEq, ↓reduceIte, reduceCtorEq] at g1
  simp only [SSA, RS, c_impl_SelFor, k_impl_SelFor, impl_SelFor, e_impl_NodeAt, e_impl_in, Nat.reduceAdd, Nat.reduceSub, Nat.reduceMul, Nat.reduceLeDiff, Nat.reduceLT, Nat.reduceEqDiff, Nat.reduceBEq, ↓reduceIte, reduceCtorEq]
  repeat' first
    | with_reducible exact Ok_none
    | ((with_reducible refine Ok_ret ?_); first | rfl | (simp only [SSA, RS, e_impl_SelFor, Nat.reduceAdd, Nat.reduceSub, Nat.reduceMul, Nat.reduceLeDiff, Nat.reduceLT, Nat.reduceEqDiff, Nat.reduceBEq, ↓reduceIte, reduceCtorEq]; done))
    | ((with_reducible refine Ok_tail (impl_SelFor_l18_ok _ _ _ _) ?_); first | rfl | (simp only [SSA, RS, c_impl_SelFor, Nat.reduceAdd, Nat.reduceSub, Nat.reduceMul, Nat.reduceLeDiff, Nat.reduceLT, Nat.reduceEqDiff, Nat.reduceBEq, ↓reduceIte, reduceCtorEq]; done) | (simp only [SSA, RS, c_impl_SelFor, Nat.reduceAdd, Nat.reduceSub, Nat.reduceMul, Nat.reduceLeDiff, Nat.reduceLT, Nat.reduceEqDiff, Nat.reduceBEq, ↓reduceIte, reduceCtorEq]; rfl))
    | ((first | with_reducible refine Ok_if (fun h => ?_) (fun h => ?_) | with_reducible refine Ok_call (g0 _ _) fun v => ?_ | with_reducible refine Ok_call (g1 _ _ _) fun v => ?_ | refine Ok_call (g0 _ _) fun v => ?_ | refine Ok_call (g1 _ _ _) fun v => ?_) <;> simp only [SSA, RS, *, e_impl_NodeAt, e_impl_in, Nat.reduceAdd, Nat.reduceSub, Nat.reduceMul, Nat.reduceLeDiff, Nat.reduceLT, Nat.reduceEqDiff, Nat.reduceBEq, ↓reduceIte, reduceCtorEq])

def e_unicode_utf8_DecodeRuneInString (r : Int × Int) : Res := ⟨[.t (.v (.int .i32 r.1)), .t (.v (.int .i64 r.2))], []⟩
def c_unicode_utf8_DecodeRuneInString : Cx := ⟨1, [0], [.tmp 2, .tmp 3]⟩
theorem unicode_utf8_DecodeRuneInString_ok : ∀ (s : ByteArray), Ok (unicode_utf8_DecodeRuneInString s) e_unicode_utf8_DecodeRuneInString (dn FTA n_unicode_utf8_DecodeRuneInString [.t (.v (.string s))]) := by
  intro s r hr
  exact den_ext FTA.ft (xOf FTA) (x_decode_ok s (e := e_unicode_utf8_DecodeRuneInString) (fun _ => rfl) hr)

def e_impl_SignAt (r : Int × Int × Bool) : Res := ⟨[.t (.v (.int .i64 r.1)), .t (.v (.int .i64 r.2.1)), .t (.v (.bool r.2.2))], []⟩
def c_impl_SignAt : Cx := ⟨2, [0, 0], [.tmp 4, .tmp 5, .tmp 6]⟩
theorem impl_SignAt_ok : ∀ (s : ByteArray) (at1 : Int), Ok (impl_SignAt s at1) e_impl_SignAt (dn FTA n_impl_SignAt [.t (.v (.string s)), .t (.v (.int .i64 at1))]) := by
  intro s at1
  rw [den_ev FTA (fn := k_impl_SignAt) rfl (xOf_none rfl rfl _) (Nat.le_of_ble_eq_true rfl)]
  have g0 := impl_in_ok; try simp only [SSA, RS, Nat.reduceAdd, Nat.reduceSub, Nat.reduceMul, Nat.reduceLeDiff, Nat.reduceLT, Nat.reduceEqDiff, Nat.reduceBEq, ↓reduceIte, reduceCtorEq] at g0
  have g1 := unicode_utf8_DecodeRuneInString_ok; try simp only [SSA, RS, Nat.reduceAdd, Nat.reduceSub, Nat.reduceMul, Nat.reduceLeDiff, Nat.reduceLT, Nat.reduceEqDiff, Nat.reduceBEq, ↓reduceIte, reduceCtorEq] at g1
  simp only [SSA, RS, c_impl_SignAt, k_impl_SignAt, impl_SignAt, e_impl_in, e_unicode_utf8_DecodeRuneInString, Nat.reduceAdd, Nat.reduceSub, Nat.reduceMul, Nat.reduceLeDiff, Nat.reduceLT, Nat.reduceEqDiff, Nat.reduceBEq, ↓reduceIte, reduceCtorEq]
  repeat' first
    | with_reducible exact Ok_none
    | ((with_reducible refine Ok_ret ?_); first | rfl | (simp only [SSA, RS, e_impl_SignAt, Nat.reduceAdd, Nat.reduceSub, Nat.reduceMul, Nat.reduceLeDiff, Nat.reduceLT, Nat.reduceEqDiff, Nat.reduceBEq, ↓reduceIte, reduceCtorEq]; done))
    | ((first | with_reducible refine Ok_if (fun h => ?_) (fun h => ?_) | with_reducible refine Ok_call (g0 _ _ _) fun v => ?_ | with_reducible refine Ok_call (g1 _) fun v => ?_ | with_reducible refine Ok_prim (p := subS _ _ _) fun a h => ?_ | refine Ok_call (g0 _ _ _) fun v => ?_ | refine Ok_call (g1 _) fun v => ?_) <;> simp only [SSA, RS, *, e_impl_in, e_unicode_utf8_DecodeRuneInString, Nat.reduceAdd, Nat.reduceSub, Nat.reduceMul, Nat.reduceLeDiff, Nat.reduceLT, Nat.reduceEqDiff, Nat.reduceBEq, ↓reduceIte, reduceCtorEq])

def e_impl_inAny_1 (r : Bool × Int) : Res := ⟨[.t (.v (.bool r.1))], [some [[.v (.int .i64 r.2)]]]⟩
def c_impl_inAny_1 : Cx := ⟨2, [0, 1], [.tmp 3]⟩
theorem impl_inAny_1_ok : ∀ (r : GArr2Int) (a1 : Int), Ok (impl_inAny_1 r a1) e_impl_inAny_1 (dn FTA n_impl_inAny_1 [.agg ((GArr2Int.row r).map .t), .lp [.v (.int .i64 a1)] 0]) := by
  intro r a1
  rw [den_ev FTA (fn := k_impl_inAny_1) rfl (xOf_none rfl rfl _) (Nat.le_of_ble_eq_true rfl)]
  have g0 := impl_in_ok; try simp only [SSA, RS, Nat.reduceAdd, Nat.reduceSub, Nat.reduceMul, Nat.reduceLeDiff, Nat.reduceLT, Nat.reduceEqDiff, Nat.reduceBEq, ↓reduceIte, reduceCtorEq] at g0
  simp only [SSA, RS, c_impl_inAny_1, k_impl_inAny_1, impl_inAny_1, e_impl_in, Nat.reduceAdd, Nat.reduceSub, Nat.reduceMul, Nat.reduceLeDiff, Nat.reduceLT, Nat.reduceEqDiff, Nat.reduceBEq, ↓reduceIte, reduceCtorEq]
  repeat' first
    | with_reducible exact Ok_none
    | ((with_reducible refine Ok_ret ?_); first | rfl | (simp only [SSA, RS, e_impl_inAny_1, Nat.reduceAdd, Nat.reduceSub, Nat.reduceMul, Nat.reduceLeDiff, Nat.reduceLT, Nat.reduceEqDiff, Nat.reduceBEq, ↓reduceIte, reduceCtorEq]; done))
    | ((first | with_reducible refine Ok_call (g0 _ _ _) fun v => ?_ | refine Ok_call (g0 _ _ _) fun v => ?_) <;> simp only [SSA, RS, *, e_impl_in, Nat.reduceAdd, Nat.reduceSub, Nat.reduceMul, Nat.reduceLeDiff, Nat.reduceLT, Nat.reduceEqDiff, Nat.reduceBEq, ↓reduceIte, reduceCtorEq])

def e_slices_IndexFunc_A2int_inAny_1 (r : Int × Int) : Res := ⟨[.t (.v (.int .i64 r.1))], [some [[.v (.int .i64 r.2)]]]⟩
def c_slices_IndexFunc_A2int_inAny_1 : Cx := ⟨2, [0, 1], [.tmp 4]⟩
theorem slices_IndexFunc_A2int_inAny_1_l6_ok' (s : List GArr2Int) : ∀ (x1 : Int) (f : Int), Ok (slices_IndexFunc_A2int_inAny_1_l6 s x1 f) e_slices_IndexFunc_A2int_inAny_1 (ev FTA c_slices_IndexFunc_A2int_inAny_1 (.loop k_slices_IndexFunc_A2int_l6) [.lv 0, .th k_slices_IndexFunc_A2int_r2] (putS (List.replicate 19 .dead) [(0, .t (.sl false (s.map GArr2Int.row))), (1, .fn n_impl_inAny_1 [.ptr (1, 0) [] 0 0 1 0]), (7, .t (.v (.int .i64 (lenL s)))), (8, .t (.v (.int .i64 x1)))]) (putR (List.replicate 19 []) [(1, [.mem [[.v (.int .i64 f)]] 0 true])])) := by
  unfold Ok
  refine slices_IndexFunc_A2int_inAny_1_l6.partial_correctness s _ ?_
  intro F ih x1 f
  show Ok _ _ _
  have ih : ∀ (x1 : Int) (f : Int), Ok (F x1 f) _ _ := ih
  rw [ev_loop]
  have g0 := impl_inAny_1_ok; try simp only [SSA, RS, Nat.reduceAdd, Nat.reduceSub, Nat.reduceMul, Nat.reduceLeDiff, Nat.reduceLT, Nat.reduceEqDiff, Nat.reduceBEq, ↓reduceIte, reduceCtorEq] at g0
  simp only [SSA, RS, c_slices_IndexFunc_A2int_inAny_1, k_slices_IndexFunc_A2int_l6, k_slices_IndexFunc_A2int_r2, e_impl_inAny_1, Nat.reduceAdd, Nat.reduceSub, Nat.reduceMul, Nat.reduceLeDiff, Nat.reduceLT, Nat.reduceEqDiff, Nat.reduceBEq, ↓reduceIte, reduceCtorEq]
  repeat' first
    | with_reducible exact Ok_none
    | ((with_reducible refine Ok_ret ?_); first | rfl | (simp only [SSA, RS, e_slices_IndexFunc_A2int_inAny_1, Nat.reduceAdd, Nat.reduceSub, Nat.reduceMul, Nat.reduceLeDiff, Nat.reduceLT, Nat.reduceEqDiff, Nat.reduceBEq, ↓reduceIte, reduceCtorEq]; done))
    | ((with_reducible refine Ok_tail (ih _ _) ?_); first | rfl | (simp only [SSA, RS, c_slices_IndexFunc_A2int_inAny_1, Nat.reduceAdd, Nat.reduceSub, Nat.reduceMul, Nat.reduceLeDiff, Nat.reduceLT, Nat.reduceEqDiff, Nat.reduceBEq, ↓reduceIte, reduceCtorEq]; done) | (simp only [SSA, RS, c_slices_IndexFunc_A2int_inAny_1, Nat.reduceAdd, Nat.reduceSub, Nat.reduceMul, Nat.reduceLeDiff, Nat.reduceLT, Nat.reduceEqDiff, Nat.reduceBEq, ↓reduceIte, reduceCtorEq]; rfl))
    | ((first | with_reducible refine Ok_if (fun h => ?_) (fun h => ?_) | with_reducible refine Ok_get fun a h => ?_ | with_reducible refine Ok_call (g0 _ _) fun v => ?_ | refine Ok_call (g0 _ _) fun v => ?_) <;> simp only [SSA, RS, *, k_slices_IndexFunc_A2int_r2, e_impl_inAny_1, Nat.reduceAdd, Nat.reduceSub, Nat.reduceMul, Nat.reduceLeDiff, Nat.reduceLT, Nat.reduceEqDiff, Nat.reduceBEq, ↓reduceIte, reduceCtorEq])
theorem slices_IndexFunc_A2int_inAny_1_l6_ok (s : List GArr2Int) (x1 : Int) (f : Int) : Ok (slices_IndexFunc_A2int_inAny_1_l6 s x1 f) e_slices_IndexFunc_A2int_inAny_1 (ev FTA c_slices_IndexFunc_A2int_inAny_1 (.loop k_slices_IndexFunc_A2int_l6) [.lv 0, .th k_slices_IndexFunc_A2int_r2] (putS (List.replicate 19 .dead) [(0, .t (.sl false (s.map GArr2Int.row))), (1, .fn n_impl_inAny_1 [.ptr (1, 0) [] 0 0 1 0]), (7, .t (.v (.int .i64 (lenL s)))), (8, .t (.v (.int .i64 x1)))]) (putR (List.replicate 19 []) [(1, [.mem [[.v (.int .i64 f)]] 0 true])])) := slices_IndexFunc_A2int_inAny_1_l6_ok' s x1 f

theorem slices_IndexFunc_A2int_inAny_1_ok : ∀ (s : List GArr2Int) (fc0 : Int), Ok (slices_IndexFunc_A2int_inAny_1 s fc0) e_slices_IndexFunc_A2int_inAny_1 (dn FTA n_slices_IndexFunc_A2int [.t (.sl false (s.map GArr2Int.row)), .fn n_impl_inAny_1 [.lp [.v (.int .i64 fc0)] 0]]) := by
  intro s fc0
  rw [den_ev FTA (fn := k_slices_IndexFunc_A2int) rfl (xOf_none rfl rfl _) (Nat.le_of_ble_eq_true rfl)]
  simp only [SSA, RS, c_slices_IndexFunc_A2int_inAny_1, k_slices_IndexFunc_A2int, slices_IndexFunc_A2int_inAny_1, Nat.reduceAdd, Nat.reduceSub, Nat.reduceMul, Nat.reduceLeDiff, Nat.reduceLT, Nat.reduceEqDiff, Nat.reduceBEq, ↓reduceIte, reduceCtorEq]
  repeat' first
    | with_reducible exact Ok_none
    | ((with_reducible refine Ok_ret ?_); first | rfl | (simp only [SSA, RS, e_slices_IndexFunc_A2int_inAny_1, Nat.reduceAdd, Nat.reduceSub, Nat.reduceMul, Nat.reduceLeDiff, Nat.reduceLT, Nat.reduceEqDiff, Nat.reduceBEq, ↓reduceIte, reduceCtorEq]; done))
    | ((with_reducible refine Ok_tail (slices_IndexFunc_A2int_inAny_1_l6_ok _ _ _) ?_); first | rfl | (simp only [SSA, RS, c_slices_IndexFunc_A2int_inAny_1, Nat.reduceAdd, Nat.reduceSub, Nat.reduceMul, Nat.reduceLeDiff, Nat.reduceLT, Nat.reduceEqDiff, Nat.reduceBEq, ↓reduceIte, reduceCtorEq]; done) | (simp only [SSA, RS, c_slices_IndexFunc_A2int_inAny_1, Nat.reduceAdd, Nat.reduceSub, Nat.reduceMul, Nat.reduceLeDiff, Nat.reduceLT, Nat.reduceEqDiff, Nat.reduceBEq, ↓reduceIte, reduceCtorEq]; rfl))

def e_slices_ContainsFunc_A2int_inAny_1 (r : Bool × Int) : Res := ⟨[.t (.v (.bool r.1))], [some [[.v (.int .i64 r.2)]]]⟩
def c_slices_ContainsFunc_A2int_inAny_1 : Cx := ⟨2, [0, 1], [.tmp 4]⟩
theorem slices_ContainsFunc_A2int_inAny_1_ok : ∀ (s : List GArr2Int) (fc0 : Int), Ok (slices_ContainsFunc_A2int_inAny_1 s fc0) e_slices_ContainsFunc_A2int_inAny_1 (dn FTA n_slices_ContainsFunc_A2int [.t (.sl false (s.map GArr2Int.row)), .fn n_impl_inAny_1 [.lp [.v (.int .i64 fc0)] 0]]) := by
  intro s fc0
  rw [den_ev FTA (fn := k_slices_ContainsFunc_A2int) rfl (xOf_none rfl rfl _) (Nat.le_of_ble_eq_true rfl)]
  have g0 := slices_IndexFunc_A2int_inAny_1_ok; try simp only [SSA, RS, Nat.reduceAdd, Nat.reduceSub, Nat.reduceMul, Nat.reduceLeDiff, Nat.reduceLT, Nat.reduceEqDiff, Nat.reduceBEq, ↓reduceIte, reduceCtorEq] at g0
  simp only [SSA, RS, c_slices_ContainsFunc_A2int_inAny_1, k_slices_ContainsFunc_A2int, slices_ContainsFunc_A2int_inAny_1, e_slices_IndexFunc_A2int_inAny_1, Nat.reduceAdd, Nat.reduceSub, Nat.reduceMul, Nat.reduceLeDiff, Nat.reduceLT, Nat.reduceEqDiff, Nat.reduceBEq, ↓reduceIte, reduceCtorEq]
  repeat' first
    | with_reducible exact Ok_none
    | ((with_reducible refine Ok_ret ?_); first | rfl | (simp only [SSA, RS, e_slices_ContainsFunc_A2int_inAny_1, Nat.reduceAdd, Nat.reduceSub, Nat.reduceMul, Nat.reduceLeDiff, Nat.reduceLT, Nat.reduceEqDiff, Nat.reduceBEq, ↓reduceIte, reduceCtorEq]; done))
    | ((first | with_reducible refine Ok_call (g0 _ _) fun v => ?_ | refine Ok_call (g0 _ _) fun v => ?_) <;> simp only [SSA, RS, *, e_slices_IndexFunc_A2int_inAny_1, Nat.reduceAdd, Nat.reduceSub, Nat.reduceMul, Nat.reduceLeDiff, Nat.reduceLT, Nat.reduceEqDiff, Nat.reduceBEq, ↓reduceIte, reduceCtorEq])

def e_impl_inAny (r : Bool) : Res := ⟨[.t (.v (.bool r))], []⟩
def c_impl_inAny : Cx := ⟨2, [0, 0], [.tmp 4]⟩
theorem impl_inAny_ok : ∀ (n : Int) (ranges : List GArr2Int), Ok (impl_inAny n ranges) e_impl_inAny (dn FTA n_impl_inAny [.t (.v (.int .i64 n)), .t (.sl false (ranges.map GArr2Int.row))]) := by
  intro n ranges
  rw [den_ev FTA (fn := k_impl_inAny) rfl (xOf_none rfl rfl _) (Nat.le_of_ble_eq_true rfl)]
  have g0 := slices_ContainsFunc_A2int_inAny_1_ok; try simp only [SSA, RS, Nat.reduceAdd, Nat.reduceSub, Nat.reduceMul, Nat.reduceLeDiff, Nat.reduceLT, Nat.reduceEqDiff, Nat.reduceBEq, ↓reduceIte, reduceCtorEq] at g0
  simp only [SSA, RS, c_impl_inAny, k_impl_inAny, impl_inAny, e_slices_ContainsFunc_A2int_inAny_1, Nat.reduceAdd, Nat.reduceSub, Nat.reduceMul, Nat.reduceLeDiff, Nat.reduceLT, Nat.reduceEqDiff, Nat.reduceBEq, ↓reduceIte, reduceCtorEq]
  repeat' first
    | with_reducible exact Ok_none
    | ((with_reducible refine Ok_ret ?_); first | rfl | (simp only [SSA, RS, e_impl_inAny, Nat.reduceAdd, Nat.reduceSub, Nat.reduceMul, Nat.reduceLeDiff, Nat.reduceLT, Nat.reduceEqDiff, Nat.reduceBEq, ↓reduceIte, reduceCtorEq]; done))
    | ((first | with_reducible refine Ok_call (g0 _ _) fun v => ?_ | refine Ok_call (g0 _ _) fun v => ?_) <;> simp only [SSA, RS, *, e_slices_ContainsFunc_A2int_inAny_1, Nat.reduceAdd, Nat.reduceSub, Nat.reduceMul, Nat.reduceLeDiff, Nat.reduceLT, Nat.reduceEqDiff, Nat.reduceBEq, ↓reduceIte, reduceCtorEq])

def e_impl_IsStart (r : Bool) : Res := ⟨[.t (.v (.bool r))], []⟩
def c_impl_IsStart : Cx := ⟨1, [0], [.tmp 2]⟩
theorem impl_IsStart_ok : ∀ (n : Int), Ok (impl_IsStart n) e_impl_IsStart (dn FTA n_impl_IsStart [.t (.v (.int .i64 n))]) := by
  intro n
  rw [den_ev FTA (fn := k_impl_IsStart) rfl (xOf_none rfl rfl _) (Nat.le_of_ble_eq_true rfl)]
  have g0 := impl_inAny_ok; try simp only [SSA, RS, Nat.reduceAdd, Nat.reduceSub, Nat.reduceMul, Nat.reduceLeDiff, Nat.reduceLT, Nat.reduceEqDiff, Nat.reduceBEq, ↓reduceIte, reduceCtorEq] at g0
  simp only [SSA, RS, c_impl_IsStart, k_impl_IsStart, impl_IsStart, e_impl_inAny, Nat.reduceAdd, Nat.reduceSub, Nat.reduceMul, Nat.reduceLeDiff, Nat.reduceLT, Nat.reduceEqDiff, Nat.reduceBEq, ↓reduceIte, reduceCtorEq]
  repeat' first
    | with_reducible exact Ok_none
    | ((with_reducible refine Ok_ret ?_); first | rfl | (simp only [SSA, RS, e_impl_IsStart, Nat.reduceAdd, Nat.reduceSub, Nat.reduceMul, Nat.reduceLeDiff, Nat.reduceLT, Nat.reduceEqDiff, Nat.reduceBEq, ↓reduceIte, reduceCtorEq]; done))
    | ((first | with_reducible refine Ok_call (g0 _ _) fun v => ?_ | refine Ok_call (g0 _ _) fun v => ?_) <;> simp only [SSA, RS, *, e_impl_inAny, Nat.reduceAdd, Nat.reduceSub, Nat.reduceMul, Nat.reduceLeDiff, Nat.reduceLT, Nat.reduceEqDiff, Nat.reduceBEq, ↓reduceIte, reduceCtorEq])

def e_impl_IsPart (r : Bool) : Res := ⟨[.t (.v (.bool r))], []⟩
def c_impl_IsPart : Cx := ⟨1, [0], [.tmp 2]⟩
theorem impl_IsPart_ok : ∀ (n : Int), Ok (impl_IsPart n) e_impl_IsPart (dn FTA n_impl_IsPart [.t (.v (.int .i64 n))]) := by
  intro n
  rw [den_ev FTA (fn := k_impl_IsPart) rfl (xOf_none rfl rfl _) (Nat.le_of_ble_eq_true rfl)]
  have g0 := impl_IsStart_ok; try simp only [SSA, RS, Nat.reduceAdd, Nat.reduceSub, Nat.reduceMul, Nat.reduceLeDiff, Nat.reduceLT, Nat.reduceEqDiff, Nat.reduceBEq, ↓reduceIte, reduceCtorEq] at g0
  have g1 := impl_inAny_ok; try simp only [SSA, RS, Nat.reduceAdd, Nat.reduceSub, Nat.reduceMul, Nat.reduceLeDiff, Nat.reduceLT, Nat.reduceEqDiff, Nat.reduceBEq, ↓reduceIte, reduceCtorEq] at g1
  simp only [SSA, RS, c_impl_IsPart, k_impl_IsPart, impl_IsPart, e_impl_IsStart, e_impl_inAny, Nat.reduceAdd, Nat.reduceSub, Nat.reduceMul, Nat.reduceLeDiff, Nat.reduceLT, Nat.reduceEqDiff, Nat.reduceBEq, ↓reduceIte, reduceCtorEq]
  repeat' first
    | with_reducible exact Ok_none
    | ((with_reducible refine Ok_ret ?_); first | rfl | (simp only [SSA, RS, e_impl_IsPart, Nat.reduceAdd, Nat.reduceSub, Nat.reduceMul, Nat.reduceLeDiff, Nat.reduceLT, Nat.reduceEqDiff, Nat.reduceBEq, ↓reduceIte, reduceCtorEq]; done))
    | ((first | with_reducible refine Ok_if (fun h => ?_) (fun h => ?_) | with_reducible refine Ok_call (g0 _) fun v => ?_ | with_reducible refine Ok_call (g1 _ _) fun v => ?_ | refine Ok_call (g0 _) fun v => ?_ | refine Ok_call (g1 _ _) fun v => ?_) <;> simp only [SSA, RS, *, e_impl_IsStart, e_impl_inAny, Nat.reduceAdd, Nat.reduceSub, Nat.reduceMul, Nat.reduceLeDiff, Nat.reduceLT, Nat.reduceEqDiff, Nat.reduceBEq, ↓reduceIte, reduceCtorEq])

def e_impl_PlainOk (r : Bool) : Res := ⟨[.t (.v (.bool r))], []⟩
def c_impl_PlainOk : Cx := ⟨1, [0], [.tmp 2]⟩
theorem impl_PlainOk_l6_ok' (s : ByteArray) : ∀ (at1 : Int), Ok (impl_PlainOk_l6 s at1) e_impl_PlainOk (ev FTA c_impl_PlainOk (.loop k_impl_PlainOk_l6) [.lv 0, .th k_impl_PlainOk_r2] (putS (List.replicate 38 .dead) [(0, .t (.v (.string s))), (3, .t (.v (.int .i64 at1)))]) (putR (List.replicate 38 []) [])) := by
  unfold Ok
  refine impl_PlainOk_l6.partial_correctness s _ ?_
  intro F ih at1
  show Ok _ _ _
  have ih : ∀ (at1 : Int), Ok (F at1) _ _ := ih
  rw [ev_loop]
  have g0 := impl_SignAt_ok; try simp only [SSA, RS, Nat.reduceAdd, Nat.reduceSub, Nat.reduceMul, Nat.reduceLeDiff, Nat.reduceLT, Nat.reduceEqDiff, Nat.reduceBEq, ↓reduceIte, reduceCtorEq] at g0
  have g1 := impl_IsStart_ok; try simp only [SSA, RS, Nat.reduceAdd, Nat.reduceSub, Nat.reduceMul, Nat.reduceLeDiff, Nat.reduceLT, Nat.reduceEqDiff, Nat.reduceBEq, ↓reduceIte, reduceCtorEq] at g1
  have g2 := impl_IsPart_ok; try simp only [SSA, RS, Nat.reduceAdd, Nat.reduceSub, Nat.reduceMul, Nat.reduceLeDiff, Nat.reduceLT, Nat.reduceEqDiff, Nat.reduceBEq, ↓reduceIte, reduceCtorEq] at g2
  have g3 := impl_in_ok; try simp only [SSA, RS, Nat.reduceAdd, Nat.reduceSub, Nat.reduceMul, Nat.reduceLeDiff, Nat.reduceLT, Nat.reduceEqDiff, Nat.reduceBEq, ↓reduceIte, reduceCtorEq] at g3
  simp only [SSA, RS, c_impl_PlainOk, k_impl_PlainOk_l6, k_impl_PlainOk_r2, e_impl_IsPart, e_impl_IsStart, e_impl_SignAt, e_impl_in, Nat.reduceAdd, Nat.reduceSub, Nat.reduceMul, Nat.reduceLeDiff, Nat.reduceLT, Nat.reduceEqDiff, Nat.reduceBEq, ↓reduceIte, reduceCtorEq]
  repeat' first
    | with_reducible exact Ok_none
    | ((with_reducible refine Ok_ret ?_); first | rfl | (simp only [SSA, RS, e_impl_PlainOk, Nat.reduceAdd, Nat.reduceSub, Nat.reduceMul, Nat.reduceLeDiff, Nat.reduceLT, Nat.reduceEqDiff, Nat.reduceBEq, ↓reduceIte, reduceCtorEq]; done))
    | ((with_reducible refine Ok_tail (ih _) ?_); first | rfl | (simp only [SSA, RS, c_impl_PlainOk, Nat.reduceAdd, Nat.reduceSub, Nat.reduceMul, Nat.reduceLeDiff, Nat.reduceLT, Nat.reduceEqDiff, Nat.reduceBEq, ↓reduceIte, reduceCtorEq]; done) | (simp only [SSA, RS, c_impl_PlainOk, Nat.reduceAdd, Nat.reduceSub, Nat.reduceMul, Nat.reduceLeDiff, Nat.reduceLT, Nat.reduceEqDiff, Nat.reduceBEq, ↓reduceIte, reduceCtorEq]; rfl))
    | ((first | with_reducible refine Ok_if (fun h => ?_) (fun h => ?_) | with_reducible refine Ok_call (g0 _ _) fun v => ?_ | with_reducible refine Ok_call (g1 _) fun v => ?_ | with_reducible refine Ok_call (g2 _) fun v => ?_ | with_reducible refine Ok_call (g3 _ _ _) fun v => ?_ | refine Ok_call (g0 _ _) fun v => ?_ | refine Ok_call (g1 _) fun v => ?_ | refine Ok_call (g2 _) fun v => ?_ | refine Ok_call (g3 _ _ _) fun v => ?_) <;> simp only [SSA, RS, *, k_impl_PlainOk_r2, e_impl_IsPart, e_impl_IsStart, e_impl_SignAt, e_impl_in, Nat.reduceAdd, Nat.reduceSub, Nat.reduceMul, Nat.reduceLeDiff, Nat.reduceLT, Nat.reduceEqDiff, Nat.reduceBEq, ↓reduceIte, reduceCtorEq])
theorem impl_PlainOk_l6_ok (s : ByteArray) (at1 : Int) : Ok (impl_PlainOk_l6 s at1) e_impl_PlainOk (ev FTA c_impl_PlainOk (.loop k_impl_PlainOk_l6) [.lv 0, .th k_impl_PlainOk_r2] (putS (List.replicate 38 .dead) [(0, .t (.v (.string s))), (3, .t (.v (.int .i64 at1)))]) (putR (List.replicate 38 []) [])) := impl_PlainOk_l6_ok' s at1

theorem impl_PlainOk_ok : ∀ (s : ByteArray), Ok (impl_PlainOk s) e_impl_PlainOk (dn FTA n_impl_PlainOk [.t (.v (.string s))]) := by
  intro s
  rw [den_ev FTA (fn := k_impl_PlainOk) rfl (xOf_none rfl rfl _) (Nat.le_of_ble_eq_true rfl)]
  simp only [SSA, RS, c_impl_PlainOk, k_impl_PlainOk, impl_PlainOk, Nat.reduceAdd, Nat.reduceSub, Nat.reduceMul, Nat.reduceLeDiff, Nat.reduceLT, Nat.reduceEqDiff, Nat.reduceBEq, ↓reduceIte, reduceCtorEq]
  repeat' first
    | with_reducible exact Ok_none
    | ((with_reducible refine Ok_ret ?_); first | rfl | (simp only [SSA, RS, e_impl_PlainOk, Nat.reduceAdd, Nat.reduceSub, Nat.reduceMul, Nat.reduceLeDiff, Nat.reduceLT, Nat.reduceEqDiff, Nat.reduceBEq, ↓reduceIte, reduceCtorEq]; done))
    | ((with_reducible refine Ok_tail (impl_PlainOk_l6_ok _ _) ?_); first | rfl | (simp only [SSA, RS, c_impl_PlainOk, Nat.reduceAdd, Nat.reduceSub, Nat.reduceMul, Nat.reduceLeDiff, Nat.reduceLT, Nat.reduceEqDiff, Nat.reduceBEq, ↓reduceIte, reduceCtorEq]; done) | (simp only [SSA, RS, c_impl_PlainOk, Nat.reduceAdd, Nat.reduceSub, Nat.reduceMul, Nat.reduceLeDiff, Nat.reduceLT, Nat.reduceEqDiff, Nat.reduceBEq, ↓reduceIte, reduceCtorEq]; rfl))

def e_impl_nameOk (r : Bool) : Res := ⟨[.t (.v (.bool r))], []⟩
def c_impl_nameOk : Cx := ⟨2, [0, 0], [.tmp 4]⟩
theorem impl_nameOk_ok : ∀ (pre : ByteArray) (local1 : ByteArray), Ok (impl_nameOk pre local1) e_impl_nameOk (dn FTA n_impl_nameOk [.t (.v (.string pre)), .t (.v (.string local1))]) := by
  intro pre local1
  rw [den_ev FTA (fn := k_impl_nameOk) rfl (xOf_none rfl rfl _) (Nat.le_of_ble_eq_true rfl)]
  have g0 := impl_PlainOk_ok; try simp only [SSA, RS, Nat.reduceAdd, Nat.reduceSub, Nat.reduceMul, Nat.reduceLeDiff, Nat.reduceLT, Nat.reduceEqDiff, Nat.reduceBEq, ↓reduceIte, reduceCtorEq] at g0
  simp only [SSA, RS, c_impl_nameOk, k_impl_nameOk, impl_nameOk, e_impl_PlainOk, Nat.reduceAdd, Nat.reduceSub, Nat.reduceMul, Nat.reduceLeDiff, Nat.reduceLT, Nat.reduceEqDiff, Nat.reduceBEq, ↓reduceIte, reduceCtorEq]
  repeat' first
    | with_reducible exact Ok_none
    | ((with_reducible refine Ok_ret ?_); first | rfl | (simp only [SSA, RS, e_impl_nameOk, Nat.reduceAdd, Nat.reduceSub, Nat.reduceMul, Nat.reduceLeDiff, Nat.reduceLT, Nat.reduceEqDiff, Nat.reduceBEq, ↓reduceIte, reduceCtorEq]; done))
    | ((first | with_reducible refine Ok_if (fun h => ?_) (fun h => ?_) | with_reducible refine Ok_call (g0 _) fun v => ?_ | refine Ok_call (g0 _) fun v => ?_) <;> simp only [SSA, RS, *, e_impl_PlainOk, Nat.reduceAdd, Nat.reduceSub, Nat.reduceMul, Nat.reduceLeDiff, Nat.reduceLT, Nat.reduceEqDiff, Nat.reduceBEq, ↓reduceIte, reduceCtorEq])

def e_impl_IsSign (r : Bool) : Res := ⟨[.t (.v (.bool r))], []⟩
def c_impl_IsSign : Cx := ⟨1, [0], [.tmp 2]⟩
theorem impl_IsSign_ok : ∀ (n : Int), Ok (impl_IsSign n) e_impl_IsSign (dn FTA n_impl_IsSign [.t (.v (.int .i64 n))]) := by
  intro n
  rw [den_ev FTA (fn := k_impl_IsSign) rfl (xOf_none rfl rfl _) (Nat.le_of_ble_eq_true rfl)]
  have g0 := impl_inAny_ok; try simp only [SSA, RS, Nat.reduceAdd, Nat.reduceSub, Nat.reduceMul, Nat.reduceLeDiff, Nat.reduceLT, Nat.reduceEqDiff, Nat.reduceBEq, ↓reduceIte, reduceCtorEq] at g0
  simp only [SSA, RS, c_impl_IsSign, k_impl_IsSign, impl_IsSign, e_impl_inAny, Nat.reduceAdd, Nat.reduceSub, Nat.reduceMul, Nat.reduceLeDiff, Nat.reduceLT, Nat.reduceEqDiff, Nat.reduceBEq, ↓reduceIte, reduceCtorEq]
  repeat' first
    | with_reducible exact Ok_none
    | ((with_reducible refine Ok_ret ?_); first | rfl | (simp only [SSA, RS, e_impl_IsSign, Nat.reduceAdd, Nat.reduceSub, Nat.reduceMul, Nat.reduceLeDiff, Nat.reduceLT, Nat.reduceEqDiff, Nat.reduceBEq, ↓reduceIte, reduceCtorEq]; done))
    | ((first | with_reducible refine Ok_call (g0 _ _) fun v => ?_ | refine Ok_call (g0 _ _) fun v => ?_) <;> simp only [SSA, RS, *, e_impl_inAny, Nat.reduceAdd, Nat.reduceSub, Nat.reduceMul, Nat.reduceLeDiff, Nat.reduceLT, Nat.reduceEqDiff, Nat.reduceBEq, ↓reduceIte, reduceCtorEq])

def e_impl_signsOk (r : Bool) : Res := ⟨[.t (.v (.bool r))], []⟩
def c_impl_signsOk : Cx := ⟨1, [0], [.tmp 2]⟩
theorem impl_signsOk_l6_ok' (s : ByteArray) : ∀ (at1 : Int), Ok (impl_signsOk_l6 s at1) e_impl_signsOk (ev FTA c_impl_signsOk (.loop k_impl_signsOk_l6) [.lv 0, .th k_impl_signsOk_r2] (putS (List.replicate 26 .dead) [(0, .t (.v (.string s))), (3, .t (.v (.int .i64 at1)))]) (putR (List.replicate 26 []) [])) := by
  unfold Ok
  refine impl_signsOk_l6.partial_correctness s _ ?_
  intro F ih at1
  show Ok _ _ _
  have ih : ∀ (at1 : Int), Ok (F at1) _ _ := ih
  rw [ev_loop]
  have g0 := impl_SignAt_ok; try simp only [SSA, RS, Nat.reduceAdd, Nat.reduceSub, Nat.reduceMul, Nat.reduceLeDiff, Nat.reduceLT, Nat.reduceEqDiff, Nat.reduceBEq, ↓reduceIte, reduceCtorEq] at g0
  have g1 := impl_IsSign_ok; try simp only [SSA, RS, Nat.reduceAdd, Nat.reduceSub, Nat.reduceMul, Nat.reduceLeDiff, Nat.reduceLT, Nat.reduceEqDiff, Nat.reduceBEq, ↓reduceIte, reduceCtorEq] at g1
  simp only [SSA, RS, c_impl_signsOk, k_impl_signsOk_l6, k_impl_signsOk_r2, e_impl_IsSign, e_impl_SignAt, Nat.reduceAdd, Nat.reduceSub, Nat.reduceMul, Nat.reduceLeDiff, Nat.reduceLT, Nat.reduceEqDiff, Nat.reduceBEq, ↓reduceIte, reduceCtorEq]
  repeat' first
    | with_reducible exact Ok_none
    | ((with_reducible refine Ok_ret ?_); first | rfl | (simp only [SSA, RS, e_impl_signsOk, Nat.reduceAdd, Nat.reduceSub, Nat.reduceMul, Nat.reduceLeDiff, Nat.reduceLT, Nat.reduceEqDiff, Nat.reduceBEq, ↓reduceIte, reduceCtorEq]; done))
    | ((with_reducible refine Ok_tail (ih _) ?_); first | rfl | (simp only [SSA, RS, c_impl_signsOk, Nat.reduceAdd, Nat.reduceSub, Nat.reduceMul, Nat.reduceLeDiff, Nat.reduceLT, Nat.reduceEqDiff, Nat.reduceBEq, ↓reduceIte, reduceCtorEq]; done) | (simp only [SSA, RS, c_impl_signsOk, Nat.reduceAdd, Nat.reduceSub, Nat.reduceMul, Nat.reduceLeDiff, Nat.reduceLT, Nat.reduceEqDiff, Nat.reduceBEq, ↓reduceIte, reduceCtorEq]; rfl))
    | ((first | with_reducible refine Ok_if (fun h => ?_) (fun h => ?_) | with_reducible refine Ok_call (g0 _ _) fun v => ?_ | with_reducible refine Ok_call (g1 _) fun v => ?_ | refine Ok_call (g0 _ _) fun v => ?_ | refine Ok_call (g1 _) fun v => ?_) <;> simp only [SSA, RS, *, k_impl_signsOk_r2, e_impl_IsSign, e_impl_SignAt, Nat.reduceAdd, Nat.reduceSub, Nat.reduceMul, Nat.reduceLeDiff, Nat.reduceLT, Nat.reduceEqDiff, Nat.reduceBEq, ↓reduceIte, reduceCtorEq])
theorem impl_signsOk_l6_ok (s : ByteArray) (at1 : Int) : Ok (impl_signsOk_l6 s at1) e_impl_signsOk (ev FTA c_impl_signsOk (.loop k_impl_signsOk_l6) [.lv 0, .th k_impl_signsOk_r2] (putS (List.replicate 26 .dead) [(0, .t (.v (.string s))), (3, .t (.v (.int .i64 at1)))]) (putR (List.replicate 26 []) [])) := impl_signsOk_l6_ok' s at1

theorem impl_signsOk_ok : ∀ (s : ByteArray), Ok (impl_signsOk s) e_impl_signsOk (dn FTA n_impl_signsOk [.t (.v (.string s))]) := by
  intro s
  rw [den_ev FTA (fn := k_impl_signsOk) rfl (xOf_none rfl rfl _) (Nat.le_of_ble_eq_true rfl)]
  simp only [SSA, RS, c_impl_signsOk, k_impl_signsOk, impl_signsOk, Nat.reduceAdd, Nat.reduceSub, Nat.reduceMul, Nat.reduceLeDiff, Nat.reduceLT, Nat.reduceEqDiff, Nat.reduceBEq, ↓reduceIte, reduceCtorEq]
  repeat' first
    | with_reducible exact Ok_none
    | ((with_reducible refine Ok_ret ?_); first | rfl | (simp only [SSA, RS, e_impl_signsOk, Nat.reduceAdd, Nat.reduceSub, Nat.reduceMul, Nat.reduceLeDiff, Nat.reduceLT, Nat.reduceEqDiff, Nat.reduceBEq, ↓reduceIte, reduceCtorEq]; done))
    | ((with_reducible refine Ok_tail (impl_signsOk_l6_ok _ _) ?_); first | rfl | (simp only [SSA, RS, c_impl_signsOk, Nat.reduceAdd, Nat.reduceSub, Nat.reduceMul, Nat.reduceLeDiff, Nat.reduceLT, Nat.reduceEqDiff, Nat.reduceBEq, ↓reduceIte, reduceCtorEq]; done) | (simp only [SSA, RS, c_impl_signsOk, Nat.reduceAdd, Nat.reduceSub, Nat.reduceMul, Nat.reduceLeDiff, Nat.reduceLT, Nat.reduceEqDiff, Nat.reduceBEq, ↓reduceIte, reduceCtorEq]; rfl))

def e_impl_TextOk (r : Bool) : Res := ⟨[.t (.v (.bool r))], []⟩
def c_impl_TextOk : Cx := ⟨1, [0], [.tmp 2]⟩
theorem impl_TextOk_ok : ∀ (s : ByteArray), Ok (impl_TextOk s) e_impl_TextOk (dn FTA n_impl_TextOk [.t (.v (.string s))]) := by
  intro s
  rw [den_ev FTA (fn := k_impl_TextOk) rfl (xOf_none rfl rfl _) (Nat.le_of_ble_eq_true rfl)]
  have g0 := impl_signsOk_ok; try simp only [SSA, RS, Nat.reduceAdd, Nat.reduceSub, Nat.reduceMul, Nat.reduceLeDiff, Nat.reduceLT, Nat.reduceEqDiff, Nat.reduceBEq, ↓reduceIte, reduceCtorEq] at g0
  simp only [SSA, RS, c_impl_TextOk, k_impl_TextOk, impl_TextOk, e_impl_signsOk, Nat.reduceAdd, Nat.reduceSub, Nat.reduceMul, Nat.reduceLeDiff, Nat.reduceLT, Nat.reduceEqDiff, Nat.reduceBEq, ↓reduceIte, reduceCtorEq]
  repeat' first
    | with_reducible exact Ok_none
    | ((with_reducible refine Ok_ret ?_); first | rfl | (simp only [SSA, RS, e_impl_TextOk, Nat.reduceAdd, Nat.reduceSub, Nat.reduceMul, Nat.reduceLeDiff, Nat.reduceLT, Nat.reduceEqDiff, Nat.reduceBEq, ↓reduceIte, reduceCtorEq]; done))
    | ((first | with_reducible refine Ok_if (fun h => ?_) (fun h => ?_) | with_reducible refine Ok_call (g0 _) fun v => ?_ | refine Ok_call (g0 _) fun v => ?_) <;> simp only [SSA, RS, *, e_impl_signsOk, Nat.reduceAdd, Nat.reduceSub, Nat.reduceMul, Nat.reduceLeDiff, Nat.reduceLT, Nat.reduceEqDiff, Nat.reduceBEq, ↓reduceIte, reduceCtorEq])

def e_strings_Contains (r : Bool) : Res := ⟨[.t (.v (.bool r))], []⟩
def c_strings_Contains : Cx := ⟨2, [0, 0], [.tmp 4]⟩
theorem strings_Contains_ok : ∀ (s : ByteArray) (t : ByteArray), Ok (strings_Contains s t) e_strings_Contains (dn FTA n_strings_Contains [.t (.v (.string s)), .t (.v (.string t))]) := by
  intro s t r hr
  exact den_ext FTA.ft (xOf FTA) (x_contains1_ok s t (e := e_strings_Contains) (fun _ => rfl) hr)

def e_impl_valOk (r : Bool) : Res := ⟨[.t (.v (.bool r))], []⟩
def c_impl_valOk : Cx := ⟨1, [0], [.tmp 2]⟩
theorem impl_valOk_ok : ∀ (s : ByteArray), Ok (impl_valOk s) e_impl_valOk (dn FTA n_impl_valOk [.t (.v (.string s))]) := by
  intro s
  rw [den_ev FTA (fn := k_impl_valOk) rfl (xOf_none rfl rfl _) (Nat.le_of_ble_eq_true rfl)]
  have g0 := impl_TextOk_ok; try simp only [SSA, RS, Nat.reduceAdd, Nat.reduceSub, Nat.reduceMul, Nat.reduceLeDiff, Nat.reduceLT, Nat.reduceEqDiff, Nat.reduceBEq, ↓reduceIte, reduceCtorEq] at g0
  have g1 := strings_Contains_ok; try simp only [SSA, RS, Nat.reduceAdd, Nat.reduceSub, Nat.reduceMul, Nat.reduceLeDiff, Nat.reduceLT, Nat.reduceEqDiff, Nat.reduceBEq, ↓reduceIte, reduceCtorEq] at g1
  simp only [SSA, RS, c_impl_valOk, k_impl_valOk, impl_valOk, e_impl_TextOk, e_strings_Contains, Nat.reduceAdd, Nat.reduceSub, Nat.reduceMul, Nat.reduceLeDiff, Nat.reduceLT, Nat.reduceEqDiff, Nat.reduceBEq, ↓reduceIte, reduceCtorEq]
  repeat' first
    | with_reducible exact Ok_none
    | ((with_reducible refine Ok_ret ?_); first | rfl | (simp only [SSA, RS, e_impl_valOk, Nat.reduceAdd, Nat.reduceSub, Nat.reduceMul, Nat.reduceLeDiff, Nat.reduceLT, Nat.reduceEqDiff, Nat.reduceBEq, ↓reduceIte, reduceCtorEq]; done))
    | ((first | with_reducible refine Ok_if (fun h => ?_) (fun h => ?_) | with_reducible refine Ok_call (g0 _) fun v => ?_ | with_reducible refine Ok_call (g1 _ _) fun v => ?_ | refine Ok_call (g0 _) fun v => ?_ | refine Ok_call (g1 _ _) fun v => ?_) <;> simp only [SSA, RS, *, e_impl_TextOk, e_strings_Contains, Nat.reduceAdd, Nat.reduceSub, Nat.reduceMul, Nat.reduceLeDiff, Nat.reduceLT, Nat.reduceEqDiff, Nat.reduceBEq, ↓reduceIte, reduceCtorEq])

def e_impl_predOk (r : Bool) : Res := ⟨[.t (.v (.bool r))], []⟩
def c_impl_predOk : Cx := ⟨2, [0, 0], [.tmp 4]⟩
theorem impl_predOk_j16_ok : ∀ (named : Bool) (element : Bool) (p : GPred) (x : Bool), Ok (impl_predOk_j16 named element p x) e_impl_predOk (ev FTA c_impl_predOk k_impl_predOk_r16 [.lv 0, .th k_impl_predOk_r6] (putS (List.replicate 75 .dead) [(2, .ptr (2, 0) [] 0 0 1 0), (5, .t (.v (.bool named))), (6, .t (.v (.bool element))), (22, .t (.v (.int .i64 p.Kind))), (37, .t (.v (.bool x)))]) (putR (List.replicate 75 []) [(2, [.mem [[.v (.int .i64 p.Kind), .v (.int .i64 p.N), .v (.string p.Pre), .v (.string p.Local), .v (.string p.Val)]] 0 false])])) := by
  intro named element p x
  have g0 := impl_nameOk_ok; try simp only [SSA, RS, Nat.reduceAdd, Nat.reduceSub, Nat.reduceMul, Nat.reduceLeDiff, Nat.reduceLT, Nat.reduceEqDiff, Nat.reduceBEq, ↓reduceIte, reduceCtorEq] at g0
  have g1 := impl_valOk_ok; try simp only [SSA, RS, Nat.reduceAdd, Nat.reduceSub, Nat.reduceMul, Nat.reduceLeDiff, Nat.reduceLT, Nat.reduceEqDiff, Nat.reduceBEq, ↓reduceIte, reduceCtorEq] at g1
  simp only [SSA, RS, c_impl_predOk, k_impl_predOk_r16, k_impl_predOk_r6, impl_predOk_j16, e_impl_nameOk, e_impl_valOk, Nat.reduceAdd, Nat.reduceSub, Nat.reduceMul, Nat.reduceLeDiff, Nat.reduceLT, Nat.reduceEqDiff, Nat.reduceBEq, ↓reduceIte, reduceCtorEq]
  repeat' first
    | with_reducible exact Ok_none
    | ((with_reducible refine Ok_ret ?_); first | rfl | (simp only [SSA, RS, e_impl_predOk, Nat.reduceAdd, Nat.reduceSub, Nat.reduceMul, Nat.reduceLeDiff, Nat.reduceLT, Nat.reduceEqDiff, Nat.reduceBEq, ↓reduceIte, reduceCtorEq]; done))
    | ((first | with_reducible refine Ok_if (fun h => ?_) (fun h => ?_) | with_reducible refine Ok_call (g0 _ _) fun v => ?_ | with_reducible refine Ok_call (g1 _) fun v => ?_ | refine Ok_call (g0 _ _) fun v => ?_ | refine Ok_call (g1 _) fun v => ?_) <;> simp only [SSA, RS, *, k_impl_predOk_r6, e_impl_nameOk, e_impl_valOk, Nat.reduceAdd, Nat.reduceSub, Nat.reduceMul, Nat.reduceLeDiff, Nat.reduceLT, Nat.reduceEqDiff, Nat.reduceBEq, ↓reduceIte, reduceCtorEq])

theorem impl_predOk_j4_ok : ∀ (named : Bool) (element : Bool) (p : GPred), Ok (impl_predOk_j4 named element p) e_impl_predOk (ev FTA c_impl_predOk k_impl_predOk_r4 [] (putS (List.replicate 75 .dead) [(2, .ptr (2, 0) [] 0 0 1 0), (5, .t (.v (.bool named))), (6, .t (.v (.bool element)))]) (putR (List.replicate 75 []) [(2, [.mem [[.v (.int .i64 p.Kind), .v (.int .i64 p.N), .v (.string p.Pre), .v (.string p.Local), .v (.string p.Val)]] 0 false])])) := by
  intro named element p
  have g0 := impl_in_ok; try simp only [SSA, RS, Nat.reduceAdd, Nat.reduceSub, Nat.reduceMul, Nat.reduceLeDiff, Nat.reduceLT, Nat.reduceEqDiff, Nat.reduceBEq, ↓reduceIte, reduceCtorEq] at g0
  simp only [SSA, RS, c_impl_predOk, k_impl_predOk_r4, impl_predOk_j4, e_impl_in, Nat.reduceAdd, Nat.reduceSub, Nat.reduceMul, Nat.reduceLeDiff, Nat.reduceLT, Nat.reduceEqDiff, Nat.reduceBEq, ↓reduceIte, reduceCtorEq]
  repeat' first
    | with_reducible exact Ok_none
    | ((with_reducible refine Ok_ret ?_); first | rfl | (simp only [SSA, RS, e_impl_predOk, Nat.reduceAdd, Nat.reduceSub, Nat.reduceMul, Nat.reduceLeDiff, Nat.reduceLT, Nat.reduceEqDiff, Nat.reduceBEq, ↓reduceIte, reduceCtorEq]; done))
    | ((with_reducible refine Ok_tail (impl_predOk_j16_ok _ _ _ _) ?_); first | rfl | (simp only [SSA, RS, c_impl_predOk, Nat.reduceAdd, Nat.reduceSub, Nat.reduceMul, Nat.reduceLeDiff, Nat.reduceLT, Nat.reduceEqDiff, Nat.reduceBEq, ↓reduceIte, reduceCtorEq]; done) | (simp only [SSA, RS, c_impl_predOk, Nat.reduceAdd, Nat.reduceSub, Nat.reduceMul, Nat.reduceLeDiff, Nat.reduceLT, Nat.reduceEqDiff, Nat.reduceBEq, ↓reduceIte, reduceCtorEq]; rfl))
    | ((first | with_reducible refine Ok_if (fun h => ?_) (fun h => ?_) | with_reducible refine Ok_call (g0 _ _ _) fun v => ?_ | refine Ok_call (g0 _ _ _) fun v => ?_) <;> simp only [SSA, RS, *, e_impl_in, Nat.reduceAdd, Nat.reduceSub, Nat.reduceMul, Nat.reduceLeDiff, Nat.reduceLT, Nat.reduceEqDiff, Nat.reduceBEq, ↓reduceIte, reduceCtorEq])

theorem impl_predOk_j2_ok : ∀ (kind : Int) (named : Bool) (p : GPred), Ok (impl_predOk_j2 kind named p) e_impl_predOk (ev FTA c_impl_predOk k_impl_predOk_r2 [] (putS (List.replicate 75 .dead) [(1, .t (.v (.int .i64 kind))), (2, .ptr (2, 0) [] 0 0 1 0), (5, .t (.v (.bool named)))]) (putR (List.replicate 75 []) [(2, [.mem [[.v (.int .i64 p.Kind), .v (.int .i64 p.N), .v (.string p.Pre), .v (.string p.Local), .v (.string p.Val)]] 0 false])])) := by
  intro kind named p
  simp only [SSA, RS, c_impl_predOk, k_impl_predOk_r2, impl_predOk_j2, Nat.reduceAdd, Nat.reduceSub, Nat.reduceMul, Nat.reduceLeDiff, Nat.reduceLT, Nat.reduceEqDiff, Nat.reduceBEq, ↓reduceIte, reduceCtorEq]
  repeat' first
    | with_reducible exact Ok_none
    | ((with_reducible refine Ok_ret ?_); first | rfl | (simp only [SSA, RS, e_impl_predOk, Nat.reduceAdd, Nat.reduceSub, Nat.reduceMul, Nat.reduceLeDiff, Nat.reduceLT, Nat.reduceEqDiff, Nat.reduceBEq, ↓reduceIte, reduceCtorEq]; done))
    | ((with_reducible refine Ok_tail (impl_predOk_j4_ok _ _ _) ?_); first | rfl | (simp only [SSA, RS, c_impl_predOk, Nat.reduceAdd, Nat.reduceSub, Nat.reduceMul, Nat.reduceLeDiff, Nat.reduceLT, Nat.reduceEqDiff, Nat.reduceBEq, ↓reduceIte, reduceCtorEq]; done) | (simp only [SSA, RS, c_impl_predOk, Nat.reduceAdd, Nat.reduceSub, Nat.reduceMul, Nat.reduceLeDiff, Nat.reduceLT, Nat.reduceEqDiff, Nat.reduceBEq, ↓reduceIte, reduceCtorEq]; rfl))
    | ((first | with_reducible refine Ok_if (fun h => ?_) (fun h => ?_)) <;> simp only [SSA, RS, *, Nat.reduceAdd, Nat.reduceSub, Nat.reduceMul, Nat.reduceLeDiff, Nat.reduceLT, Nat.reduceEqDiff, Nat.reduceBEq, ↓reduceIte, reduceCtorEq])

theorem impl_predOk_ok : ∀ (p : GPred) (kind : Int), Ok (impl_predOk p kind) e_impl_predOk (dn FTA n_impl_predOk [.agg ((GPred.row p).map .t), .t (.v (.int .i64 kind))]) := by
  intro p kind
  rw [den_ev FTA (fn := k_impl_predOk) rfl (xOf_none rfl rfl _) (Nat.le_of_ble_eq_true rfl)]
  simp only [SSA, RS, c_impl_predOk, k_impl_predOk, impl_predOk, Nat.reduceAdd, Nat.reduceSub, Nat.reduceMul, Nat.reduceLeDiff, Nat.reduceLT, Nat.reduceEqDiff, Nat.reduceBEq, ↓reduceIte, reduceCtorEq]
  repeat' first
    | with_reducible exact Ok_none
    | ((with_reducible refine Ok_ret ?_); first | rfl | (simp only [SSA, RS, e_impl_predOk, Nat.reduceAdd, Nat.reduceSub, Nat.reduceMul, Nat.reduceLeDiff, Nat.reduceLT, Nat.reduceEqDiff, Nat.reduceBEq, ↓reduceIte, reduceCtorEq]; done))
    | ((with_reducible refine Ok_tail (impl_predOk_j2_ok _ _ _) ?_); first | rfl | (simp only [SSA, RS, c_impl_predOk, Nat.reduceAdd, Nat.reduceSub, Nat.reduceMul, Nat.reduceLeDiff, Nat.reduceLT, Nat.reduceEqDiff, Nat.reduceBEq, ↓reduceIte, reduceCtorEq]; done) | (simp only [SSA, RS, c_impl_predOk, Nat.reduceAdd, Nat.reduceSub, Nat.reduceMul, Nat.reduceLeDiff, Nat.reduceLT, Nat.reduceEqDiff, Nat.reduceBEq, ↓reduceIte, reduceCtorEq]; rfl))
    | ((first | with_reducible refine Ok_if (fun h => ?_) (fun h => ?_)) <;> simp only [SSA, RS, *, Nat.reduceAdd, Nat.reduceSub, Nat.reduceMul, Nat.reduceLeDiff, Nat.reduceLT, Nat.reduceEqDiff, Nat.reduceBEq, ↓reduceIte, reduceCtorEq])

def e_impl_stepOk_1 (r : Bool × GStp) : Res := ⟨[.t (.v (.bool r.1))], [some [[.v (.bool r.2.Deep), .v (.int .i64 r.2.Kind), .v (.string r.2.Pre), .v (.string r.2.Local), .sl false (r.2.Preds.map GPred.row)]]]⟩
def c_impl_stepOk_1 : Cx := ⟨2, [0, 1], [.tmp 3]⟩
theorem impl_stepOk_1_ok : ∀ (p : GPred) (a1 : GStp), Ok (impl_stepOk_1 p a1) e_impl_stepOk_1 (dn FTA n_impl_stepOk_1 [.agg ((GPred.row p).map .t), .lp [.v (.bool a1.Deep), .v (.int .i64 a1.Kind), .v (.string a1.Pre), .v (.string a1.Local), .sl false (a1.Preds.map GPred.row)] 0]) := by
  intro p a1
  rw [den_ev FTA (fn := k_impl_stepOk_1) rfl (xOf_none rfl rfl _) (Nat.le_of_ble_eq_true rfl)]
  have g0 := impl_predOk_ok; try simp only [SSA, RS, Nat.reduceAdd, Nat.reduceSub, Nat.reduceMul, Nat.reduceLeDiff, Nat.reduceLT, Nat.reduceEqDiff, Nat.reduceBEq, ↓reduceIte, reduceCtorEq] at g0
  simp only [SSA, RS, c_impl_stepOk_1, k_impl_stepOk_1, impl_stepOk_1, e_impl_predOk, Nat.reduceAdd, Nat.reduceSub, Nat.reduceMul, Nat.reduceLeDiff, Nat.reduceLT, Nat.reduceEqDiff, Nat.reduceBEq, ↓reduceIte, reduceCtorEq]
  repeat' first
    | with_reducible exact Ok_none
    | ((with_reducible refine Ok_ret ?_); first | rfl | (simp only [SSA, RS, e_impl_stepOk_1, Nat.reduceAdd, Nat.reduceSub, Nat.reduceMul, Nat.reduceLeDiff, Nat.reduceLT, Nat.reduceEqDiff, Nat.reduceBEq, ↓reduceIte, reduceCtorEq]; done))
    | ((first | with_reducible refine Ok_call (g0 _ _) fun v => ?_ | refine Ok_call (g0 _ _) fun v => ?_) <;> simp only [SSA, RS, *, e_impl_predOk, Nat.reduceAdd, Nat.reduceSub, Nat.reduceMul, Nat.reduceLeDiff, Nat.reduceLT, Nat.reduceEqDiff, Nat.reduceBEq, ↓reduceIte, reduceCtorEq])

def e_slices_IndexFunc_Pred_stepOk_1 (r : Int × GStp) : Res := ⟨[.t (.v (.int .i64 r.1))], [some [[.v (.bool r.2.Deep), .v (.int .i64 r.2.Kind), .v (.string r.2.Pre), .v (.string r.2.Local), .sl false (r.2.Preds.map GPred.row)]]]⟩
def c_slices_IndexFunc_Pred_stepOk_1 : Cx := ⟨2, [0, 1], [.tmp 4]⟩
theorem slices_IndexFunc_Pred_stepOk_1_l6_ok' (s : List GPred) : ∀ (x1 : Int) (f : GStp), Ok (slices_IndexFunc_Pred_stepOk_1_l6 s x1 f) e_slices_IndexFunc_Pred_stepOk_1 (ev FTA c_slices_IndexFunc_Pred_stepOk_1 (.loop k_slices_IndexFunc_Pred_l6) [.lv 0, .th k_slices_IndexFunc_Pred_r2] (putS (List.replicate 19 .dead) [(0, .t (.sl false (s.map GPred.row))), (1, .fn n_impl_stepOk_1 [.ptr (1, 0) [] 0 0 1 0]), (7, .t (.v (.int .i64 (lenL s)))), (8, .t (.v (.int .i64 x1)))]) (putR (List.replicate 19 []) [(1, [.mem [[.v (.bool f.Deep), .v (.int .i64 f.Kind), .v (.string f.Pre), .v (.string f.Local), .sl false (f.Preds.map GPred.row)]] 0 true])])) := by
  unfold Ok
  refine slices_IndexFunc_Pred_stepOk_1_l6.partial_correctness s _ ?_
  intro F ih x1 f
  show Ok _ _ _
  have ih : ∀ (x1 : Int) (f : GStp), Ok (F x1 f) _ _ := ih
  rw [ev_loop]
  have g0 := impl_stepOk_1_ok; try simp only [SSA, RS, Nat.reduceAdd, Nat.reduceSub, Nat.reduceMul, Nat.reduceLeDiff, Nat.reduceLT, Nat.reduceEqDiff, Nat.reduceBEq, ↓reduceIte, reduceCtorEq] at g0
  simp only [SSA, RS, c_slices_IndexFunc_Pred_stepOk_1, k_slices_IndexFunc_Pred_l6, k_slices_IndexFunc_Pred_r2, e_impl_stepOk_1, Nat.reduceAdd, Nat.reduceSub, Nat.reduceMul, Nat.reduceLeDiff, Nat.reduceLT, Nat.reduceEqDiff, Nat.reduceBEq, ↓reduceIte, reduceCtorEq]
  repeat' first
    | with_reducible exact Ok_none
    | ((with_reducible refine Ok_ret ?_); first | rfl | (simp only [SSA, RS, e_slices_IndexFunc_Pred_stepOk_1, Nat.reduceAdd, Nat.reduceSub, Nat.reduceMul, Nat.reduceLeDiff, Nat.reduceLT, Nat.reduceEqDiff, Nat.reduceBEq, ↓reduceIte, reduceCtorEq]; done))
    | ((with_reducible refine Ok_tail (ih _ _) ?_); first | rfl | (simp only [SSA, RS, c_slices_IndexFunc_Pred_stepOk_1, Nat.reduceAdd, Nat.reduceSub, Nat.reduceMul, Nat.reduceLeDiff, Nat.reduceLT, Nat.reduceEqDiff, Nat.reduceBEq, ↓reduceIte, reduceCtorEq]; done) | (simp only [SSA, RS, c_slices_IndexFunc_Pred_stepOk_1, Nat.reduceAdd, Nat.reduceSub, Nat.reduceMul, Nat.reduceLeDiff, Nat.reduceLT, Nat.reduceEqDiff, Nat.reduceBEq, ↓reduceIte, reduceCtorEq]; rfl))
    | ((first | with_reducible refine Ok_if (fun h => ?_) (fun h => ?_) | with_reducible refine Ok_get fun a h => ?_ | with_reducible refine Ok_call (g0 _ _) fun v => ?_ | refine Ok_call (g0 _ _) fun v => ?_) <;> simp only [SSA, RS, *, k_slices_IndexFunc_Pred_r2, e_impl_stepOk_1, Nat.reduceAdd, Nat.reduceSub, Nat.reduceMul, Nat.reduceLeDiff, Nat.reduceLT, Nat.reduceEqDiff, Nat.reduceBEq, ↓reduceIte, reduceCtorEq])
theorem slices_IndexFunc_Pred_stepOk_1_l6_ok (s : List GPred) (x1 : Int) (f : GStp) : Ok (slices_IndexFunc_Pred_stepOk_1_l6 s x1 f) e_slices_IndexFunc_Pred_stepOk_1 (ev FTA c_slices_IndexFunc_Pred_stepOk_1 (.loop k_slices_IndexFunc_Pred_l6) [.lv 0, .th k_slices_IndexFunc_Pred_r2] (putS (List.replicate 19 .dead) [(0, .t (.sl false (s.map GPred.row))), (1, .fn n_impl_stepOk_1 [.ptr (1, 0) [] 0 0 1 0]), (7, .t (.v (.int .i64 (lenL s)))), (8, .t (.v (.int .i64 x1)))]) (putR (List.replicate 19 []) [(1, [.mem [[.v (.bool f.Deep), .v (.int .i64 f.Kind), .v (.string f.Pre), .v (.string f.Local), .sl false (f.Preds.map GPred.row)]] 0 true])])) := slices_IndexFunc_Pred_stepOk_1_l6_ok' s x1 f

theorem slices_IndexFunc_Pred_stepOk_1_ok : ∀ (s : List GPred) (fc0 : GStp), Ok (slices_IndexFunc_Pred_stepOk_1 s fc0) e_slices_IndexFunc_Pred_stepOk_1 (dn FTA n_slices_IndexFunc_Pred [.t (.sl false (s.map GPred.row)), .fn n_impl_stepOk_1 [.lp [.v (.bool fc0.Deep), .v (.int .i64 fc0.Kind), .v (.string fc0.Pre), .v (.string fc0.Local), .sl false (fc0.Preds.map GPred.row)] 0]]) := by
  intro s fc0
  rw [den_ev FTA (fn := k_slices_IndexFunc_Pred) rfl (xOf_none rfl rfl _) (Nat.le_of_ble_eq_true rfl)]
  simp only [SSA, RS, c_slices_IndexFunc_Pred_stepOk_1, k_slices_IndexFunc_Pred, slices_IndexFunc_Pred_stepOk_1, Nat.reduceAdd, Nat.reduceSub, Nat.reduceMul, Nat.reduceLeDiff, Nat.reduceLT, Nat.reduceEqDiff, Nat.reduceBEq, ↓reduceIte, reduceCtorEq]
  repeat' first
    | with_reducible exact Ok_none
    | ((with_reducible refine Ok_ret ?_); first | rfl | (simp only [SSA, RS, e_slices_IndexFunc_Pred_stepOk_1, Nat.reduceAdd, Nat.reduceSub, Nat.reduceMul, Nat.reduceLeDiff, Nat.reduceLT, Nat.reduceEqDiff, Nat.reduceBEq, ↓reduceIte, reduceCtorEq]; done))
    | ((with_reducible refine Ok_tail (slices_IndexFunc_Pred_stepOk_1_l6_ok _ _ _) ?_); first | rfl | (simp only [SSA, RS, c_slices_IndexFunc_Pred_stepOk_1, Nat.reduceAdd, Nat.reduceSub, Nat.reduceMul, Nat.reduceLeDiff, Nat.reduceLT, Nat.reduceEqDiff, Nat.reduceBEq, ↓reduceIte, reduceCtorEq]; done) | (simp only [SSA, RS, c_slices_IndexFunc_Pred_stepOk_1, Nat.reduceAdd, Nat.reduceSub, Nat.reduceMul, Nat.reduceLeDiff, Nat.reduceLT, Nat.reduceEqDiff, Nat.reduceBEq, ↓reduceIte, reduceCtorEq]; rfl))

def e_slices_ContainsFunc_Pred_stepOk_1 (r : Bool × GStp) : Res := ⟨[.t (.v (.bool r.1))], [some [[.v (.bool r.2.Deep), .v (.int .i64 r.2.Kind), .v (.string r.2.Pre), .v (.string r.2.Local), .sl false (r.2.Preds.map GPred.row)]]]⟩
def c_slices_ContainsFunc_Pred_stepOk_1 : Cx := ⟨2, [0, 1], [.tmp 4]⟩
theorem slices_ContainsFunc_Pred_stepOk_1_ok : ∀ (s : List GPred) (fc0 : GStp), Ok (slices_ContainsFunc_Pred_stepOk_1 s fc0) e_slices_ContainsFunc_Pred_stepOk_1 (dn FTA n_slices_ContainsFunc_Pred [.t (.sl false (s.map GPred.row)), .fn n_impl_stepOk_1 [.lp [.v (.bool fc0.Deep), .v (.int .i64 fc0.Kind), .v (.string fc0.Pre), .v (.string fc0.Local), .sl false (fc0.Preds.map GPred.row)] 0]]) := by
  intro s fc0
  rw [den_ev FTA (fn := k_slices_ContainsFunc_Pred) rfl (xOf_none rfl rfl _) (Nat.le_of_ble_eq_true rfl)]
  have g0 := slices_IndexFunc_Pred_stepOk_1_ok; try simp only [SSA, RS, Nat.reduceAdd, Nat.reduceSub, Nat.reduceMul, Nat.reduceLeDiff, Nat.reduceLT, Nat.reduceEqDiff, Nat.reduceBEq, ↓reduceIte, reduceCtorEq] at g0
  simp only [SSA, RS, c_slices_ContainsFunc_Pred_stepOk_1, k_slices_ContainsFunc_Pred, slices_ContainsFunc_Pred_stepOk_1, e_slices_IndexFunc_Pred_stepOk_1, Nat.reduceAdd, Nat.reduceSub, Nat.reduceMul, Nat.reduceLeDiff, Nat.reduceLT, Nat.reduceEqDiff, Nat.reduceBEq, ↓reduceIte, reduceCtorEq]
  repeat' first
    | with_reducible exact Ok_none
    | ((with_reducible refine Ok_ret ?_); first | rfl | (simp only [SSA, RS, e_slices_ContainsFunc_Pred_stepOk_1, Nat.reduceAdd, Nat.reduceSub, Nat.reduceMul, Nat.reduceLeDiff, Nat.reduceLT, Nat.reduceEqDiff, Nat.reduceBEq, ↓reduceIte, reduceCtorEq]; done))
    | ((first | with_reducible refine Ok_call (g0 _ _) fun v => ?_ | refine Ok_call (g0 _ _) fun v => ?_) <;> simp only [SSA, RS, *, e_slices_IndexFunc_Pred_stepOk_1, Nat.reduceAdd, Nat.reduceSub, Nat.reduceMul, Nat.reduceLeDiff, Nat.reduceLT, Nat.reduceEqDiff, Nat.reduceBEq, ↓reduceIte, reduceCtorEq])

def e_impl_stepOk (r : Bool) : Res := ⟨[.t (.v (.bool r))], []⟩
def c_impl_stepOk : Cx := ⟨2, [0, 0], [.tmp 4]⟩
theorem impl_stepOk_j22_ok : ∀ (end1 : Bool) (r : Bool × GStp) (x : Bool) (sDeep : Bool), Ok (impl_stepOk_j22 end1 r x sDeep) e_impl_stepOk (ev FTA c_impl_stepOk k_impl_stepOk_r22 [.lv 0, .th k_impl_stepOk_r12] (putS (List.replicate 87 .dead) [(2, .ptr (2, 0) [] 0 0 1 0), (5, .t (.v (.bool end1))), (29, .t (.v (.int .i64 r.2.Kind))), (37, .t (.v (.bool x)))]) (putR (List.replicate 87 []) [(2, [.mem [[.v (.bool sDeep), .v (.int .i64 r.2.Kind), .v (.string r.2.Pre), .v (.string r.2.Local), .sl false (r.2.Preds.map GPred.row)]] 0 false])])) := by
  intro end1 r x sDeep
  have g0 := impl_PlainOk_ok; try simp only [SSA, RS, Nat.reduceAdd, Nat.reduceSub, Nat.reduceMul, Nat.reduceLeDiff, Nat.reduceLT, Nat.reduceEqDiff, Nat.reduceBEq, ↓reduceIte, reduceCtorEq] at g0
  have g1 := impl_nameOk_ok; try simp only [SSA, RS, Nat.reduceAdd, Nat.reduceSub, Nat.reduceMul, Nat.reduceLeDiff, Nat.reduceLT, Nat.reduceEqDiff, Nat.reduceBEq, ↓reduceIte, reduceCtorEq] at g1
  simp only [SSA, RS, c_impl_stepOk, k_impl_stepOk_r22, k_impl_stepOk_r12, impl_stepOk_j22, e_impl_PlainOk, e_impl_nameOk, Nat.reduceAdd, Nat.reduceSub, Nat.reduceMul, Nat.reduceLeDiff, Nat.reduceLT, Nat.reduceEqDiff, Nat.reduceBEq, ↓reduceIte, reduceCtorEq]
  repeat' first
    | with_reducible exact Ok_none
    | ((with_reducible refine Ok_ret ?_); first | rfl | (simp only [SSA, RS, e_impl_stepOk, Nat.reduceAdd, Nat.reduceSub, Nat.reduceMul, Nat.reduceLeDiff, Nat.reduceLT, Nat.reduceEqDiff, Nat.reduceBEq, ↓reduceIte, reduceCtorEq]; done))
    | ((first | with_reducible refine Ok_if (fun h => ?_) (fun h => ?_) | with_reducible refine Ok_call (g0 _) fun v => ?_ | with_reducible refine Ok_call (g1 _ _) fun v => ?_ | refine Ok_call (g0 _) fun v => ?_ | refine Ok_call (g1 _ _) fun v => ?_) <;> simp only [SSA, RS, *, k_impl_stepOk_r12, e_impl_PlainOk, e_impl_nameOk, Nat.reduceAdd, Nat.reduceSub, Nat.reduceMul, Nat.reduceLeDiff, Nat.reduceLT, Nat.reduceEqDiff, Nat.reduceBEq, ↓reduceIte, reduceCtorEq])

theorem impl_stepOk_j10_ok : ∀ (end1 : Bool) (sDeep : Bool) (r : Bool × GStp), Ok (impl_stepOk_j10 end1 sDeep r) e_impl_stepOk (ev FTA c_impl_stepOk k_impl_stepOk_r10 [] (putS (List.replicate 87 .dead) [(2, .ptr (2, 0) [] 0 0 1 0), (5, .t (.v (.bool end1)))]) (putR (List.replicate 87 []) [(2, [.mem [[.v (.bool sDeep), .v (.int .i64 r.2.Kind), .v (.string r.2.Pre), .v (.string r.2.Local), .sl false (r.2.Preds.map GPred.row)]] 0 false])])) := by
  intro end1 sDeep r
  have g0 := impl_nameOk_ok; try simp only [SSA, RS, Nat.reduceAdd, Nat.reduceSub, Nat.reduceMul, Nat.reduceLeDiff, Nat.reduceLT, Nat.reduceEqDiff, Nat.reduceBEq, ↓reduceIte, reduceCtorEq] at g0
  simp only [SSA, RS, c_impl_stepOk, k_impl_stepOk_r10, impl_stepOk_j10, e_impl_nameOk, Nat.reduceAdd, Nat.reduceSub, Nat.reduceMul, Nat.reduceLeDiff, Nat.reduceLT, Nat.reduceEqDiff, Nat.reduceBEq, ↓reduceIte, reduceCtorEq]
  repeat' first
    | with_reducible exact Ok_none
    | ((with_reducible refine Ok_ret ?_); first | rfl | (simp only [SSA, RS, e_impl_stepOk, Nat.reduceAdd, Nat.reduceSub, Nat.reduceMul, Nat.reduceLeDiff, Nat.reduceLT, Nat.reduceEqDiff, Nat.reduceBEq, ↓reduceIte, reduceCtorEq]; done))
    | ((with_reducible refine Ok_tail (impl_stepOk_j22_ok _ _ _ _) ?_); first | rfl | (simp only [SSA, RS, c_impl_stepOk, Nat.reduceAdd, Nat.reduceSub, Nat.reduceMul, Nat.reduceLeDiff, Nat.reduceLT, Nat.reduceEqDiff, Nat.reduceBEq, ↓reduceIte, reduceCtorEq]; done) | (simp only [SSA, RS, c_impl_stepOk, Nat.reduceAdd, Nat.reduceSub, Nat.reduceMul, Nat.reduceLeDiff, Nat.reduceLT, Nat.reduceEqDiff, Nat.reduceBEq, ↓reduceIte, reduceCtorEq]; rfl))
    | ((first | with_reducible refine Ok_if (fun h => ?_) (fun h => ?_) | with_reducible refine Ok_call (g0 _ _) fun v => ?_ | refine Ok_call (g0 _ _) fun v => ?_) <;> simp only [SSA, RS, *, e_impl_nameOk, Nat.reduceAdd, Nat.reduceSub, Nat.reduceMul, Nat.reduceLeDiff, Nat.reduceLT, Nat.reduceEqDiff, Nat.reduceBEq, ↓reduceIte, reduceCtorEq])

theorem impl_stepOk_ok : ∀ (s : GStp) (last : Bool), Ok (impl_stepOk s last) e_impl_stepOk (dn FTA n_impl_stepOk [.agg (((GStp.row false) s).map .t), .t (.v (.bool last))]) := by
  intro s last
  rw [den_ev FTA (fn := k_impl_stepOk) rfl (xOf_none rfl rfl _) (Nat.le_of_ble_eq_true rfl)]
  have g0 := slices_ContainsFunc_Pred_stepOk_1_ok; try simp only [SSA, RS, Nat.reduceAdd, Nat.reduceSub, Nat.reduceMul, Nat.reduceLeDiff, Nat.reduceLT, Nat.reduceEqDiff, Nat.reduceBEq, ↓reduceIte, reduceCtorEq] at g0
  simp only [SSA, RS, c_impl_stepOk, k_impl_stepOk, impl_stepOk, e_slices_ContainsFunc_Pred_stepOk_1, Nat.reduceAdd, Nat.reduceSub, Nat.reduceMul, Nat.reduceLeDiff, Nat.reduceLT, Nat.reduceEqDiff, Nat.reduceBEq, ↓reduceIte, reduceCtorEq]
  repeat' first
    | with_reducible exact Ok_none
    | ((with_reducible refine Ok_ret ?_); first | rfl | (simp only [SSA, RS, e_impl_stepOk, Nat.reduceAdd, Nat.reduceSub, Nat.reduceMul, Nat.reduceLeDiff, Nat.reduceLT, Nat.reduceEqDiff, Nat.reduceBEq, ↓reduceIte, reduceCtorEq]; done))
    | ((with_reducible refine Ok_tail (impl_stepOk_j10_ok _ _ _) ?_); first | rfl | (simp only [SSA, RS, c_impl_stepOk, Nat.reduceAdd, Nat.reduceSub, Nat.reduceMul, Nat.reduceLeDiff, Nat.reduceLT, Nat.reduceEqDiff, Nat.reduceBEq, ↓reduceIte, reduceCtorEq]; done) | (simp only [SSA, RS, c_impl_stepOk, Nat.reduceAdd, Nat.reduceSub, Nat.reduceMul, Nat.reduceLeDiff, Nat.reduceLT, Nat.reduceEqDiff, Nat.reduceBEq, ↓reduceIte, reduceCtorEq]; rfl))
    | ((first | with_reducible refine Ok_if (fun h => ?_) (fun h => ?_) | with_reducible refine Ok_call (g0 _ _) fun v => ?_ | refine Ok_call (g0 _ _) fun v => ?_) <;> simp only [SSA, RS, *, e_slices_ContainsFunc_Pred_stepOk_1, Nat.reduceAdd, Nat.reduceSub, Nat.reduceMul, Nat.reduceLeDiff, Nat.reduceLT, Nat.reduceEqDiff, Nat.reduceBEq, ↓reduceIte, reduceCtorEq])

def e_impl_SelOk (r : Bool) : Res := ⟨[.t (.v (.bool r))], []⟩
def c_impl_SelOk : Cx := ⟨1, [0], [.tmp 2]⟩
theorem impl_SelOk_l8_ok' (s : GSel) : ∀ (x1 : Int), Ok (impl_SelOk_l8 s x1) e_impl_SelOk (ev FTA c_impl_SelOk (.loop k_impl_SelOk_l8) [.lv 0, .th k_impl_SelOk_r4] (putS (List.replicate 41 .dead) [(1, .ptr (1, 0) [] 0 0 1 0), (3, .t (.v (.int .i64 (lenL s.Steps)))), (10, .t (.sl false (s.Steps.map (GStp.row false)))), (11, .t (.v (.int .i64 (lenL s.Steps)))), (12, .t (.v (.int .i64 x1)))]) (putR (List.replicate 41 []) [(1, [.mem [[.v (.string s.Id), .sl false (s.Steps.map (GStp.row false))]] 0 false])])) := by
  unfold Ok
  refine impl_SelOk_l8.partial_correctness s _ ?_
  intro F ih x1
  show Ok _ _ _
  have ih : ∀ (x1 : Int), Ok (F x1) _ _ := ih
  rw [ev_loop]
  have g0 := impl_stepOk_ok; try simp only [SSA, RS, Nat.reduceAdd, Nat.reduceSub, Nat.reduceMul, Nat.reduceLeDiff, Nat.reduceLT, Nat.reduceEqDiff, Nat.reduceBEq, ↓reduceIte, reduceCtorEq] at g0
  have g1 := impl_valOk_ok; try simp only [SSA, RS, Nat.reduceAdd, Nat.reduceSub, Nat.reduceMul, Nat.reduceLeDiff, Nat.reduceLT, Nat.reduceEqDiff, Nat.reduceBEq, ↓reduceIte, reduceCtorEq] at g1
  simp only [SSA, RS, c_impl_SelOk, k_impl_SelOk_l8, k_impl_SelOk_r4, e_impl_stepOk, e_impl_valOk, Nat.reduceAdd, Nat.reduceSub, Nat.reduceMul, Nat.reduceLeDiff, Nat.reduceLT, Nat.reduceEqDiff, Nat.reduceBEq, ↓reduceIte, reduceCtorEq]
  repeat' first
    | with_reducible exact Ok_none
    | ((with_reducible refine Ok_ret ?_); first | rfl | (simp only [SSA, RS, e_impl_SelOk, Nat.reduceAdd, Nat.reduceSub, Nat.reduceMul, Nat.reduceLeDiff, Nat.reduceLT, Nat.reduceEqDiff, Nat.reduceBEq, ↓reduceIte, reduceCtorEq]; done))
    | ((with_reducible refine Ok_tail (ih _) ?_); first | rfl | (simp only [SSA, RS, c_impl_SelOk, Nat.reduceAdd, Nat.reduceSub, Nat.reduceMul, Nat.reduceLeDiff, Nat.reduceLT, Nat.reduceEqDiff, Nat.reduceBEq, ↓reduceIte, reduceCtorEq]; done) | (simp only [SSA, RS, c_impl_SelOk, Nat.reduceAdd, Nat.reduceSub, Nat.reduceMul, Nat.reduceLeDiff, Nat.reduceLT, Nat.reduceEqDiff, Nat.reduceBEq, ↓reduceIte, reduceCtorEq]; rfl))
    | ((first | with_reducible refine Ok_if (fun h => ?_) (fun h => ?_) | with_reducible refine Ok_get fun a h => ?_ | with_reducible refine Ok_call (g0 _ _) fun v => ?_ | with_reducible refine Ok_call (g1 _) fun v => ?_ | refine Ok_call (g0 _ _) fun v => ?_ | refine Ok_call (g1 _) fun v => ?_) <;> simp only [SSA, RS, *, k_impl_SelOk_r4, e_impl_stepOk, e_impl_valOk, Nat.reduceAdd, Nat.reduceSub, Nat.reduceMul, Nat.reduceLeDiff, Nat.reduceLT, Nat.reduceEqDiff, Nat.reduceBEq, ↓reduceIte, reduceCtorEq])
theorem impl_SelOk_l8_ok (s : GSel) (x1 : Int) : Ok (impl_SelOk_l8 s x1) e_impl_SelOk (ev FTA c_impl_SelOk (.loop k_impl_SelOk_l8) [.lv 0, .th k_impl_SelOk_r4] (putS (List.replicate 41 .dead) [(1, .ptr (1, 0) [] 0 0 1 0), (3, .t (.v (.int .i64 (lenL s.Steps)))), (10, .t (.sl false (s.Steps.map (GStp.row false)))), (11, .t (.v (.int .i64 (lenL s.Steps)))), (12, .t (.v (.int .i64 x1)))]) (putR (List.replicate 41 []) [(1, [.mem [[.v (.string s.Id), .sl false (s.Steps.map (GStp.row false))]] 0 false])])) := impl_SelOk_l8_ok' s x1

theorem impl_SelOk_ok : ∀ (s : GSel), Ok (impl_SelOk s) e_impl_SelOk (dn FTA n_impl_SelOk [.agg (((GSel.row false) s).map .t)]) := by
  intro s
  rw [den_ev FTA (fn := k_impl_SelOk) rfl (xOf_none rfl rfl _) (Nat.le_of_ble_eq_true rfl)]
  simp only [SSA, RS, c_impl_SelOk, k_impl_SelOk, impl_SelOk, Nat.reduceAdd, Nat.reduceSub, Nat.reduceMul, Nat.reduceLeDiff, Nat.reduceLT, Nat.reduceEqDiff, Nat.reduceBEq, ↓reduceIte, reduceCtorEq]
  repeat' first
    | with_reducible exact Ok_none
    | ((with_reducible refine Ok_ret ?_); first | rfl | (simp only [SSA, RS, e_impl_SelOk, Nat.reduceAdd, Nat.reduceSub, Nat.reduceMul, Nat.reduceLeDiff, Nat.reduceLT, Nat.reduceEqDiff, Nat.reduceBEq, ↓reduceIte, reduceCtorEq]; done))
    | ((with_reducible refine Ok_tail (impl_SelOk_l8_ok _ _) ?_); first | rfl | (simp only [SSA, RS, c_impl_SelOk, Nat.reduceAdd, Nat.reduceSub, Nat.reduceMul, Nat.reduceLeDiff, Nat.reduceLT, Nat.reduceEqDiff, Nat.reduceBEq, ↓reduceIte, reduceCtorEq]; done) | (simp only [SSA, RS, c_impl_SelOk, Nat.reduceAdd, Nat.reduceSub, Nat.reduceMul, Nat.reduceLeDiff, Nat.reduceLT, Nat.reduceEqDiff, Nat.reduceBEq, ↓reduceIte, reduceCtorEq]; rfl))

def e_impl_SelAttr (r : GSel × Bool) : Res := ⟨[.agg [.v (.string r.1.Id), .sl true (r.1.Steps.map (GStp.row true))], .t (.v (.bool r.2))], []⟩
def c_impl_SelAttr : Cx := ⟨3, [0, 0, 0], [.cell 6 2 true, .tmp 7]⟩
theorem impl_SelAttr_ok : ∀ (t : GNode) (path : List Int) (a : GAttr), Ok (impl_SelAttr t path a) e_impl_SelAttr (dn FTA n_impl_SelAttr [.agg (((GNode.row false) t).map .t), .t (.sl false (path.map rI)), .agg ((GAttr.row a).map .t)]) := by
  intro t path a
  rw [den_ev FTA (fn := k_impl_SelAttr) rfl (xOf_none rfl rfl _) (Nat.le_of_ble_eq_true rfl)]
  have g0 := impl_SelFor_ok; try simp only [SSA, RS, Nat.reduceAdd, Nat.reduceSub, Nat.reduceMul, Nat.reduceLeDiff, Nat.reduceLT, Nat.reduceEqDiff, Nat.reduceBEq, ↓reduceIte, reduceCtorEq] at g0
  have g1 := impl_SelOk_ok; try simp only [SSA, RS, Nat.reduceAdd, Nat.reduceSub, Nat.reduceMul, Nat.reduceLeDiff, Nat.reduceLT, Nat.reduceEqDiff, Nat.reduceBEq, ↓reduceIte, reduceCtorEq] at g1
  simp only [SSA, RS, c_impl_SelAttr, k_impl_SelAttr, impl_SelAttr, e_impl_SelFor, e_impl_SelOk, Nat.reduceAdd, Nat.reduceSub, Nat.reduceMul, Nat.reduceLeDiff, Nat.reduceLT, Nat.reduceEqDiff, Nat.reduceBEq, ↓reduceIte, reduceCtorEq]
  repeat' first
    | with_reducible exact Ok_none
    | ((with_reducible refine Ok_ret ?_); first | rfl | (simp only [SSA, RS, e_impl_SelAttr, Nat.reduceAdd, Nat.reduceSub, Nat.reduceMul, Nat.reduceLeDiff, Nat.reduceLT, Nat.reduceEqDiff, Nat.reduceBEq, ↓reduceIte, reduceCtorEq]; done))
    | ((first | with_reducible refine Ok_if (fun h => ?_) (fun h => ?_) | with_reducible refine Ok_call (g0 _ _) fun v => ?_ | with_reducible refine Ok_call (g1 _) fun v => ?_ | with_reducible refine Ok_prim (p := room _ _) fun a h => ?_ | refine Ok_call (g0 _ _) fun v => ?_ | refine Ok_call (g1 _) fun v => ?_) <;> simp only [SSA, RS, *, e_impl_SelFor, e_impl_SelOk, Nat.reduceAdd, Nat.reduceSub, Nat.reduceMul, Nat.reduceLeDiff, Nat.reduceLT, Nat.reduceEqDiff, Nat.reduceBEq, ↓reduceIte, reduceCtorEq])

def e_laws_eqPred (r : Bool) : Res := ⟨[.t (.v (.bool r))], []⟩
def c_laws_eqPred : Cx := ⟨2, [0, 0], [.tmp 4]⟩
theorem laws_eqPred_ok : ∀ (a : GPred) (b : GPred), Ok (laws_eqPred a b) e_laws_eqPred (dn FTA n_laws_eqPred [.agg ((GPred.row a).map .t), .agg ((GPred.row b).map .t)]) := by
  intro a b
  rw [den_ev FTA (fn := k_laws_eqPred) rfl (xOf_none rfl rfl _) (Nat.le_of_ble_eq_true rfl)]
  simp only [SSA, RS, c_laws_eqPred, k_laws_eqPred, laws_eqPred, Nat.reduceAdd, Nat.reduceSub, Nat.reduceMul, Nat.reduceLeDiff, Nat.reduceLT, Nat.reduceEqDiff, Nat.reduceBEq, ↓reduceIte, reduceCtorEq]
  repeat' first
    | with_reducible exact Ok_none
    | ((with_reducible refine Ok_ret ?_); first | rfl | (simp only [SSA, RS, e_laws_eqPred, Nat.reduceAdd, Nat.reduceSub, Nat.reduceMul, Nat.reduceLeDiff, Nat.reduceLT, Nat.reduceEqDiff, Nat.reduceBEq, ↓reduceIte, reduceCtorEq]; done))
    | ((first | with_reducible refine Ok_if (fun h => ?_) (fun h => ?_)) <;> simp only [SSA, RS, *, Nat.reduceAdd, Nat.reduceSub, Nat.reduceMul, Nat.reduceLeDiff, Nat.reduceLT, Nat.reduceEqDiff, Nat.reduceBEq, ↓reduceIte, reduceCtorEq])

def e_laws_eqPredS (r : Bool) : Res := ⟨[.t (.v (.bool r))], []⟩
def c_laws_eqPredS : Cx := ⟨2, [0, 0], [.tmp 4]⟩
theorem laws_eqPredS_l14_ok' (a : List GPred) (b : List GPred) : ∀ (i : Int), Ok (laws_eqPredS_l14 a b i) e_laws_eqPredS (ev FTA c_laws_eqPredS (.loop k_laws_eqPredS_l14) [.lv 0, .th k_laws_eqPredS_r10] (putS (List.replicate 27 .dead) [(0, .t (.sl false (a.map GPred.row))), (1, .t (.sl false (b.map GPred.row))), (5, .t (.v (.int .i64 i)))]) (putR (List.replicate 27 []) [])) := by
  unfold Ok
  refine laws_eqPredS_l14.partial_correctness a b _ ?_
  intro F ih i
  show Ok _ _ _
  have ih : ∀ (i : Int), Ok (F i) _ _ := ih
  rw [ev_loop]
  have g0 := laws_eqPred_ok; try simp only [SSA, RS, Nat.reduceAdd, Nat.reduceSub, Nat.reduceMul, Nat.reduceLeDiff, Nat.reduceLT, Nat.reduceEqDiff, Nat.reduceBEq, ↓reduceIte, reduceCtorEq] at g0
  simp only [SSA, RS, c_laws_eqPredS, k_laws_eqPredS_l14, k_laws_eqPredS_r10, e_laws_eqPred, Nat.reduceAdd, Nat.reduceSub, Nat.reduceMul, Nat.reduceLeDiff, Nat.reduceLT, Nat.reduceEqDiff, Nat.reduceBEq, ↓reduceIte, reduceCtorEq]
  repeat' first
    | with_reducible exact Ok_none
    | ((with_reducible refine Ok_ret ?_); first | rfl | (simp only [SSA, RS, e_laws_eqPredS, Nat.reduceAdd, Nat.reduceSub, Nat.reduceMul, Nat.reduceLeDiff, Nat.reduceLT, Nat.reduceEqDiff, Nat.reduceBEq, ↓reduceIte, reduceCtorEq]; done))
    | ((with_reducible refine Ok_tail (ih _) ?_); first | rfl | (simp only [SSA, RS, c_laws_eqPredS, Nat.reduceAdd, Nat.reduceSub, Nat.reduceMul, Nat.reduceLeDiff, Nat.reduceLT, Nat.reduceEqDiff, Nat.reduceBEq, ↓reduceIte, reduceCtorEq]; done) | (simp only [SSA, RS, c_laws_eqPredS, Nat.reduceAdd, Nat.reduceSub, Nat.reduceMul, Nat.reduceLeDiff, Nat.reduceLT, Nat.reduceEqDiff, Nat.reduceBEq, ↓reduceIte, reduceCtorEq]; rfl))
    | ((first | with_reducible refine Ok_if (fun h => ?_) (fun h => ?_) | with_reducible refine Ok_get fun a h => ?_ | with_reducible refine Ok_call (g0 _ _) fun v => ?_ | refine Ok_call (g0 _ _) fun v => ?_) <;> simp only [SSA, RS, *, k_laws_eqPredS_r10, e_laws_eqPred, Nat.reduceAdd, Nat.reduceSub, Nat.reduceMul, Nat.reduceLeDiff, Nat.reduceLT, Nat.reduceEqDiff, Nat.reduceBEq, ↓reduceIte, reduceCtorEq])
theorem laws_eqPredS_l14_ok (a : List GPred) (b : List GPred) (i : Int) : Ok (laws_eqPredS_l14 a b i) e_laws_eqPredS (ev FTA c_laws_eqPredS (.loop k_laws_eqPredS_l14) [.lv 0, .th k_laws_eqPredS_r10] (putS (List.replicate 27 .dead) [(0, .t (.sl false (a.map GPred.row))), (1, .t (.sl false (b.map GPred.row))), (5, .t (.v (.int .i64 i)))]) (putR (List.replicate 27 []) [])) := laws_eqPredS_l14_ok' a b i

theorem laws_eqPredS_ok : ∀ (a : List GPred) (b : List GPred), Ok (laws_eqPredS a b) e_laws_eqPredS (dn FTA n_laws_eqPredS [.t (.sl false (a.map GPred.row)), .t (.sl false (b.map GPred.row))]) := by
  intro a b
  rw [den_ev FTA (fn := k_laws_eqPredS) rfl (xOf_none rfl rfl _) (Nat.le_of_ble_eq_true rfl)]
  simp only [SSA, RS, c_laws_eqPredS, k_laws_eqPredS, laws_eqPredS, Nat.reduceAdd, Nat.reduceSub, Nat.reduceMul, Nat.reduceLeDiff, Nat.reduceLT, Nat.reduceEqDiff, Nat.reduceBEq, ↓reduceIte, reduceCtorEq]
  repeat' first
    | with_reducible exact Ok_none
    | ((with_reducible refine Ok_ret ?_); first | rfl | (simp only [SSA, RS, e_laws_eqPredS, Nat.reduceAdd, Nat.reduceSub, Nat.reduceMul, Nat.reduceLeDiff, Nat.reduceLT, Nat.reduceEqDiff, Nat.reduceBEq, ↓reduceIte, reduceCtorEq]; done))
    | ((with_reducible refine Ok_tail (laws_eqPredS_l14_ok _ _ _) ?_); first | rfl | (simp only [SSA, RS, c_laws_eqPredS, Nat.reduceAdd, Nat.reduceSub, Nat.reduceMul, Nat.reduceLeDiff, Nat.reduceLT, Nat.reduceEqDiff, Nat.reduceBEq, ↓reduceIte, reduceCtorEq]; done) | (simp only [SSA, RS, c_laws_eqPredS, Nat.reduceAdd, Nat.reduceSub, Nat.reduceMul, Nat.reduceLeDiff, Nat.reduceLT, Nat.reduceEqDiff, Nat.reduceBEq, ↓reduceIte, reduceCtorEq]; rfl))
    | ((first | with_reducible refine Ok_if (fun h => ?_) (fun h => ?_)) <;> simp only [SSA, RS, *, Nat.reduceAdd, Nat.reduceSub, Nat.reduceMul, Nat.reduceLeDiff, Nat.reduceLT, Nat.reduceEqDiff, Nat.reduceBEq, ↓reduceIte, reduceCtorEq])

def e_laws_eqStep (r : Bool) : Res := ⟨[.t (.v (.bool r))], []⟩
def c_laws_eqStep : Cx := ⟨2, [0, 0], [.tmp 4]⟩
theorem laws_eqStep_ok : ∀ (a : GStp) (b : GStp), Ok (laws_eqStep a b) e_laws_eqStep (dn FTA n_laws_eqStep [.agg (((GStp.row false) a).map .t), .agg (((GStp.row false) b).map .t)]) := by
  intro a b
  rw [den_ev FTA (fn := k_laws_eqStep) rfl (xOf_none rfl rfl _) (Nat.le_of_ble_eq_true rfl)]
  have g0 := laws_eqPredS_ok; try simp only [SSA, RS, Nat.reduceAdd, Nat.reduceSub, Nat.reduceMul, Nat.reduceLeDiff, Nat.reduceLT, Nat.reduceEqDiff, Nat.reduceBEq, ↓reduceIte, reduceCtorEq] at g0
  simp only [SSA, RS, c_laws_eqStep, k_laws_eqStep, laws_eqStep, e_laws_eqPredS, Nat.reduceAdd, Nat.reduceSub, Nat.reduceMul, Nat.reduceLeDiff, Nat.reduceLT, Nat.reduceEqDiff, Nat.reduceBEq, ↓reduceIte, reduceCtorEq]
  repeat' first
    | with_reducible exact Ok_none
    | ((with_reducible refine Ok_ret ?_); first | rfl | (simp only [SSA, RS, e_laws_eqStep, Nat.reduceAdd, Nat.reduceSub, Nat.reduceMul, Nat.reduceLeDiff, Nat.reduceLT, Nat.reduceEqDiff, Nat.reduceBEq, ↓reduceIte, reduceCtorEq]; done))
    | ((first | with_reducible refine Ok_if (fun h => ?_) (fun h => ?_) | with_reducible refine Ok_call (g0 _ _) fun v => ?_ | refine Ok_call (g0 _ _) fun v => ?_) <;> simp only [SSA, RS, *, e_laws_eqPredS, Nat.reduceAdd, Nat.reduceSub, Nat.reduceMul, Nat.reduceLeDiff, Nat.reduceLT, Nat.reduceEqDiff, Nat.reduceBEq, ↓reduceIte, reduceCtorEq])

def e_laws_eqStepS (r : Bool) : Res := ⟨[.t (.v (.bool r))], []⟩
def c_laws_eqStepS : Cx := ⟨2, [0, 0], [.tmp 4]⟩
theorem laws_eqStepS_l14_ok' (a : List GStp) (b : List GStp) : ∀ (i : Int), Ok (laws_eqStepS_l14 a b i) e_laws_eqStepS (ev FTA c_laws_eqStepS (.loop k_laws_eqStepS_l14) [.lv 0, .th k_laws_eqStepS_r10] (putS (List.replicate 27 .dead) [(0, .t (.sl false (a.map (GStp.row false)))), (1, .t (.sl false (b.map (GStp.row false)))), (5, .t (.v (.int .i64 i)))]) (putR (List.replicate 27 []) [])) := by
  unfold Ok
  refine laws_eqStepS_l14.partial_correctness a b _ ?_
  intro F ih i
  show Ok _ _ _
  have ih : ∀ (i : Int), Ok (F i) _ _ := ih
  rw [ev_loop]
  have g0 := laws_eqStep_ok; try simp only [SSA, RS, Nat.reduceAdd, Nat.reduceSub, Nat.reduceMul, Nat.reduceLeDiff, Nat.reduceLT, Nat.reduceEqDiff, Nat.reduceBEq, ↓reduceIte, reduceCtorEq] at g0
  simp only [SSA, RS, c_laws_eqStepS, k_laws_eqStepS_l14, k_laws_eqStepS_r10, e_laws_eqStep, Nat.reduceAdd, Nat.reduceSub, Nat.reduceMul, Nat.reduceLeDiff, Nat.reduceLT, Nat.reduceEqDiff, Nat.reduceBEq, ↓reduceIte, reduceCtorEq]
  repeat' first
    | with_reducible exact Ok_none
    | ((with_reducible refine Ok_ret ?_); first | rfl | (simp only [SSA, RS, e_laws_eqStepS, Nat.reduceAdd, Nat.reduceSub, Nat.reduceMul, Nat.reduceLeDiff, Nat.reduceLT, Nat.reduceEqDiff, Nat.reduceBEq, ↓reduceIte, reduceCtorEq]; done))
    | ((with_reducible refine Ok_tail (ih _) ?_); first | rfl | (simp only [SSA, RS, c_laws_eqStepS, Nat.reduceAdd, Nat.reduceSub, Nat.reduceMul, Nat.reduceLeDiff, Nat.reduceLT, Nat.reduceEqDiff, Nat.reduceBEq, ↓reduceIte, reduceCtorEq]; done) | (simp only [SSA, RS, c_laws_eqStepS, Nat.reduceAdd, Nat.reduceSub, Nat.reduceMul, Nat.reduceLeDiff, Nat.reduceLT, Nat.reduceEqDiff, Nat.reduceBEq, ↓reduceIte, reduceCtorEq]; rfl))
    | ((first | with_reducible refine Ok_if (fun h => ?_) (fun h => ?_) | with_reducible refine Ok_get fun a h => ?_ | with_reducible refine Ok_call (g0 _ _) fun v => ?_ | refine Ok_call (g0 _ _) fun v => ?_) <;> simp only [SSA, RS, *, k_laws_eqStepS_r10, e_laws_eqStep, Nat.reduceAdd, Nat.reduceSub, Nat.reduceMul, Nat.reduceLeDiff, Nat.reduceLT, Nat.reduceEqDiff, Nat.reduceBEq, ↓reduceIte, reduceCtorEq])
theorem laws_eqStepS_l14_ok (a : List GStp) (b : List GStp) (i : Int) : Ok (laws_eqStepS_l14 a b i) e_laws_eqStepS (ev FTA c_laws_eqStepS (.loop k_laws_eqStepS_l14) [.lv 0, .th k_laws_eqStepS_r10] (putS (List.replicate 27 .dead) [(0, .t (.sl false (a.map (GStp.row false)))), (1, .t (.sl false (b.map (GStp.row false)))), (5, .t (.v (.int .i64 i)))]) (putR (List.replicate 27 []) [])) := laws_eqStepS_l14_ok' a b i

theorem laws_eqStepS_ok : ∀ (a : List GStp) (b : List GStp), Ok (laws_eqStepS a b) e_laws_eqStepS (dn FTA n_laws_eqStepS [.t (.sl false (a.map (GStp.row false))), .t (.sl false (b.map (GStp.row false)))]) := by
  intro a b
  rw [den_ev FTA (fn := k_laws_eqStepS) rfl (xOf_none rfl rfl _) (Nat.le_of_ble_eq_true rfl)]
  simp only [SSA, RS, c_laws_eqStepS, k_laws_eqStepS, laws_eqStepS, Nat.reduceAdd, Nat.reduceSub, Nat.reduceMul, Nat.reduceLeDiff, Nat.reduceLT, Nat.reduceEqDiff, Nat.reduceBEq, ↓reduceIte, reduceCtorEq]
  repeat' first
    | with_reducible exact Ok_none
    | ((with_reducible refine Ok_ret ?_); first | rfl | (simp only [SSA, RS, e_laws_eqStepS, Nat.reduceAdd, Nat.reduceSub, Nat.reduceMul, Nat.reduceLeDiff, Nat.reduceLT, Nat.reduceEqDiff, Nat.reduceBEq, ↓reduceIte, reduceCtorEq]; done))
    | ((with_reducible refine Ok_tail (laws_eqStepS_l14_ok _ _ _) ?_); first | rfl | (simp only [SSA, RS, c_laws_eqStepS, Nat.reduceAdd, Nat.reduceSub, Nat.reduceMul, Nat.reduceLeDiff, Nat.reduceLT, Nat.reduceEqDiff, Nat.reduceBEq, ↓reduceIte, reduceCtorEq]; done) | (simp only [SSA, RS, c_laws_eqStepS, Nat.reduceAdd, Nat.reduceSub, Nat.reduceMul, Nat.reduceLeDiff, Nat.reduceLT, Nat.reduceEqDiff, Nat.reduceBEq, ↓reduceIte, reduceCtorEq]; rfl))
    | ((first | with_reducible refine Ok_if (fun h => ?_) (fun h => ?_)) <;> simp only [SSA, RS, *, Nat.reduceAdd, Nat.reduceSub, Nat.reduceMul, Nat.reduceLeDiff, Nat.reduceLT, Nat.reduceEqDiff, Nat.reduceBEq, ↓reduceIte, reduceCtorEq])

def e_laws_eqSel (r : Bool) : Res := ⟨[.t (.v (.bool r))], []⟩
def c_laws_eqSel : Cx := ⟨2, [0, 0], [.tmp 4]⟩
theorem laws_eqSel_ok : ∀ (a : GSel) (b : GSel), Ok (laws_eqSel a b) e_laws_eqSel (dn FTA n_laws_eqSel [.agg (((GSel.row false) a).map .t), .agg (((GSel.row false) b).map .t)]) := by
  intro a b
  rw [den_ev FTA (fn := k_laws_eqSel) rfl (xOf_none rfl rfl _) (Nat.le_of_ble_eq_true rfl)]
  have g0 := laws_eqStepS_ok; try simp only [SSA, RS, Nat.reduceAdd, Nat.reduceSub, Nat.reduceMul, Nat.reduceLeDiff, Nat.reduceLT, Nat.reduceEqDiff, Nat.reduceBEq, ↓reduceIte, reduceCtorEq] at g0
  simp only [SSA, RS, c_laws_eqSel, k_laws_eqSel, laws_eqSel, e_laws_eqStepS, Nat.reduceAdd, Nat.reduceSub, Nat.reduceMul, Nat.reduceLeDiff, Nat.reduceLT, Nat.reduceEqDiff, Nat.reduceBEq, ↓reduceIte, reduceCtorEq]
  repeat' first
    | with_reducible exact Ok_none
    | ((with_reducible refine Ok_ret ?_); first | rfl | (simp only [SSA, RS, e_laws_eqSel, Nat.reduceAdd, Nat.reduceSub, Nat.reduceMul, Nat.reduceLeDiff, Nat.reduceLT, Nat.reduceEqDiff, Nat.reduceBEq, ↓reduceIte, reduceCtorEq]; done))
    | ((first | with_reducible refine Ok_if (fun h => ?_) (fun h => ?_) | with_reducible refine Ok_call (g0 _ _) fun v => ?_ | refine Ok_call (g0 _ _) fun v => ?_) <;> simp only [SSA, RS, *, e_laws_eqStepS, Nat.reduceAdd, Nat.reduceSub, Nat.reduceMul, Nat.reduceLeDiff, Nat.reduceLT, Nat.reduceEqDiff, Nat.reduceBEq, ↓reduceIte, reduceCtorEq])

def e_laws_eqDecl (r : Bool) : Res := ⟨[.t (.v (.bool r))], []⟩
def c_laws_eqDecl : Cx := ⟨2, [0, 0], [.tmp 4]⟩
theorem laws_eqDecl_ok : ∀ (a : GDecl) (b : GDecl), Ok (laws_eqDecl a b) e_laws_eqDecl (dn FTA n_laws_eqDecl [.agg ((GDecl.row a).map .t), .agg ((GDecl.row b).map .t)]) := by
  intro a b
  rw [den_ev FTA (fn := k_laws_eqDecl) rfl (xOf_none rfl rfl _) (Nat.le_of_ble_eq_true rfl)]
  simp only [SSA, RS, c_laws_eqDecl, k_laws_eqDecl, laws_eqDecl, Nat.reduceAdd, Nat.reduceSub, Nat.reduceMul, Nat.reduceLeDiff, Nat.reduceLT, Nat.reduceEqDiff, Nat.reduceBEq, ↓reduceIte, reduceCtorEq]
  repeat' first
    | with_reducible exact Ok_none
    | ((with_reducible refine Ok_ret ?_); first | rfl | (simp only [SSA, RS, e_laws_eqDecl, Nat.reduceAdd, Nat.reduceSub, Nat.reduceMul, Nat.reduceLeDiff, Nat.reduceLT, Nat.reduceEqDiff, Nat.reduceBEq, ↓reduceIte, reduceCtorEq]; done))
    | ((first | with_reducible refine Ok_if (fun h => ?_) (fun h => ?_)) <;> simp only [SSA, RS, *, Nat.reduceAdd, Nat.reduceSub, Nat.reduceMul, Nat.reduceLeDiff, Nat.reduceLT, Nat.reduceEqDiff, Nat.reduceBEq, ↓reduceIte, reduceCtorEq])

def e_laws_eqDeclS (r : Bool) : Res := ⟨[.t (.v (.bool r))], []⟩
def c_laws_eqDeclS : Cx := ⟨2, [0, 0], [.tmp 4]⟩
theorem laws_eqDeclS_l14_ok' (a : List GDecl) (b : List GDecl) : ∀ (i : Int), Ok (laws_eqDeclS_l14 a b i) e_laws_eqDeclS (ev FTA c_laws_eqDeclS (.loop k_laws_eqDeclS_l14) [.lv 0, .th k_laws_eqDeclS_r10] (putS (List.replicate 27 .dead) [(0, .t (.sl false (a.map GDecl.row))), (1, .t (.sl false (b.map GDecl.row))), (5, .t (.v (.int .i64 i)))]) (putR (List.replicate 27 []) [])) := by
  unfold Ok
  refine laws_eqDeclS_l14.partial_correctness a b _ ?_
  intro F ih i
  show Ok _ _ _
  have ih : ∀ (i : Int), Ok (F i) _ _ := ih
  rw [ev_loop]
  have g0 := laws_eqDecl_ok; try simp only [SSA, RS, Nat.reduceAdd, Nat.reduceSub, Nat.reduceMul, Nat.reduceLeDiff, Nat.reduceLT, Nat.reduceEqDiff, Nat.reduceBEq, ↓reduceIte, reduceCtorEq] at g0
  simp only [SSA, RS, c_laws_eqDeclS, k_laws_eqDeclS_l14, k_laws_eqDeclS_r10, e_laws_eqDecl, Nat.reduceAdd, Nat.reduceSub, Nat.reduceMul, Nat.reduceLeDiff, Nat.reduceLT, Nat.reduceEqDiff, Nat.reduceBEq, ↓reduceIte, reduceCtorEq]
  repeat' first
    | with_reducible exact Ok_none
    | ((with_reducible refine Ok_ret ?_); first | rfl | (simp only [SSA, RS, e_laws_eqDeclS, Nat.reduceAdd, Nat.reduceSub, Nat.reduceMul, Nat.reduceLeDiff, Nat.reduceLT, Nat.reduceEqDiff, Nat.reduceBEq, ↓reduceIte, reduceCtorEq]; done))
    | ((with_reducible refine Ok_tail (ih _) ?_); first | rfl | (simp only [SSA, RS, c_laws_eqDeclS, Nat.reduceAdd, Nat.reduceSub, Nat.reduceMul, Nat.reduceLeDiff, Nat.reduceLT, Nat.reduceEqDiff, Nat.reduceBEq, ↓reduceIte, reduceCtorEq]; done) | (simp only [SSA, RS, c_laws_eqDeclS, Nat.reduceAdd, Nat.reduceSub, Nat.reduceMul, Nat.reduceLeDiff, Nat.reduceLT, Nat.reduceEqDiff, Nat.reduceBEq, ↓reduceIte, reduceCtorEq]; rfl))
    | ((first | with_reducible refine Ok_if (fun h => ?_) (fun h => ?_) | with_reducible refine Ok_get fun a h => ?_ | with_reducible refine Ok_call (g0 _ _) fun v => ?_ | refine Ok_call (g0 _ _) fun v => ?_) <;> simp only [SSA, RS, *, k_laws_eqDeclS_r10, e_laws_eqDecl, Nat.reduceAdd, Nat.reduceSub, Nat.reduceMul, Nat.reduceLeDiff, Nat.reduceLT, Nat.reduceEqDiff, Nat.reduceBEq, ↓reduceIte, reduceCtorEq])
theorem laws_eqDeclS_l14_ok (a : List GDecl) (b : List GDecl) (i : Int) : Ok (laws_eqDeclS_l14 a b i) e_laws_eqDeclS (ev FTA c_laws_eqDeclS (.loop k_laws_eqDeclS_l14) [.lv 0, .th k_laws_eqDeclS_r10] (putS (List.replicate 27 .dead) [(0, .t (.sl false (a.map GDecl.row))), (1, .t (.sl false (b.map GDecl.row))), (5, .t (.v (.int .i64 i)))]) (putR (List.replicate 27 []) [])) := laws_eqDeclS_l14_ok' a b i

theorem laws_eqDeclS_ok : ∀ (a : List GDecl) (b : List GDecl), Ok (laws_eqDeclS a b) e_laws_eqDeclS (dn FTA n_laws_eqDeclS [.t (.sl false (a.map GDecl.row)), .t (.sl false (b.map GDecl.row))]) := by
  intro a b
  rw [den_ev FTA (fn := k_laws_eqDeclS) rfl (xOf_none rfl rfl _) (Nat.le_of_ble_eq_true rfl)]
  simp only [SSA, RS, c_laws_eqDeclS, k_laws_eqDeclS, laws_eqDeclS, Nat.reduceAdd, Nat.reduceSub, Nat.reduceMul, Nat.reduceLeDiff, Nat.reduceLT, Nat.reduceEqDiff, Nat.reduceBEq, ↓reduceIte, reduceCtorEq]
  repeat' first
    | with_reducible exact Ok_none
    | ((with_reducible refine Ok_ret ?_); first | rfl | (simp only [SSA, RS, e_laws_eqDeclS, Nat.reduceAdd, Nat.reduceSub, Nat.reduceMul, Nat.reduceLeDiff, Nat.reduceLT, Nat.reduceEqDiff, Nat.reduceBEq, ↓reduceIte, reduceCtorEq]; done))
    | ((with_reducible refine Ok_tail (laws_eqDeclS_l14_ok _ _ _) ?_); first | rfl | (simp only [SSA, RS, c_laws_eqDeclS, Nat.reduceAdd, Nat.reduceSub, Nat.reduceMul, Nat.reduceLeDiff, Nat.reduceLT, Nat.reduceEqDiff, Nat.reduceBEq, ↓reduceIte, reduceCtorEq]; done) | (simp only [SSA, RS, c_laws_eqDeclS, Nat.reduceAdd, Nat.reduceSub, Nat.reduceMul, Nat.reduceLeDiff, Nat.reduceLT, Nat.reduceEqDiff, Nat.reduceBEq, ↓reduceIte, reduceCtorEq]; rfl))
    | ((first | with_reducible refine Ok_if (fun h => ?_) (fun h => ?_)) <;> simp only [SSA, RS, *, Nat.reduceAdd, Nat.reduceSub, Nat.reduceMul, Nat.reduceLeDiff, Nat.reduceLT, Nat.reduceEqDiff, Nat.reduceBEq, ↓reduceIte, reduceCtorEq])

def e_laws_eqAttr (r : Bool) : Res := ⟨[.t (.v (.bool r))], []⟩
def c_laws_eqAttr : Cx := ⟨2, [0, 0], [.tmp 4]⟩
theorem laws_eqAttr_ok : ∀ (a : GAttr) (b : GAttr), Ok (laws_eqAttr a b) e_laws_eqAttr (dn FTA n_laws_eqAttr [.agg ((GAttr.row a).map .t), .agg ((GAttr.row b).map .t)]) := by
  intro a b
  rw [den_ev FTA (fn := k_laws_eqAttr) rfl (xOf_none rfl rfl _) (Nat.le_of_ble_eq_true rfl)]
  simp only [SSA, RS, c_laws_eqAttr, k_laws_eqAttr, laws_eqAttr, Nat.reduceAdd, Nat.reduceSub, Nat.reduceMul, Nat.reduceLeDiff, Nat.reduceLT, Nat.reduceEqDiff, Nat.reduceBEq, ↓reduceIte, reduceCtorEq]
  repeat' first
    | with_reducible exact Ok_none
    | ((with_reducible refine Ok_ret ?_); first | rfl | (simp only [SSA, RS, e_laws_eqAttr, Nat.reduceAdd, Nat.reduceSub, Nat.reduceMul, Nat.reduceLeDiff, Nat.reduceLT, Nat.reduceEqDiff, Nat.reduceBEq, ↓reduceIte, reduceCtorEq]; done))
    | ((first | with_reducible refine Ok_if (fun h => ?_) (fun h => ?_)) <;> simp only [SSA, RS, *, Nat.reduceAdd, Nat.reduceSub, Nat.reduceMul, Nat.reduceLeDiff, Nat.reduceLT, Nat.reduceEqDiff, Nat.reduceBEq, ↓reduceIte, reduceCtorEq])

def e_laws_eqAttrS (r : Bool) : Res := ⟨[.t (.v (.bool r))], []⟩
def c_laws_eqAttrS : Cx := ⟨2, [0, 0], [.tmp 4]⟩
theorem laws_eqAttrS_l14_ok' (a : List GAttr) (b : List GAttr) : ∀ (i : Int), Ok (laws_eqAttrS_l14 a b i) e_laws_eqAttrS (ev FTA c_laws_eqAttrS (.loop k_laws_eqAttrS_l14) [.lv 0, .th k_laws_eqAttrS_r10] (putS (List.replicate 27 .dead) [(0, .t (.sl false (a.map GAttr.row))), (1, .t (.sl false (b.map GAttr.row))), (5, .t (.v (.int .i64 i)))]) (putR (List.replicate 27 []) [])) := by
  unfold Ok
  refine laws_eqAttrS_l14.partial_correctness a b _ ?_
  intro F ih i
  show Ok _ _ _
  have ih : ∀ (i : Int), Ok (F i) _ _ := ih
  rw [ev_loop]
  have g0 := laws_eqAttr_ok; try simp only [SSA, RS, Nat.reduceAdd, Nat.reduceSub, Nat.reduceMul, Nat.reduceLeDiff, Nat.reduceLT, Nat.reduceEqDiff, Nat.reduceBEq, ↓reduceIte, reduceCtorEq] at g0
  simp only [SSA, RS, c_laws_eqAttrS, k_laws_eqAttrS_l14, k_laws_eqAttrS_r10, e_laws_eqAttr, Nat.reduceAdd, Nat.reduceSub, Nat.reduceMul, Nat.reduceLeDiff, Nat.reduceLT, Nat.reduceEqDiff, Nat.reduceBEq, ↓reduceIte, reduceCtorEq]
  repeat' first
    | with_reducible exact Ok_none
    | ((with_reducible refine Ok_ret ?_); first | rfl | (simp only [SSA, RS, e_laws_eqAttrS, Nat.reduceAdd, Nat.reduceSub, Nat.reduceMul, Nat.reduceLeDiff, Nat.reduceLT, Nat.reduceEqDiff, Nat.reduceBEq, ↓reduceIte, reduceCtorEq]; done))
    | ((with_reducible refine Ok_tail (ih _) ?_); first | rfl | (simp only [SSA, RS, c_laws_eqAttrS, Nat.reduceAdd, Nat.reduceSub, Nat.reduceMul, Nat.reduceLeDiff, Nat.reduceLT, Nat.reduceEqDiff, Nat.reduceBEq, ↓reduceIte, reduceCtorEq]; done) | (simp only [SSA, RS, c_laws_eqAttrS, Nat.reduceAdd, Nat.reduceSub, Nat.reduceMul, Nat.reduceLeDiff, Nat.reduceLT, Nat.reduceEqDiff, Nat.reduceBEq, ↓reduceIte, reduceCtorEq]; rfl))
    | ((first | with_reducible refine Ok_if (fun h => ?_) (fun h => ?_) | with_reducible refine Ok_get fun a h => ?_ | with_reducible refine Ok_call (g0 _ _) fun v => ?_ | refine Ok_call (g0 _ _) fun v => ?_) <;> simp only [SSA, RS, *, k_laws_eqAttrS_r10, e_laws_eqAttr, Nat.reduceAdd, Nat.reduceSub, Nat.reduceMul, Nat.reduceLeDiff, Nat.reduceLT, Nat.reduceEqDiff, Nat.reduceBEq, ↓reduceIte, reduceCtorEq])
theorem laws_eqAttrS_l14_ok (a : List GAttr) (b : List GAttr) (i : Int) : Ok (laws_eqAttrS_l14 a b i) e_laws_eqAttrS (ev FTA c_laws_eqAttrS (.loop k_laws_eqAttrS_l14) [.lv 0, .th k_laws_eqAttrS_r10] (putS (List.replicate 27 .dead) [(0, .t (.sl false (a.map GAttr.row))), (1, .t (.sl false (b.map GAttr.row))), (5, .t (.v (.int .i64 i)))]) (putR (List.replicate 27 []) [])) := laws_eqAttrS_l14_ok' a b i

theorem laws_eqAttrS_ok : ∀ (a : List GAttr) (b : List GAttr), Ok (laws_eqAttrS a b) e_laws_eqAttrS (dn FTA n_laws_eqAttrS [.t (.sl false (a.map GAttr.row)), .t (.sl false (b.map GAttr.row))]) := by
  intro a b
  rw [den_ev FTA (fn := k_laws_eqAttrS) rfl (xOf_none rfl rfl _) (Nat.le_of_ble_eq_true rfl)]
  simp only [SSA, RS, c_laws_eqAttrS, k_laws_eqAttrS, laws_eqAttrS, Nat.reduceAdd, Nat.reduceSub, Nat.reduceMul, Nat.reduceLeDiff, Nat.reduceLT, Nat.reduceEqDiff, Nat.reduceBEq, ↓reduceIte, reduceCtorEq]
  repeat' first
    | with_reducible exact Ok_none
    | ((with_reducible refine Ok_ret ?_); first | rfl | (simp only [SSA, RS, e_laws_eqAttrS, Nat.reduceAdd, Nat.reduceSub, Nat.reduceMul, Nat.reduceLeDiff, Nat.reduceLT, Nat.reduceEqDiff, Nat.reduceBEq, ↓reduceIte, reduceCtorEq]; done))
    | ((with_reducible refine Ok_tail (laws_eqAttrS_l14_ok _ _ _) ?_); first | rfl | (simp only [SSA, RS, c_laws_eqAttrS, Nat.reduceAdd, Nat.reduceSub, Nat.reduceMul, Nat.reduceLeDiff, Nat.reduceLT, Nat.reduceEqDiff, Nat.reduceBEq, ↓reduceIte, reduceCtorEq]; done) | (simp only [SSA, RS, c_laws_eqAttrS, Nat.reduceAdd, Nat.reduceSub, Nat.reduceMul, Nat.reduceLeDiff, Nat.reduceLT, Nat.reduceEqDiff, Nat.reduceBEq, ↓reduceIte, reduceCtorEq]; rfl))
    | ((first | with_reducible refine Ok_if (fun h => ?_) (fun h => ?_)) <;> simp only [SSA, RS, *, Nat.reduceAdd, Nat.reduceSub, Nat.reduceMul, Nat.reduceLeDiff, Nat.reduceLT, Nat.reduceEqDiff, Nat.reduceBEq, ↓reduceIte, reduceCtorEq])

def e_laws_eqNode (r : Bool) : Res := ⟨[.t (.v (.bool r))], []⟩
def c_laws_eqNode : Cx := ⟨2, [0, 0], [.tmp 4]⟩
def e_laws_eqNodeS (r : Bool) : Res := ⟨[.t (.v (.bool r))], []⟩
def c_laws_eqNodeS : Cx := ⟨2, [0, 0], [.tmp 4]⟩
theorem G_laws_eqNode : (∀ (a : GNode) (b : GNode), Ok (laws_eqNode a b) e_laws_eqNode (dn FTA n_laws_eqNode [.agg (((GNode.row false) a).map .t), .agg (((GNode.row false) b).map .t)])) ∧
    (∀ (a : List GNode) (b : List GNode), Ok (laws_eqNodeS a b) e_laws_eqNodeS (dn FTA n_laws_eqNodeS [.t (.sl false (a.map (GNode.row false))), .t (.sl false (b.map (GNode.row false)))])) ∧
    (∀ (a : List GNode) (b : List GNode) (i : Int), Ok (laws_eqNodeS_l14 a b i) e_laws_eqNodeS (ev FTA c_laws_eqNodeS (.loop k_laws_eqNodeS_l14) [.lv 0, .th k_laws_eqNodeS_r10] (putS (List.replicate 27 .dead) [(0, .t (.sl false (a.map (GNode.row false)))), (1, .t (.sl false (b.map (GNode.row false)))), (5, .t (.v (.int .i64 i)))]) (putR (List.replicate 27 []) []))) := by
  unfold Ok
  refine laws_eqNode.mutual_partial_correctness _ _ _ ?_ ?_ ?_ 
  · intro F1 ih1 a b
    show Ok _ _ _
    have ih1 : ∀ (a : List GNode) (b : List GNode), Ok (F1 a b) _ _ := ih1
    rw [den_ev FTA (fn := k_laws_eqNode) rfl (xOf_none rfl rfl _) (Nat.le_of_ble_eq_true rfl)]
    have g0 := laws_eqDeclS_ok; try simp only [SSA, RS, Nat.reduceAdd, Nat.reduceSub, Nat.reduceMul, Nat.reduceLeDiff, Nat.reduceLT, Nat.reduceEqDiff, Nat.reduceBEq, ↓reduceIte, reduceCtorEq] at g0
    have g1 := laws_eqAttrS_ok; try simp only [SSA, RS, Nat.reduceAdd, Nat.reduceSub, Nat.reduceMul, Nat.reduceLeDiff, Nat.reduceLT, Nat.reduceEqDiff, Nat.reduceBEq, ↓reduceIte, reduceCtorEq] at g1
    have g2 := ih1; try simp only [SSA, RS, Nat.reduceAdd, Nat.reduceSub, Nat.reduceMul, Nat.reduceLeDiff, Nat.reduceLT, Nat.reduceEqDiff, Nat.reduceBEq, ↓reduceIte, reduceCtorEq] at g2
    simp only [SSA, RS, c_laws_eqNode, k_laws_eqNode, e_laws_eqAttrS, e_laws_eqDeclS, e_laws_eqNodeS, Nat.reduceAdd, Nat.reduceSub, Nat.reduceMul, Nat.reduceLeDiff, Nat.reduceLT, Nat.reduceEqDiff, Nat.reduceBEq, ↓reduceIte, reduceCtorEq]
    repeat' first
      | with_reducible exact Ok_none
      | ((with_reducible refine Ok_ret ?_); first | rfl | (simp only [SSA, RS, e_laws_eqNode, Nat.reduceAdd, Nat.reduceSub, Nat.reduceMul, Nat.reduceLeDiff, Nat.reduceLT, Nat.reduceEqDiff, Nat.reduceBEq, ↓reduceIte, reduceCtorEq]; done))
      | ((first | with_reducible refine Ok_if (fun h => ?_) (fun h => ?_) | with_reducible refine Ok_call (g0 _ _) fun v => ?_ | with_reducible refine Ok_call (g1 _ _) fun v => ?_ | with_reducible refine Ok_call (g2 _ _) fun v => ?_ | refine Ok_call (g0 _ _) fun v => ?_ | refine Ok_call (g1 _ _) fun v => ?_ | refine Ok_call (g2 _ _) fun v => ?_) <;> simp only [SSA, RS, *, e_laws_eqAttrS, e_laws_eqDeclS, e_laws_eqNodeS, Nat.reduceAdd, Nat.reduceSub, Nat.reduceMul, Nat.reduceLeDiff, Nat.reduceLT, Nat.reduceEqDiff, Nat.reduceBEq, ↓reduceIte, reduceCtorEq])
  · intro F2 ih2 a b
    show Ok _ _ _
    have ih2 : ∀ (a : List GNode) (b : List GNode) (i : Int), Ok (F2 a b i) _ _ := ih2
    rw [den_ev FTA (fn := k_laws_eqNodeS) rfl (xOf_none rfl rfl _) (Nat.le_of_ble_eq_true rfl)]
    simp only [SSA, RS, c_laws_eqNodeS, k_laws_eqNodeS, Nat.reduceAdd, Nat.reduceSub, Nat.reduceMul, Nat.reduceLeDiff, Nat.reduceLT, Nat.reduceEqDiff, Nat.reduceBEq, ↓reduceIte, reduceCtorEq]
    repeat' first
      | with_reducible exact Ok_none
      | ((with_reducible refine Ok_ret ?_); first | rfl | (simp only [SSA, RS, e_laws_eqNodeS, Nat.reduceAdd, Nat.reduceSub, Nat.reduceMul, Nat.reduceLeDiff, Nat.reduceLT, Nat.reduceEqDiff, Nat.reduceBEq, ↓reduceIte, reduceCtorEq]; done))
      | ((with_reducible refine Ok_tail (ih2 _ _ _) ?_); first | rfl | (simp only [SSA, RS, c_laws_eqNodeS, Nat.reduceAdd, Nat.reduceSub, Nat.reduceMul, Nat.reduceLeDiff, Nat.reduceLT, Nat.reduceEqDiff, Nat.reduceBEq, ↓reduceIte, reduceCtorEq]; done) | (simp only [SSA, RS, c_laws_eqNodeS, Nat.reduceAdd, Nat.reduceSub, Nat.reduceMul, Nat.reduceLeDiff, Nat.reduceLT, Nat.reduceEqDiff, Nat.reduceBEq, ↓reduceIte, reduceCtorEq]; rfl))
      | ((first | with_reducible refine Ok_if (fun h => ?_) (fun h => ?_)) <;> simp only [SSA, RS, *, Nat.reduceAdd, Nat.reduceSub, Nat.reduceMul, Nat.reduceLeDiff, Nat.reduceLT, Nat.reduceEqDiff, Nat.reduceBEq, ↓reduceIte, reduceCtorEq])
  · intro F0 F2 ih0 ih2 a b i
    show Ok _ _ _
    have ih0 : ∀ (a : GNode) (b : GNode), Ok (F0 a b) _ _ := ih0
    have ih2 : ∀ (a : List GNode) (b : List GNode) (i : Int), Ok (F2 a b i) _ _ := ih2
    rw [ev_loop]
    have g0 := ih0; try simp only [SSA, RS, Nat.reduceAdd, Nat.reduceSub, Nat.reduceMul, Nat.reduceLeDiff, Nat.reduceLT, Nat.reduceEqDiff, Nat.reduceBEq, ↓reduceIte, reduceCtorEq] at g0
    simp only [SSA, RS, c_laws_eqNodeS, k_laws_eqNodeS_l14, k_laws_eqNodeS_r10, e_laws_eqNode, Nat.reduceAdd, Nat.reduceSub, Nat.reduceMul, Nat.reduceLeDiff, Nat.reduceLT, Nat.reduceEqDiff, Nat.reduceBEq, ↓reduceIte, reduceCtorEq]
    repeat' first
      | with_reducible exact Ok_none
      | ((with_reducible refine Ok_ret ?_); first | rfl | (simp only [SSA, RS, e_laws_eqNodeS, Nat.reduceAdd, Nat.reduceSub, Nat.reduceMul, Nat.reduceLeDiff, Nat.reduceLT, Nat.reduceEqDiff, Nat.reduceBEq, ↓reduceIte, reduceCtorEq]; done))
      | ((with_reducible refine Ok_tail (ih2 _ _ _) ?_); first | rfl | (simp only [SSA, RS, c_laws_eqNodeS, Nat.reduceAdd, Nat.reduceSub, Nat.reduceMul, Nat.reduceLeDiff, Nat.reduceLT, Nat.reduceEqDiff, Nat.reduceBEq, ↓reduceIte, reduceCtorEq]; done) | (simp only [SSA, RS, c_laws_eqNodeS, Nat.reduceAdd, Nat.reduceSub, Nat.reduceMul, Nat.reduceLeDiff, Nat.reduceLT, Nat.reduceEqDiff, Nat.reduceBEq, ↓reduceIte, reduceCtorEq]; rfl))
      | ((first | with_reducible refine Ok_if (fun h => ?_) (fun h => ?_) | with_reducible refine Ok_get fun a h => ?_ | with_reducible refine Ok_call (g0 _ _) fun v => ?_ | refine Ok_call (g0 _ _) fun v => ?_) <;> simp only [SSA, RS, *, k_laws_eqNodeS_r10, e_laws_eqNode, Nat.reduceAdd, Nat.reduceSub, Nat.reduceMul, Nat.reduceLeDiff, Nat.reduceLT, Nat.reduceEqDiff, Nat.reduceBEq, ↓reduceIte, reduceCtorEq])
theorem laws_eqNode_ok (a : GNode) (b : GNode) : Ok (laws_eqNode a b) e_laws_eqNode (dn FTA n_laws_eqNode [.agg (((GNode.row false) a).map .t), .agg (((GNode.row false) b).map .t)]) := G_laws_eqNode.1 a b
theorem laws_eqNodeS_ok (a : List GNode) (b : List GNode) : Ok (laws_eqNodeS a b) e_laws_eqNodeS (dn FTA n_laws_eqNodeS [.t (.sl false (a.map (GNode.row false))), .t (.sl false (b.map (GNode.row false)))]) := G_laws_eqNode.2.1 a b
theorem laws_eqNodeS_l14_ok (a : List GNode) (b : List GNode) (i : Int) : Ok (laws_eqNodeS_l14 a b i) e_laws_eqNodeS (ev FTA c_laws_eqNodeS (.loop k_laws_eqNodeS_l14) [.lv 0, .th k_laws_eqNodeS_r10] (putS (List.replicate 27 .dead) [(0, .t (.sl false (a.map (GNode.row false)))), (1, .t (.sl false (b.map (GNode.row false)))), (5, .t (.v (.int .i64 i)))]) (putR (List.replicate 27 []) [])) := G_laws_eqNode.2.2 a b i

def e_laws_eqIntS (r : Bool) : Res := ⟨[.t (.v (.bool r))], []⟩
def c_laws_eqIntS : Cx := ⟨2, [0, 0], [.tmp 4]⟩
theorem laws_eqIntS_l14_ok' (a : List Int) (b : List Int) : ∀ (i : Int), Ok (laws_eqIntS_l14 a b i) e_laws_eqIntS (ev FTA c_laws_eqIntS (.loop k_laws_eqIntS_l14) [.lv 0, .th k_laws_eqIntS_r10] (putS (List.replicate 26 .dead) [(0, .t (.sl false (a.map rI))), (1, .t (.sl false (b.map rI))), (5, .t (.v (.int .i64 i)))]) (putR (List.replicate 26 []) [])) := by
  unfold Ok
  refine laws_eqIntS_l14.partial_correctness a b _ ?_
  intro F ih i
  show Ok _ _ _
  have ih : ∀ (i : Int), Ok (F i) _ _ := ih
  rw [ev_loop]
  simp only [SSA, RS, c_laws_eqIntS, k_laws_eqIntS_l14, k_laws_eqIntS_r10, Nat.reduceAdd, Nat.reduceSub, Nat.reduceMul, Nat.reduceLeDiff, Nat.reduceLT, Nat.reduceEqDiff, Nat.reduceBEq, ↓reduceIte, reduceCtorEq]
  repeat' first
    | with_reducible exact Ok_none
    | ((with_reducible refine Ok_ret ?_); first | rfl | (simp only [SSA, RS, e_laws_eqIntS, Nat.reduceAdd, Nat.reduceSub, Nat.reduceMul, Nat.reduceLeDiff, Nat.reduceLT, Nat.reduceEqDiff, Nat.reduceBEq, ↓reduceIte, reduceCtorEq]; done))
    | ((with_reducible refine Ok_tail (ih _) ?_); first | rfl | (simp only [SSA, RS, c_laws_eqIntS, Nat.reduceAdd, Nat.reduceSub, Nat.reduceMul, Nat.reduceLeDiff, Nat.reduceLT, Nat.reduceEqDiff, Nat.reduceBEq, ↓reduceIte, reduceCtorEq]; done) | (simp only [SSA, RS, c_laws_eqIntS, Nat.reduceAdd, Nat.reduceSub, Nat.reduceMul, Nat.reduceLeDiff, Nat.reduceLT, Nat.reduceEqDiff, Nat.reduceBEq, ↓reduceIte, reduceCtorEq]; rfl))
    | ((first | with_reducible refine Ok_if (fun h => ?_) (fun h => ?_) | with_reducible refine Ok_get fun a h => ?_) <;> simp only [SSA, RS, *, k_laws_eqIntS_r10, Nat.reduceAdd, Nat.reduceSub, Nat.reduceMul, Nat.reduceLeDiff, Nat.reduceLT, Nat.reduceEqDiff, Nat.reduceBEq, ↓reduceIte, reduceCtorEq])
theorem laws_eqIntS_l14_ok (a : List Int) (b : List Int) (i : Int) : Ok (laws_eqIntS_l14 a b i) e_laws_eqIntS (ev FTA c_laws_eqIntS (.loop k_laws_eqIntS_l14) [.lv 0, .th k_laws_eqIntS_r10] (putS (List.replicate 26 .dead) [(0, .t (.sl false (a.map rI))), (1, .t (.sl false (b.map rI))), (5, .t (.v (.int .i64 i)))]) (putR (List.replicate 26 []) [])) := laws_eqIntS_l14_ok' a b i

theorem laws_eqIntS_ok : ∀ (a : List Int) (b : List Int), Ok (laws_eqIntS a b) e_laws_eqIntS (dn FTA n_laws_eqIntS [.t (.sl false (a.map rI)), .t (.sl false (b.map rI))]) := by
  intro a b
  rw [den_ev FTA (fn := k_laws_eqIntS) rfl (xOf_none rfl rfl _) (Nat.le_of_ble_eq_true rfl)]
  simp only [SSA, RS, c_laws_eqIntS, k_laws_eqIntS, laws_eqIntS, Nat.reduceAdd, Nat.reduceSub, Nat.reduceMul, Nat.reduceLeDiff, Nat.reduceLT, Nat.reduceEqDiff, Nat.reduceBEq, ↓reduceIte, reduceCtorEq]
  repeat' first
    | with_reducible exact Ok_none
    | ((with_reducible refine Ok_ret ?_); first | rfl | (simp only [SSA, RS, e_laws_eqIntS, Nat.reduceAdd, Nat.reduceSub, Nat.reduceMul, Nat.reduceLeDiff, Nat.reduceLT, Nat.reduceEqDiff, Nat.reduceBEq, ↓reduceIte, reduceCtorEq]; done))
    | ((with_reducible refine Ok_tail (laws_eqIntS_l14_ok _ _ _) ?_); first | rfl | (simp only [SSA, RS, c_laws_eqIntS, Nat.reduceAdd, Nat.reduceSub, Nat.reduceMul, Nat.reduceLeDiff, Nat.reduceLT, Nat.reduceEqDiff, Nat.reduceBEq, ↓reduceIte, reduceCtorEq]; done) | (simp only [SSA, RS, c_laws_eqIntS, Nat.reduceAdd, Nat.reduceSub, Nat.reduceMul, Nat.reduceLeDiff, Nat.reduceLT, Nat.reduceEqDiff, Nat.reduceBEq, ↓reduceIte, reduceCtorEq]; rfl))
    | ((first | with_reducible refine Ok_if (fun h => ?_) (fun h => ?_)) <;> simp only [SSA, RS, *, Nat.reduceAdd, Nat.reduceSub, Nat.reduceMul, Nat.reduceLeDiff, Nat.reduceLT, Nat.reduceEqDiff, Nat.reduceBEq, ↓reduceIte, reduceCtorEq])

def e_laws_markText (r : ByteArray) : Res := ⟨[.t (.v (.string r))], []⟩
def c_laws_markText : Cx := ⟨1, [0], [.tmp 2]⟩
theorem laws_markText_l14_ok' : ∀ (k1 : Int) (out : ByteArray), Ok (laws_markText_l14 k1 out) e_laws_markText (ev FTA c_laws_markText (.loop k_laws_markText_l14) [.lv 0, .th k_laws_markText_r12] (putS (List.replicate 20 .dead) [(0, .t (.v (.int .i64 k1))), (3, .t (.v (.string out)))]) (putR (List.replicate 20 []) [])) := by
  unfold Ok
  refine laws_markText_l14.partial_correctness _ ?_
  intro F ih k1 out
  show Ok _ _ _
  have ih : ∀ (k1 : Int) (out : ByteArray), Ok (F k1 out) _ _ := ih
  rw [ev_loop]
  simp only [SSA, RS, c_laws_markText, k_laws_markText_l14, k_laws_markText_r12, Nat.reduceAdd, Nat.reduceSub, Nat.reduceMul, Nat.reduceLeDiff, Nat.reduceLT, Nat.reduceEqDiff, Nat.reduceBEq, ↓reduceIte, reduceCtorEq]
  repeat' first
    | with_reducible exact Ok_none
    | ((with_reducible refine Ok_ret ?_); first | rfl | (simp only [SSA, RS, e_laws_markText, Nat.reduceAdd, Nat.reduceSub, Nat.reduceMul, Nat.reduceLeDiff, Nat.reduceLT, Nat.reduceEqDiff, Nat.reduceBEq, ↓reduceIte, reduceCtorEq]; done))
    | ((with_reducible refine Ok_tail (ih _ _) ?_); first | rfl | (simp only [SSA, RS, c_laws_markText, Nat.reduceAdd, Nat.reduceSub, Nat.reduceMul, Nat.reduceLeDiff, Nat.reduceLT, Nat.reduceEqDiff, Nat.reduceBEq, ↓reduceIte, reduceCtorEq]; done) | (simp only [SSA, RS, c_laws_markText, Nat.reduceAdd, Nat.reduceSub, Nat.reduceMul, Nat.reduceLeDiff, Nat.reduceLT, Nat.reduceEqDiff, Nat.reduceBEq, ↓reduceIte, reduceCtorEq]; rfl))
    | ((first | with_reducible refine Ok_if (fun h => ?_) (fun h => ?_) | with_reducible refine Ok_prim (p := catS _ _) fun a h => ?_ | with_reducible refine Ok_prim (p := quoI _ _) fun a h => ?_ | with_reducible refine Ok_prim (p := remI _ _) fun a h => ?_) <;> simp only [SSA, RS, *, k_laws_markText_r12, Nat.reduceAdd, Nat.reduceSub, Nat.reduceMul, Nat.reduceLeDiff, Nat.reduceLT, Nat.reduceEqDiff, Nat.reduceBEq, ↓reduceIte, reduceCtorEq])
theorem laws_markText_l14_ok (k1 : Int) (out : ByteArray) : Ok (laws_markText_l14 k1 out) e_laws_markText (ev FTA c_laws_markText (.loop k_laws_markText_l14) [.lv 0, .th k_laws_markText_r12] (putS (List.replicate 20 .dead) [(0, .t (.v (.int .i64 k1))), (3, .t (.v (.string out)))]) (putR (List.replicate 20 []) [])) := laws_markText_l14_ok' k1 out

theorem laws_markText_ok : ∀ (k : Int), Ok (laws_markText k) e_laws_markText (dn FTA n_laws_markText [.t (.v (.int .i64 k))]) := by
  intro k
  rw [den_ev FTA (fn := k_laws_markText) rfl (xOf_none rfl rfl _) (Nat.le_of_ble_eq_true rfl)]
  simp only [SSA, RS, c_laws_markText, k_laws_markText, laws_markText, Nat.reduceAdd, Nat.reduceSub, Nat.reduceMul, Nat.reduceLeDiff, Nat.reduceLT, Nat.reduceEqDiff, Nat.reduceBEq, ↓reduceIte, reduceCtorEq]
  repeat' first
    | with_reducible exact Ok_none
    | ((with_reducible refine Ok_ret ?_); first | rfl | (simp only [SSA, RS, e_laws_markText, Nat.reduceAdd, Nat.reduceSub, Nat.reduceMul, Nat.reduceLeDiff, Nat.reduceLT, Nat.reduceEqDiff, Nat.reduceBEq, ↓reduceIte, reduceCtorEq]; done))
    | ((with_reducible refine Ok_tail (laws_markText_l14_ok _ _) ?_); first | rfl | (simp only [SSA, RS, c_laws_markText, Nat.reduceAdd, Nat.reduceSub, Nat.reduceMul, Nat.reduceLeDiff, Nat.reduceLT, Nat.reduceEqDiff, Nat.reduceBEq, ↓reduceIte, reduceCtorEq]; done) | (simp only [SSA, RS, c_laws_markText, Nat.reduceAdd, Nat.reduceSub, Nat.reduceMul, Nat.reduceLeDiff, Nat.reduceLT, Nat.reduceEqDiff, Nat.reduceBEq, ↓reduceIte, reduceCtorEq]; rfl))
    | ((first | with_reducible refine Ok_if (fun h => ?_) (fun h => ?_)) <;> simp only [SSA, RS, *, Nat.reduceAdd, Nat.reduceSub, Nat.reduceMul, Nat.reduceLeDiff, Nat.reduceLT, Nat.reduceEqDiff, Nat.reduceBEq, ↓reduceIte, reduceCtorEq])

def e_laws_markDeclS (r : Int × List (GDecl)) : Res := ⟨[.t (.v (.int .i64 r.1))], [some (r.2.map GDecl.row)]⟩
def c_laws_markDeclS : Cx := ⟨2, [1, 0], [.tmp 4]⟩
theorem laws_markDeclS_l6_ok' : ∀ (a1 : List (GDecl)) (k1 : Int) (i : Int), Ok (laws_markDeclS_l6 a1 k1 i) e_laws_markDeclS (ev FTA c_laws_markDeclS (.loop k_laws_markDeclS_l6) [.lv 0, .th k_laws_markDeclS_r2] (putS (List.replicate 29 .dead) [(0, .ref (0, 0) a1.length), (1, .t (.v (.int .i64 k1))), (5, .t (.v (.int .i64 i)))]) (putR (List.replicate 29 []) [(0, [.mem (a1.map GDecl.row) 0 true])])) := by
  unfold Ok
  refine laws_markDeclS_l6.partial_correctness _ ?_
  intro F ih a1 k1 i
  show Ok _ _ _
  have ih : ∀ (a1 : List (GDecl)) (k1 : Int) (i : Int), Ok (F a1 k1 i) _ _ := ih
  rw [ev_loop]
  have g0 := laws_markText_ok; try simp only [SSA, RS, Nat.reduceAdd, Nat.reduceSub, Nat.reduceMul, Nat.reduceLeDiff, Nat.reduceLT, Nat.reduceEqDiff, Nat.reduceBEq, ↓reduceIte, reduceCtorEq] at g0
  simp only [SSA, RS, c_laws_markDeclS, k_laws_markDeclS_l6, k_laws_markDeclS_r2, e_laws_markText, Nat.reduceAdd, Nat.reduceSub, Nat.reduceMul, Nat.reduceLeDiff, Nat.reduceLT, Nat.reduceEqDiff, Nat.reduceBEq, ↓reduceIte, reduceCtorEq]
  repeat' first
    | with_reducible exact Ok_none
    | ((with_reducible refine Ok_ret ?_); first | rfl | (simp only [SSA, RS, e_laws_markDeclS, Nat.reduceAdd, Nat.reduceSub, Nat.reduceMul, Nat.reduceLeDiff, Nat.reduceLT, Nat.reduceEqDiff, Nat.reduceBEq, ↓reduceIte, reduceCtorEq]; done))
    | ((with_reducible refine Ok_tail (ih _ _ _) ?_); first | rfl | (simp only [SSA, RS, c_laws_markDeclS, Nat.reduceAdd, Nat.reduceSub, Nat.reduceMul, Nat.reduceLeDiff, Nat.reduceLT, Nat.reduceEqDiff, Nat.reduceBEq, ↓reduceIte, reduceCtorEq]; done) | (simp only [SSA, RS, c_laws_markDeclS, Nat.reduceAdd, Nat.reduceSub, Nat.reduceMul, Nat.reduceLeDiff, Nat.reduceLT, Nat.reduceEqDiff, Nat.reduceBEq, ↓reduceIte, reduceCtorEq]; rfl))
    | ((first | with_reducible refine Ok_if (fun h => ?_) (fun h => ?_) | with_reducible refine Ok_get fun a h => ?_ | with_reducible refine Ok_call (g0 _) fun v => ?_ | refine Ok_call (g0 _) fun v => ?_) <;> simp only [SSA, RS, *, k_laws_markDeclS_r2, e_laws_markText, Nat.reduceAdd, Nat.reduceSub, Nat.reduceMul, Nat.reduceLeDiff, Nat.reduceLT, Nat.reduceEqDiff, Nat.reduceBEq, ↓reduceIte, reduceCtorEq])
theorem laws_markDeclS_l6_ok (a1 : List (GDecl)) (k1 : Int) (i : Int) : Ok (laws_markDeclS_l6 a1 k1 i) e_laws_markDeclS (ev FTA c_laws_markDeclS (.loop k_laws_markDeclS_l6) [.lv 0, .th k_laws_markDeclS_r2] (putS (List.replicate 29 .dead) [(0, .ref (0, 0) a1.length), (1, .t (.v (.int .i64 k1))), (5, .t (.v (.int .i64 i)))]) (putR (List.replicate 29 []) [(0, [.mem (a1.map GDecl.row) 0 true])])) := laws_markDeclS_l6_ok' a1 k1 i

theorem laws_markDeclS_ok : ∀ (a : List (GDecl)) (k : Int), Ok (laws_markDeclS a k) e_laws_markDeclS (dn FTA n_laws_markDeclS [.ln (a.map GDecl.row), .t (.v (.int .i64 k))]) := by
  intro a k
  rw [den_ev FTA (fn := k_laws_markDeclS) rfl (xOf_none rfl rfl _) (Nat.le_of_ble_eq_true rfl)]
  simp only [SSA, RS, c_laws_markDeclS, k_laws_markDeclS, laws_markDeclS, Nat.reduceAdd, Nat.reduceSub, Nat.reduceMul, Nat.reduceLeDiff, Nat.reduceLT, Nat.reduceEqDiff, Nat.reduceBEq, ↓reduceIte, reduceCtorEq]
  repeat' first
    | with_reducible exact Ok_none
    | ((with_reducible refine Ok_ret ?_); first | rfl | (simp only [SSA, RS, e_laws_markDeclS, Nat.reduceAdd, Nat.reduceSub, Nat.reduceMul, Nat.reduceLeDiff, Nat.reduceLT, Nat.reduceEqDiff, Nat.reduceBEq, ↓reduceIte, reduceCtorEq]; done))
    | ((with_reducible refine Ok_tail (laws_markDeclS_l6_ok _ _ _) ?_); first | rfl | (simp only [SSA, RS, c_laws_markDeclS, Nat.reduceAdd, Nat.reduceSub, Nat.reduceMul, Nat.reduceLeDiff, Nat.reduceLT, Nat.reduceEqDiff, Nat.reduceBEq, ↓reduceIte, reduceCtorEq]; done) | (simp only [SSA, RS, c_laws_markDeclS, Nat.reduceAdd, Nat.reduceSub, Nat.reduceMul, Nat.reduceLeDiff, Nat.reduceLT, Nat.reduceEqDiff, Nat.reduceBEq, ↓reduceIte, reduceCtorEq]; rfl))

def e_laws_markAttrS (r : Int × List (GAttr)) : Res := ⟨[.t (.v (.int .i64 r.1))], [some (r.2.map GAttr.row)]⟩
def c_laws_markAttrS : Cx := ⟨2, [1, 0], [.tmp 4]⟩
theorem laws_markAttrS_l6_ok' : ∀ (a1 : List (GAttr)) (k1 : Int) (i : Int), Ok (laws_markAttrS_l6 a1 k1 i) e_laws_markAttrS (ev FTA c_laws_markAttrS (.loop k_laws_markAttrS_l6) [.lv 0, .th k_laws_markAttrS_r2] (putS (List.replicate 45 .dead) [(0, .ref (0, 0) a1.length), (1, .t (.v (.int .i64 k1))), (5, .t (.v (.int .i64 i)))]) (putR (List.replicate 45 []) [(0, [.mem (a1.map GAttr.row) 0 true])])) := by
  unfold Ok
  refine laws_markAttrS_l6.partial_correctness _ ?_
  intro F ih a1 k1 i
  show Ok _ _ _
  have ih : ∀ (a1 : List (GAttr)) (k1 : Int) (i : Int), Ok (F a1 k1 i) _ _ := ih
  rw [ev_loop]
  have g0 := laws_markText_ok; try simp only [SSA, RS, Nat.reduceAdd, Nat.reduceSub, Nat.reduceMul, Nat.reduceLeDiff, Nat.reduceLT, Nat.reduceEqDiff, Nat.reduceBEq, ↓reduceIte, reduceCtorEq] at g0
  simp only [SSA, RS, c_laws_markAttrS, k_laws_markAttrS_l6, k_laws_markAttrS_r2, e_laws_markText, Nat.reduceAdd, Nat.reduceSub, Nat.reduceMul, Nat.reduceLeDiff, Nat.reduceLT, Nat.reduceEqDiff, Nat.reduceBEq, ↓reduceIte, reduceCtorEq]
  repeat' first
    | with_reducible exact Ok_none
    | ((with_reducible refine Ok_ret ?_); first | rfl | (simp only [SSA, RS, e_laws_markAttrS, Nat.reduceAdd, Nat.reduceSub, Nat.reduceMul, Nat.reduceLeDiff, Nat.reduceLT, Nat.reduceEqDiff, Nat.reduceBEq, ↓reduceIte, reduceCtorEq]; done))
    | ((with_reducible refine Ok_tail (ih _ _ _) ?_); first | rfl | (simp only [SSA, RS, c_laws_markAttrS, Nat.reduceAdd, Nat.reduceSub, Nat.reduceMul, Nat.reduceLeDiff, Nat.reduceLT, Nat.reduceEqDiff, Nat.reduceBEq, ↓reduceIte, reduceCtorEq]; done) | (simp only [SSA, RS, c_laws_markAttrS, Nat.reduceAdd, Nat.reduceSub, Nat.reduceMul, Nat.reduceLeDiff, Nat.reduceLT, Nat.reduceEqDiff, Nat.reduceBEq, ↓reduceIte, reduceCtorEq]; rfl))
    | ((first | with_reducible refine Ok_if (fun h => ?_) (fun h => ?_) | with_reducible refine Ok_get fun a h => ?_ | with_reducible refine Ok_call (g0 _) fun v => ?_ | refine Ok_call (g0 _) fun v => ?_) <;> simp only [SSA, RS, *, k_laws_markAttrS_r2, e_laws_markText, Nat.reduceAdd, Nat.reduceSub, Nat.reduceMul, Nat.reduceLeDiff, Nat.reduceLT, Nat.reduceEqDiff, Nat.reduceBEq, ↓reduceIte, reduceCtorEq])
theorem laws_markAttrS_l6_ok (a1 : List (GAttr)) (k1 : Int) (i : Int) : Ok (laws_markAttrS_l6 a1 k1 i) e_laws_markAttrS (ev FTA c_laws_markAttrS (.loop k_laws_markAttrS_l6) [.lv 0, .th k_laws_markAttrS_r2] (putS (List.replicate 45 .dead) [(0, .ref (0, 0) a1.length), (1, .t (.v (.int .i64 k1))), (5, .t (.v (.int .i64 i)))]) (putR (List.replicate 45 []) [(0, [.mem (a1.map GAttr.row) 0 true])])) := laws_markAttrS_l6_ok' a1 k1 i

theorem laws_markAttrS_ok : ∀ (a : List (GAttr)) (k : Int), Ok (laws_markAttrS a k) e_laws_markAttrS (dn FTA n_laws_markAttrS [.ln (a.map GAttr.row), .t (.v (.int .i64 k))]) := by
  intro a k
  rw [den_ev FTA (fn := k_laws_markAttrS) rfl (xOf_none rfl rfl _) (Nat.le_of_ble_eq_true rfl)]
  simp only [SSA, RS, c_laws_markAttrS, k_laws_markAttrS, laws_markAttrS, Nat.reduceAdd, Nat.reduceSub, Nat.reduceMul, Nat.reduceLeDiff, Nat.reduceLT, Nat.reduceEqDiff, Nat.reduceBEq, ↓reduceIte, reduceCtorEq]
  repeat' first
    | with_reducible exact Ok_none
    | ((with_reducible refine Ok_ret ?_); first | rfl | (simp only [SSA, RS, e_laws_markAttrS, Nat.reduceAdd, Nat.reduceSub, Nat.reduceMul, Nat.reduceLeDiff, Nat.reduceLT, Nat.reduceEqDiff, Nat.reduceBEq, ↓reduceIte, reduceCtorEq]; done))
    | ((with_reducible refine Ok_tail (laws_markAttrS_l6_ok _ _ _) ?_); first | rfl | (simp only [SSA, RS, c_laws_markAttrS, Nat.reduceAdd, Nat.reduceSub, Nat.reduceMul, Nat.reduceLeDiff, Nat.reduceLT, Nat.reduceEqDiff, Nat.reduceBEq, ↓reduceIte, reduceCtorEq]; done) | (simp only [SSA, RS, c_laws_markAttrS, Nat.reduceAdd, Nat.reduceSub, Nat.reduceMul, Nat.reduceLeDiff, Nat.reduceLT, Nat.reduceEqDiff, Nat.reduceBEq, ↓reduceIte, reduceCtorEq]; rfl))

def e_laws_markNodeS (r : Int × List (GNode)) : Res := ⟨[.t (.v (.int .i64 r.1))], [some (r.2.map (GNode.row true))]⟩
def c_laws_markNodeS : Cx := ⟨2, [1, 0], [.tmp 4]⟩
theorem G_laws_markNodeS : (∀ (a : List (GNode)) (k : Int), Ok (laws_markNodeS a k) e_laws_markNodeS (dn FTA n_laws_markNodeS [.ln (a.map (GNode.row true)), .t (.v (.int .i64 k))])) ∧
    (∀ (a1 : List (GNode)) (k1 : Int) (i : Int), Ok (laws_markNodeS_l6 a1 k1 i) e_laws_markNodeS (ev FTA c_laws_markNodeS (.loop k_laws_markNodeS_l6) [.lv 0, .th k_laws_markNodeS_r2] (putS (List.replicate 73 .dead) [(0, .ref (0, 0) a1.length), (1, .t (.v (.int .i64 k1))), (5, .t (.v (.int .i64 i)))]) (putR (List.replicate 73 []) [(0, [.mem (a1.map (GNode.row true)) 0 true])]))) := by
  unfold Ok
  refine laws_markNodeS.mutual_partial_correctness _ _ ?_ ?_ 
  · intro F1 ih1 a k
    show Ok _ _ _
    have ih1 : ∀ (a1 : List (GNode)) (k1 : Int) (i : Int), Ok (F1 a1 k1 i) _ _ := ih1
    rw [den_ev FTA (fn := k_laws_markNodeS) rfl (xOf_none rfl rfl _) (Nat.le_of_ble_eq_true rfl)]
    simp only [SSA, RS, c_laws_markNodeS, k_laws_markNodeS, Nat.reduceAdd, Nat.reduceSub, Nat.reduceMul, Nat.reduceLeDiff, Nat.reduceLT, Nat.reduceEqDiff, Nat.reduceBEq, ↓reduceIte, reduceCtorEq]
    repeat' first
      | with_reducible exact Ok_none
      | ((with_reducible refine Ok_ret ?_); first | rfl | (simp only [SSA, RS, e_laws_markNodeS, Nat.reduceAdd, Nat.reduceSub, Nat.reduceMul, Nat.reduceLeDiff, Nat.reduceLT, Nat.reduceEqDiff, Nat.reduceBEq, ↓reduceIte, reduceCtorEq]; done))
      | ((with_reducible refine Ok_tail (ih1 _ _ _) ?_); first | rfl | (simp only [SSA, RS, c_laws_markNodeS, Nat.reduceAdd, Nat.reduceSub, Nat.reduceMul, Nat.reduceLeDiff, Nat.reduceLT, Nat.reduceEqDiff, Nat.reduceBEq, ↓reduceIte, reduceCtorEq]; done) | (simp only [SSA, RS, c_laws_markNodeS, Nat.reduceAdd, Nat.reduceSub, Nat.reduceMul, Nat.reduceLeDiff, Nat.reduceLT, Nat.reduceEqDiff, Nat.reduceBEq, ↓reduceIte, reduceCtorEq]; rfl))
  · intro F0 F1 ih0 ih1 a1 k1 i
    show Ok _ _ _
    have ih0 : ∀ (a : List (GNode)) (k : Int), Ok (F0 a k) _ _ := ih0
    have ih1 : ∀ (a1 : List (GNode)) (k1 : Int) (i : Int), Ok (F1 a1 k1 i) _ _ := ih1
    rw [ev_loop]
    have g0 := laws_markText_ok; try simp only [SSA, RS, Nat.reduceAdd, Nat.reduceSub, Nat.reduceMul, Nat.reduceLeDiff, Nat.reduceLT, Nat.reduceEqDiff, Nat.reduceBEq, ↓reduceIte, reduceCtorEq] at g0
    have g1 := laws_markDeclS_ok; try simp only [SSA, RS, Nat.reduceAdd, Nat.reduceSub, Nat.reduceMul, Nat.reduceLeDiff, Nat.reduceLT, Nat.reduceEqDiff, Nat.reduceBEq, ↓reduceIte, reduceCtorEq] at g1
    have g2 := laws_markAttrS_ok; try simp only [SSA, RS, Nat.reduceAdd, Nat.reduceSub, Nat.reduceMul, Nat.reduceLeDiff, Nat.reduceLT, Nat.reduceEqDiff, Nat.reduceBEq, ↓reduceIte, reduceCtorEq] at g2
    have g3 := ih0; try simp only [SSA, RS, Nat.reduceAdd, Nat.reduceSub, Nat.reduceMul, Nat.reduceLeDiff, Nat.reduceLT, Nat.reduceEqDiff, Nat.reduceBEq, ↓reduceIte, reduceCtorEq] at g3
    simp only [SSA, RS, c_laws_markNodeS, k_laws_markNodeS_l6, k_laws_markNodeS_r2, e_laws_markAttrS, e_laws_markDeclS, e_laws_markNodeS, e_laws_markText, Nat.reduceAdd, Nat.reduceSub, Nat.reduceMul, Nat.reduceLeDiff, Nat.reduceLT, Nat.reduceEqDiff, Nat.reduceBEq, ↓reduceIte, reduceCtorEq]
    repeat' first
      | with_reducible exact Ok_none
      | ((with_reducible refine Ok_ret ?_); first | rfl | (simp only [SSA, RS, e_laws_markNodeS, Nat.reduceAdd, Nat.reduceSub, Nat.reduceMul, Nat.reduceLeDiff, Nat.reduceLT, Nat.reduceEqDiff, Nat.reduceBEq, ↓reduceIte, reduceCtorEq]; done))
      | ((with_reducible refine Ok_tail (ih1 _ _ _) ?_); first | rfl | (simp only [SSA, RS, c_laws_markNodeS, Nat.reduceAdd, Nat.reduceSub, Nat.reduceMul, Nat.reduceLeDiff, Nat.reduceLT, Nat.reduceEqDiff, Nat.reduceBEq, ↓reduceIte, reduceCtorEq]; done) | (simp only [SSA, RS, c_laws_markNodeS, Nat.reduceAdd, Nat.reduceSub, Nat.reduceMul, Nat.reduceLeDiff, Nat.reduceLT, Nat.reduceEqDiff, Nat.reduceBEq, ↓reduceIte, reduceCtorEq]; rfl))
      | ((first | with_reducible refine Ok_if (fun h => ?_) (fun h => ?_) | with_reducible refine Ok_get fun a h => ?_ | with_reducible refine Ok_call (g0 _) fun v => ?_ | with_reducible refine Ok_call (g1 _ _) fun v => ?_ | with_reducible refine Ok_call (g2 _ _) fun v => ?_ | with_reducible refine Ok_call (g3 _ _) fun v => ?_ | refine Ok_call (g0 _) fun v => ?_ | refine Ok_call (g1 _ _) fun v => ?_ | refine Ok_call (g2 _ _) fun v => ?_ | refine Ok_call (g3 _ _) fun v => ?_) <;> simp only [SSA, RS, *, k_laws_markNodeS_r2, e_laws_markAttrS, e_laws_markDeclS, e_laws_markNodeS, e_laws_markText, Nat.reduceAdd, Nat.reduceSub, Nat.reduceMul, Nat.reduceLeDiff, Nat.reduceLT, Nat.reduceEqDiff, Nat.reduceBEq, ↓reduceIte, reduceCtorEq])
theorem laws_markNodeS_ok (a : List (GNode)) (k : Int) : Ok (laws_markNodeS a k) e_laws_markNodeS (dn FTA n_laws_markNodeS [.ln (a.map (GNode.row true)), .t (.v (.int .i64 k))]) := G_laws_markNodeS.1 a k
theorem laws_markNodeS_l6_ok (a1 : List (GNode)) (k1 : Int) (i : Int) : Ok (laws_markNodeS_l6 a1 k1 i) e_laws_markNodeS (ev FTA c_laws_markNodeS (.loop k_laws_markNodeS_l6) [.lv 0, .th k_laws_markNodeS_r2] (putS (List.replicate 73 .dead) [(0, .ref (0, 0) a1.length), (1, .t (.v (.int .i64 k1))), (5, .t (.v (.int .i64 i)))]) (putR (List.replicate 73 []) [(0, [.mem (a1.map (GNode.row true)) 0 true])])) := G_laws_markNodeS.2 a1 k1 i

def e_laws_markNode (r : Int × List GDecl × List GAttr × List GNode) : Res := ⟨[.t (.v (.int .i64 r.1))], [some (r.2.1.map GDecl.row), some (r.2.2.1.map GAttr.row), some (r.2.2.2.map (GNode.row true))]⟩
def c_laws_markNode : Cx := ⟨2, [3, 0], [.tmp 4]⟩
theorem laws_markNode_ok : ∀ (a : GNode) (k : Int), Ok (laws_markNode a k) e_laws_markNode (dn FTA n_laws_markNode [.agg [.t (.v (.int .i64 a.Kind)), .t (.v (.string a.Pre)), .t (.v (.string a.Local)), .t (.v (.string a.Uri)), .ln (a.Decls.map GDecl.row), .ln (a.Attrs.map GAttr.row), .ln (a.Kids.map (GNode.row true)), .t (.v (.string a.Text))], .t (.v (.int .i64 k))]) := by
  intro a k
  rw [den_ev FTA (fn := k_laws_markNode) rfl (xOf_none rfl rfl _) (Nat.le_of_ble_eq_true rfl)]
  have g0 := laws_markDeclS_ok; try simp only [SSA, RS, Nat.reduceAdd, Nat.reduceSub, Nat.reduceMul, Nat.reduceLeDiff, Nat.reduceLT, Nat.reduceEqDiff, Nat.reduceBEq, ↓reduceIte, reduceCtorEq] at g0
  have g1 := laws_markAttrS_ok; try simp only [SSA, RS, Nat.reduceAdd, Nat.reduceSub, Nat.reduceMul, Nat.reduceLeDiff, Nat.reduceLT, Nat.reduceEqDiff, Nat.reduceBEq, ↓reduceIte, reduceCtorEq] at g1
  have g2 := laws_markNodeS_ok; try simp only [SSA, RS, Nat.reduceAdd, Nat.reduceSub, Nat.reduceMul, Nat.reduceLeDiff, Nat.reduceLT, Nat.reduceEqDiff, Nat.reduceBEq, ↓reduceIte, reduceCtorEq] at g2
  simp only [SSA, RS, c_laws_markNode, k_laws_markNode, laws_markNode, e_laws_markAttrS, e_laws_markDeclS, e_laws_markNodeS, Nat.reduceAdd, Nat.reduceSub, Nat.reduceMul, Nat.reduceLeDiff, Nat.reduceLT, Nat.reduceEqDiff, Nat.reduceBEq, ↓reduceIte, reduceCtorEq]
  repeat' first
    | with_reducible exact Ok_none
    | ((with_reducible refine Ok_ret ?_); first | rfl | (simp only [SSA, RS, e_laws_markNode, Nat.reduceAdd, Nat.reduceSub, Nat.reduceMul, Nat.reduceLeDiff, Nat.reduceLT, Nat.reduceEqDiff, Nat.reduceBEq, ↓reduceIte, reduceCtorEq]; done))
    | ((first | with_reducible refine Ok_call (g0 _ _) fun v => ?_ | with_reducible refine Ok_call (g1 _ _) fun v => ?_ | with_reducible refine Ok_call (g2 _ _) fun v => ?_ | with_reducible refine Ok_same fun h => ?_ | refine Ok_call (g0 _ _) fun v => ?_ | refine Ok_call (g1 _ _) fun v => ?_ | refine Ok_call (g2 _ _) fun v => ?_) <;> simp only [SSA, RS, *, e_laws_markAttrS, e_laws_markDeclS, e_laws_markNodeS, Nat.reduceAdd, Nat.reduceSub, Nat.reduceMul, Nat.reduceLeDiff, Nat.reduceLT, Nat.reduceEqDiff, Nat.reduceBEq, ↓reduceIte, reduceCtorEq])

def e_laws_markIntS (r : Int × List (Int)) : Res := ⟨[.t (.v (.int .i64 r.1))], [some (r.2.map rI)]⟩
def c_laws_markIntS : Cx := ⟨2, [1, 0], [.tmp 4]⟩
theorem laws_markIntS_l6_ok' : ∀ (a1 : List (Int)) (k1 : Int) (i : Int), Ok (laws_markIntS_l6 a1 k1 i) e_laws_markIntS (ev FTA c_laws_markIntS (.loop k_laws_markIntS_l6) [.lv 0, .th k_laws_markIntS_r2] (putS (List.replicate 19 .dead) [(0, .ref (0, 0) a1.length), (1, .t (.v (.int .i64 k1))), (5, .t (.v (.int .i64 i)))]) (putR (List.replicate 19 []) [(0, [.mem (a1.map rI) 0 true])])) := by
  unfold Ok
  refine laws_markIntS_l6.partial_correctness _ ?_
  intro F ih a1 k1 i
  show Ok _ _ _
  have ih : ∀ (a1 : List (Int)) (k1 : Int) (i : Int), Ok (F a1 k1 i) _ _ := ih
  rw [ev_loop]
  simp only [SSA, RS, c_laws_markIntS, k_laws_markIntS_l6, k_laws_markIntS_r2, Nat.reduceAdd, Nat.reduceSub, Nat.reduceMul, Nat.reduceLeDiff, Nat.reduceLT, Nat.reduceEqDiff, Nat.reduceBEq, ↓reduceIte, reduceCtorEq]
  repeat' first
    | with_reducible exact Ok_none
    | ((with_reducible refine Ok_ret ?_); first | rfl | (simp only [SSA, RS, e_laws_markIntS, Nat.reduceAdd, Nat.reduceSub, Nat.reduceMul, Nat.reduceLeDiff, Nat.reduceLT, Nat.reduceEqDiff, Nat.reduceBEq, ↓reduceIte, reduceCtorEq]; done))
    | ((with_reducible refine Ok_tail (ih _ _ _) ?_); first | rfl | (simp only [SSA, RS, c_laws_markIntS, Nat.reduceAdd, Nat.reduceSub, Nat.reduceMul, Nat.reduceLeDiff, Nat.reduceLT, Nat.reduceEqDiff, Nat.reduceBEq, ↓reduceIte, reduceCtorEq]; done) | (simp only [SSA, RS, c_laws_markIntS, Nat.reduceAdd, Nat.reduceSub, Nat.reduceMul, Nat.reduceLeDiff, Nat.reduceLT, Nat.reduceEqDiff, Nat.reduceBEq, ↓reduceIte, reduceCtorEq]; rfl))
    | ((first | with_reducible refine Ok_if (fun h => ?_) (fun h => ?_) | with_reducible refine Ok_get fun a h => ?_) <;> simp only [SSA, RS, *, k_laws_markIntS_r2, Nat.reduceAdd, Nat.reduceSub, Nat.reduceMul, Nat.reduceLeDiff, Nat.reduceLT, Nat.reduceEqDiff, Nat.reduceBEq, ↓reduceIte, reduceCtorEq])
theorem laws_markIntS_l6_ok (a1 : List (Int)) (k1 : Int) (i : Int) : Ok (laws_markIntS_l6 a1 k1 i) e_laws_markIntS (ev FTA c_laws_markIntS (.loop k_laws_markIntS_l6) [.lv 0, .th k_laws_markIntS_r2] (putS (List.replicate 19 .dead) [(0, .ref (0, 0) a1.length), (1, .t (.v (.int .i64 k1))), (5, .t (.v (.int .i64 i)))]) (putR (List.replicate 19 []) [(0, [.mem (a1.map rI) 0 true])])) := laws_markIntS_l6_ok' a1 k1 i

theorem laws_markIntS_ok : ∀ (a : List (Int)) (k : Int), Ok (laws_markIntS a k) e_laws_markIntS (dn FTA n_laws_markIntS [.ln (a.map rI), .t (.v (.int .i64 k))]) := by
  intro a k
  rw [den_ev FTA (fn := k_laws_markIntS) rfl (xOf_none rfl rfl _) (Nat.le_of_ble_eq_true rfl)]
  simp only [SSA, RS, c_laws_markIntS, k_laws_markIntS, laws_markIntS, Nat.reduceAdd, Nat.reduceSub, Nat.reduceMul, Nat.reduceLeDiff, Nat.reduceLT, Nat.reduceEqDiff, Nat.reduceBEq, ↓reduceIte, reduceCtorEq]
  repeat' first
    | with_reducible exact Ok_none
    | ((with_reducible refine Ok_ret ?_); first | rfl | (simp only [SSA, RS, e_laws_markIntS, Nat.reduceAdd, Nat.reduceSub, Nat.reduceMul, Nat.reduceLeDiff, Nat.reduceLT, Nat.reduceEqDiff, Nat.reduceBEq, ↓reduceIte, reduceCtorEq]; done))
    | ((with_reducible refine Ok_tail (laws_markIntS_l6_ok _ _ _) ?_); first | rfl | (simp only [SSA, RS, c_laws_markIntS, Nat.reduceAdd, Nat.reduceSub, Nat.reduceMul, Nat.reduceLeDiff, Nat.reduceLT, Nat.reduceEqDiff, Nat.reduceBEq, ↓reduceIte, reduceCtorEq]; done) | (simp only [SSA, RS, c_laws_markIntS, Nat.reduceAdd, Nat.reduceSub, Nat.reduceMul, Nat.reduceLeDiff, Nat.reduceLT, Nat.reduceEqDiff, Nat.reduceBEq, ↓reduceIte, reduceCtorEq]; rfl))

def e_laws_markPredS (r : Int × List (GPred)) : Res := ⟨[.t (.v (.int .i64 r.1))], [some (r.2.map GPred.row)]⟩
def c_laws_markPredS : Cx := ⟨2, [1, 0], [.tmp 4]⟩
theorem laws_markPredS_l6_ok' : ∀ (a1 : List (GPred)) (k1 : Int) (i : Int), Ok (laws_markPredS_l6 a1 k1 i) e_laws_markPredS (ev FTA c_laws_markPredS (.loop k_laws_markPredS_l6) [.lv 0, .th k_laws_markPredS_r2] (putS (List.replicate 51 .dead) [(0, .ref (0, 0) a1.length), (1, .t (.v (.int .i64 k1))), (5, .t (.v (.int .i64 i)))]) (putR (List.replicate 51 []) [(0, [.mem (a1.map GPred.row) 0 true])])) := by
  unfold Ok
  refine laws_markPredS_l6.partial_correctness _ ?_
  intro F ih a1 k1 i
  show Ok _ _ _
  have ih : ∀ (a1 : List (GPred)) (k1 : Int) (i : Int), Ok (F a1 k1 i) _ _ := ih
  rw [ev_loop]
  have g0 := laws_markText_ok; try simp only [SSA, RS, Nat.reduceAdd, Nat.reduceSub, Nat.reduceMul, Nat.reduceLeDiff, Nat.reduceLT, Nat.reduceEqDiff, Nat.reduceBEq, ↓reduceIte, reduceCtorEq] at g0
  simp only [SSA, RS, c_laws_markPredS, k_laws_markPredS_l6, k_laws_markPredS_r2, e_laws_markText, Nat.reduceAdd, Nat.reduceSub, Nat.reduceMul, Nat.reduceLeDiff, Nat.reduceLT, Nat.reduceEqDiff, Nat.reduceBEq, ↓reduceIte, reduceCtorEq]
  repeat' first
    | with_reducible exact Ok_none
    | ((with_reducible refine Ok_ret ?_); first | rfl | (simp only [SSA, RS, e_laws_markPredS, Nat.reduceAdd, Nat.reduceSub, Nat.reduceMul, Nat.reduceLeDiff, Nat.reduceLT, Nat.reduceEqDiff, Nat.reduceBEq, ↓reduceIte, reduceCtorEq]; done))
    | ((with_reducible refine Ok_tail (ih _ _ _) ?_); first | rfl | (simp only [SSA, RS, c_laws_markPredS, Nat.reduceAdd, Nat.reduceSub, Nat.reduceMul, Nat.reduceLeDiff, Nat.reduceLT, Nat.reduceEqDiff, Nat.reduceBEq, ↓reduceIte, reduceCtorEq]; done) | (simp only [SSA, RS, c_laws_markPredS, Nat.reduceAdd, Nat.reduceSub, Nat.reduceMul, Nat.reduceLeDiff, Nat.reduceLT, Nat.reduceEqDiff, Nat.reduceBEq, ↓reduceIte, reduceCtorEq]; rfl))
    | ((first | with_reducible refine Ok_if (fun h => ?_) (fun h => ?_) | with_reducible refine Ok_get fun a h => ?_ | with_reducible refine Ok_call (g0 _) fun v => ?_ | refine Ok_call (g0 _) fun v => ?_) <;> simp only [SSA, RS, *, k_laws_markPredS_r2, e_laws_markText, Nat.reduceAdd, Nat.reduceSub, Nat.reduceMul, Nat.reduceLeDiff, Nat.reduceLT, Nat.reduceEqDiff, Nat.reduceBEq, ↓reduceIte, reduceCtorEq])
theorem laws_markPredS_l6_ok (a1 : List (GPred)) (k1 : Int) (i : Int) : Ok (laws_markPredS_l6 a1 k1 i) e_laws_markPredS (ev FTA c_laws_markPredS (.loop k_laws_markPredS_l6) [.lv 0, .th k_laws_markPredS_r2] (putS (List.replicate 51 .dead) [(0, .ref (0, 0) a1.length), (1, .t (.v (.int .i64 k1))), (5, .t (.v (.int .i64 i)))]) (putR (List.replicate 51 []) [(0, [.mem (a1.map GPred.row) 0 true])])) := laws_markPredS_l6_ok' a1 k1 i

theorem laws_markPredS_ok : ∀ (a : List (GPred)) (k : Int), Ok (laws_markPredS a k) e_laws_markPredS (dn FTA n_laws_markPredS [.ln (a.map GPred.row), .t (.v (.int .i64 k))]) := by
  intro a k
  rw [den_ev FTA (fn := k_laws_markPredS) rfl (xOf_none rfl rfl _) (Nat.le_of_ble_eq_true rfl)]
  simp only [SSA, RS, c_laws_markPredS, k_laws_markPredS, laws_markPredS, Nat.reduceAdd, Nat.reduceSub, Nat.reduceMul, Nat.reduceLeDiff, Nat.reduceLT, Nat.reduceEqDiff, Nat.reduceBEq, ↓reduceIte, reduceCtorEq]
  repeat' first
    | with_reducible exact Ok_none
    | ((with_reducible refine Ok_ret ?_); first | rfl | (simp only [SSA, RS, e_laws_markPredS, Nat.reduceAdd, Nat.reduceSub, Nat.reduceMul, Nat.reduceLeDiff, Nat.reduceLT, Nat.reduceEqDiff, Nat.reduceBEq, ↓reduceIte, reduceCtorEq]; done))
    | ((with_reducible refine Ok_tail (laws_markPredS_l6_ok _ _ _) ?_); first | rfl | (simp only [SSA, RS, c_laws_markPredS, Nat.reduceAdd, Nat.reduceSub, Nat.reduceMul, Nat.reduceLeDiff, Nat.reduceLT, Nat.reduceEqDiff, Nat.reduceBEq, ↓reduceIte, reduceCtorEq]; done) | (simp only [SSA, RS, c_laws_markPredS, Nat.reduceAdd, Nat.reduceSub, Nat.reduceMul, Nat.reduceLeDiff, Nat.reduceLT, Nat.reduceEqDiff, Nat.reduceBEq, ↓reduceIte, reduceCtorEq]; rfl))

def e_laws_markStepS (r : Int × List (GStp)) : Res := ⟨[.t (.v (.int .i64 r.1))], [some (r.2.map (GStp.row true))]⟩
def c_laws_markStepS : Cx := ⟨2, [1, 0], [.tmp 4]⟩
theorem laws_markStepS_l6_ok' : ∀ (a1 : List (GStp)) (k1 : Int) (i : Int), Ok (laws_markStepS_l6 a1 k1 i) e_laws_markStepS (ev FTA c_laws_markStepS (.loop k_laws_markStepS_l6) [.lv 0, .th k_laws_markStepS_r2] (putS (List.replicate 52 .dead) [(0, .ref (0, 0) a1.length), (1, .t (.v (.int .i64 k1))), (5, .t (.v (.int .i64 i)))]) (putR (List.replicate 52 []) [(0, [.mem (a1.map (GStp.row true)) 0 true])])) := by
  unfold Ok
  refine laws_markStepS_l6.partial_correctness _ ?_
  intro F ih a1 k1 i
  show Ok _ _ _
  have ih : ∀ (a1 : List (GStp)) (k1 : Int) (i : Int), Ok (F a1 k1 i) _ _ := ih
  rw [ev_loop]
  have g0 := laws_markText_ok; try simp only [SSA, RS, Nat.reduceAdd, Nat.reduceSub, Nat.reduceMul, Nat.reduceLeDiff, Nat.reduceLT, Nat.reduceEqDiff, Nat.reduceBEq, ↓reduceIte, reduceCtorEq] at g0
  have g1 := laws_markPredS_ok; try simp only [SSA, RS, Nat.reduceAdd, Nat.reduceSub, Nat.reduceMul, Nat.reduceLeDiff, Nat.reduceLT, Nat.reduceEqDiff, Nat.reduceBEq, ↓reduceIte, reduceCtorEq] at g1
  simp only [SSA, RS, c_laws_markStepS, k_laws_markStepS_l6, k_laws_markStepS_r2, e_laws_markPredS, e_laws_markText, Nat.reduceAdd, Nat.reduceSub, Nat.reduceMul, Nat.reduceLeDiff, Nat.reduceLT, Nat.reduceEqDiff, Nat.reduceBEq, ↓reduceIte, reduceCtorEq]
  repeat' first
    | with_reducible exact Ok_none
    | ((with_reducible refine Ok_ret ?_); first | rfl | (simp only [SSA, RS, e_laws_markStepS, Nat.reduceAdd, Nat.reduceSub, Nat.reduceMul, Nat.reduceLeDiff, Nat.reduceLT, Nat.reduceEqDiff, Nat.reduceBEq, ↓reduceIte, reduceCtorEq]; done))
    | ((with_reducible refine Ok_tail (ih _ _ _) ?_); first | rfl | (simp only [SSA, RS, c_laws_markStepS, Nat.reduceAdd, Nat.reduceSub, Nat.reduceMul, Nat.reduceLeDiff, Nat.reduceLT, Nat.reduceEqDiff, Nat.reduceBEq, ↓reduceIte, reduceCtorEq]; done) | (simp only [SSA, RS, c_laws_markStepS, Nat.reduceAdd, Nat.reduceSub, Nat.reduceMul, Nat.reduceLeDiff, Nat.reduceLT, Nat.reduceEqDiff, Nat.reduceBEq, ↓reduceIte, reduceCtorEq]; rfl))
    | ((first | with_reducible refine Ok_if (fun h => ?_) (fun h => ?_) | with_reducible refine Ok_get fun a h => ?_ | with_reducible refine Ok_call (g0 _) fun v => ?_ | with_reducible refine Ok_call (g1 _ _) fun v => ?_ | with_reducible refine Ok_prim (p := remI _ _) fun a h => ?_ | refine Ok_call (g0 _) fun v => ?_ | refine Ok_call (g1 _ _) fun v => ?_) <;> simp only [SSA, RS, *, k_laws_markStepS_r2, e_laws_markPredS, e_laws_markText, Nat.reduceAdd, Nat.reduceSub, Nat.reduceMul, Nat.reduceLeDiff, Nat.reduceLT, Nat.reduceEqDiff, Nat.reduceBEq, ↓reduceIte, reduceCtorEq])
theorem laws_markStepS_l6_ok (a1 : List (GStp)) (k1 : Int) (i : Int) : Ok (laws_markStepS_l6 a1 k1 i) e_laws_markStepS (ev FTA c_laws_markStepS (.loop k_laws_markStepS_l6) [.lv 0, .th k_laws_markStepS_r2] (putS (List.replicate 52 .dead) [(0, .ref (0, 0) a1.length), (1, .t (.v (.int .i64 k1))), (5, .t (.v (.int .i64 i)))]) (putR (List.replicate 52 []) [(0, [.mem (a1.map (GStp.row true)) 0 true])])) := laws_markStepS_l6_ok' a1 k1 i

theorem laws_markStepS_ok : ∀ (a : List (GStp)) (k : Int), Ok (laws_markStepS a k) e_laws_markStepS (dn FTA n_laws_markStepS [.ln (a.map (GStp.row true)), .t (.v (.int .i64 k))]) := by
  intro a k
  rw [den_ev FTA (fn := k_laws_markStepS) rfl (xOf_none rfl rfl _) (Nat.le_of_ble_eq_true rfl)]
  simp only [SSA, RS, c_laws_markStepS, k_laws_markStepS, laws_markStepS, Nat.reduceAdd, Nat.reduceSub, Nat.reduceMul, Nat.reduceLeDiff, Nat.reduceLT, Nat.reduceEqDiff, Nat.reduceBEq, ↓reduceIte, reduceCtorEq]
  repeat' first
    | with_reducible exact Ok_none
    | ((with_reducible refine Ok_ret ?_); first | rfl | (simp only [SSA, RS, e_laws_markStepS, Nat.reduceAdd, Nat.reduceSub, Nat.reduceMul, Nat.reduceLeDiff, Nat.reduceLT, Nat.reduceEqDiff, Nat.reduceBEq, ↓reduceIte, reduceCtorEq]; done))
    | ((with_reducible refine Ok_tail (laws_markStepS_l6_ok _ _ _) ?_); first | rfl | (simp only [SSA, RS, c_laws_markStepS, Nat.reduceAdd, Nat.reduceSub, Nat.reduceMul, Nat.reduceLeDiff, Nat.reduceLT, Nat.reduceEqDiff, Nat.reduceBEq, ↓reduceIte, reduceCtorEq]; done) | (simp only [SSA, RS, c_laws_markStepS, Nat.reduceAdd, Nat.reduceSub, Nat.reduceMul, Nat.reduceLeDiff, Nat.reduceLT, Nat.reduceEqDiff, Nat.reduceBEq, ↓reduceIte, reduceCtorEq]; rfl))

def e_laws_markSel (r : Int × List GStp) : Res := ⟨[.t (.v (.int .i64 r.1))], [some (r.2.map (GStp.row true))]⟩
def c_laws_markSel : Cx := ⟨2, [1, 0], [.tmp 4]⟩
theorem laws_markSel_ok : ∀ (a : GSel) (k : Int), Ok (laws_markSel a k) e_laws_markSel (dn FTA n_laws_markSel [.agg [.t (.v (.string a.Id)), .ln (a.Steps.map (GStp.row true))], .t (.v (.int .i64 k))]) := by
  intro a k
  rw [den_ev FTA (fn := k_laws_markSel) rfl (xOf_none rfl rfl _) (Nat.le_of_ble_eq_true rfl)]
  have g0 := laws_markStepS_ok; try simp only [SSA, RS, Nat.reduceAdd, Nat.reduceSub, Nat.reduceMul, Nat.reduceLeDiff, Nat.reduceLT, Nat.reduceEqDiff, Nat.reduceBEq, ↓reduceIte, reduceCtorEq] at g0
  simp only [SSA, RS, c_laws_markSel, k_laws_markSel, laws_markSel, e_laws_markStepS, Nat.reduceAdd, Nat.reduceSub, Nat.reduceMul, Nat.reduceLeDiff, Nat.reduceLT, Nat.reduceEqDiff, Nat.reduceBEq, ↓reduceIte, reduceCtorEq]
  repeat' first
    | with_reducible exact Ok_none
    | ((with_reducible refine Ok_ret ?_); first | rfl | (simp only [SSA, RS, e_laws_markSel, Nat.reduceAdd, Nat.reduceSub, Nat.reduceMul, Nat.reduceLeDiff, Nat.reduceLT, Nat.reduceEqDiff, Nat.reduceBEq, ↓reduceIte, reduceCtorEq]; done))
    | ((first | with_reducible refine Ok_call (g0 _ _) fun v => ?_ | with_reducible refine Ok_same fun h => ?_ | refine Ok_call (g0 _ _) fun v => ?_) <;> simp only [SSA, RS, *, e_laws_markStepS, Nat.reduceAdd, Nat.reduceSub, Nat.reduceMul, Nat.reduceLeDiff, Nat.reduceLT, Nat.reduceEqDiff, Nat.reduceBEq, ↓reduceIte, reduceCtorEq])

def e_laws_heldPredS (r : Int) : Res := ⟨[.t (.v (.int .i64 r))], []⟩
def c_laws_heldPredS : Cx := ⟨2, [0, 0], [.tmp 4]⟩
theorem laws_heldPredS_l6_ok' (a : List GPred) : ∀ (k1 : Int) (i : Int), Ok (laws_heldPredS_l6 a k1 i) e_laws_heldPredS (ev FTA c_laws_heldPredS (.loop k_laws_heldPredS_l6) [.lv 0, .th k_laws_heldPredS_r2] (putS (List.replicate 61 .dead) [(0, .t (.sl false (a.map GPred.row))), (1, .t (.v (.int .i64 k1))), (5, .t (.v (.int .i64 i)))]) (putR (List.replicate 61 []) [])) := by
  unfold Ok
  refine laws_heldPredS_l6.partial_correctness a _ ?_
  intro F ih k1 i
  show Ok _ _ _
  have ih : ∀ (k1 : Int) (i : Int), Ok (F k1 i) _ _ := ih
  rw [ev_loop]
  have g0 := laws_markText_ok; try simp only [SSA, RS, Nat.reduceAdd, Nat.reduceSub, Nat.reduceMul, Nat.reduceLeDiff, Nat.reduceLT, Nat.reduceEqDiff, Nat.reduceBEq, ↓reduceIte, reduceCtorEq] at g0
  simp only [SSA, RS, c_laws_heldPredS, k_laws_heldPredS_l6, k_laws_heldPredS_r2, e_laws_markText, Nat.reduceAdd, Nat.reduceSub, Nat.reduceMul, Nat.reduceLeDiff, Nat.reduceLT, Nat.reduceEqDiff, Nat.reduceBEq, ↓reduceIte, reduceCtorEq]
  repeat' first
    | with_reducible exact Ok_none
    | ((with_reducible refine Ok_ret ?_); first | rfl | (simp only [SSA, RS, e_laws_heldPredS, Nat.reduceAdd, Nat.reduceSub, Nat.reduceMul, Nat.reduceLeDiff, Nat.reduceLT, Nat.reduceEqDiff, Nat.reduceBEq, ↓reduceIte, reduceCtorEq]; done))
    | ((with_reducible refine Ok_tail (ih _ _) ?_); first | rfl | (simp only [SSA, RS, c_laws_heldPredS, Nat.reduceAdd, Nat.reduceSub, Nat.reduceMul, Nat.reduceLeDiff, Nat.reduceLT, Nat.reduceEqDiff, Nat.reduceBEq, ↓reduceIte, reduceCtorEq]; done) | (simp only [SSA, RS, c_laws_heldPredS, Nat.reduceAdd, Nat.reduceSub, Nat.reduceMul, Nat.reduceLeDiff, Nat.reduceLT, Nat.reduceEqDiff, Nat.reduceBEq, ↓reduceIte, reduceCtorEq]; rfl))
    | ((first | with_reducible refine Ok_if (fun h => ?_) (fun h => ?_) | with_reducible refine Ok_get fun a h => ?_ | with_reducible refine Ok_call (g0 _) fun v => ?_ | refine Ok_call (g0 _) fun v => ?_) <;> simp only [SSA, RS, *, k_laws_heldPredS_r2, e_laws_markText, Nat.reduceAdd, Nat.reduceSub, Nat.reduceMul, Nat.reduceLeDiff, Nat.reduceLT, Nat.reduceEqDiff, Nat.reduceBEq, ↓reduceIte, reduceCtorEq])
theorem laws_heldPredS_l6_ok (a : List GPred) (k1 : Int) (i : Int) : Ok (laws_heldPredS_l6 a k1 i) e_laws_heldPredS (ev FTA c_laws_heldPredS (.loop k_laws_heldPredS_l6) [.lv 0, .th k_laws_heldPredS_r2] (putS (List.replicate 61 .dead) [(0, .t (.sl false (a.map GPred.row))), (1, .t (.v (.int .i64 k1))), (5, .t (.v (.int .i64 i)))]) (putR (List.replicate 61 []) [])) := laws_heldPredS_l6_ok' a k1 i

theorem laws_heldPredS_ok : ∀ (a : List GPred) (k : Int), Ok (laws_heldPredS a k) e_laws_heldPredS (dn FTA n_laws_heldPredS [.t (.sl false (a.map GPred.row)), .t (.v (.int .i64 k))]) := by
  intro a k
  rw [den_ev FTA (fn := k_laws_heldPredS) rfl (xOf_none rfl rfl _) (Nat.le_of_ble_eq_true rfl)]
  simp only [SSA, RS, c_laws_heldPredS, k_laws_heldPredS, laws_heldPredS, Nat.reduceAdd, Nat.reduceSub, Nat.reduceMul, Nat.reduceLeDiff, Nat.reduceLT, Nat.reduceEqDiff, Nat.reduceBEq, ↓reduceIte, reduceCtorEq]
  repeat' first
    | with_reducible exact Ok_none
    | ((with_reducible refine Ok_ret ?_); first | rfl | (simp only [SSA, RS, e_laws_heldPredS, Nat.reduceAdd, Nat.reduceSub, Nat.reduceMul, Nat.reduceLeDiff, Nat.reduceLT, Nat.reduceEqDiff, Nat.reduceBEq, ↓reduceIte, reduceCtorEq]; done))
    | ((with_reducible refine Ok_tail (laws_heldPredS_l6_ok _ _ _) ?_); first | rfl | (simp only [SSA, RS, c_laws_heldPredS, Nat.reduceAdd, Nat.reduceSub, Nat.reduceMul, Nat.reduceLeDiff, Nat.reduceLT, Nat.reduceEqDiff, Nat.reduceBEq, ↓reduceIte, reduceCtorEq]; done) | (simp only [SSA, RS, c_laws_heldPredS, Nat.reduceAdd, Nat.reduceSub, Nat.reduceMul, Nat.reduceLeDiff, Nat.reduceLT, Nat.reduceEqDiff, Nat.reduceBEq, ↓reduceIte, reduceCtorEq]; rfl))

def e_laws_heldStepS (r : Int) : Res := ⟨[.t (.v (.int .i64 r))], []⟩
def c_laws_heldStepS : Cx := ⟨2, [0, 0], [.tmp 4]⟩
theorem laws_heldStepS_l6_ok' (a : List GStp) : ∀ (k1 : Int) (i : Int), Ok (laws_heldStepS_l6 a k1 i) e_laws_heldStepS (ev FTA c_laws_heldStepS (.loop k_laws_heldStepS_l6) [.lv 0, .th k_laws_heldStepS_r2] (putS (List.replicate 62 .dead) [(0, .t (.sl false (a.map (GStp.row false)))), (1, .t (.v (.int .i64 k1))), (5, .t (.v (.int .i64 i)))]) (putR (List.replicate 62 []) [])) := by
  unfold Ok
  refine laws_heldStepS_l6.partial_correctness a _ ?_
  intro F ih k1 i
  show Ok _ _ _
  have ih : ∀ (k1 : Int) (i : Int), Ok (F k1 i) _ _ := ih
  rw [ev_loop]
  have g0 := laws_markText_ok; try simp only [SSA, RS, Nat.reduceAdd, Nat.reduceSub, Nat.reduceMul, Nat.reduceLeDiff, Nat.reduceLT, Nat.reduceEqDiff, Nat.reduceBEq, ↓reduceIte, reduceCtorEq] at g0
  have g1 := laws_heldPredS_ok; try simp only [SSA, RS, Nat.reduceAdd, Nat.reduceSub, Nat.reduceMul, Nat.reduceLeDiff, Nat.reduceLT, Nat.reduceEqDiff, Nat.reduceBEq, ↓reduceIte, reduceCtorEq] at g1
  simp only [SSA, RS, c_laws_heldStepS, k_laws_heldStepS_l6, k_laws_heldStepS_r2, e_laws_heldPredS, e_laws_markText, Nat.reduceAdd, Nat.reduceSub, Nat.reduceMul, Nat.reduceLeDiff, Nat.reduceLT, Nat.reduceEqDiff, Nat.reduceBEq, ↓reduceIte, reduceCtorEq]
  repeat' first
    | with_reducible exact Ok_none
    | ((with_reducible refine Ok_ret ?_); first | rfl | (simp only [SSA, RS, e_laws_heldStepS, Nat.reduceAdd, Nat.reduceSub, Nat.reduceMul, Nat.reduceLeDiff, Nat.reduceLT, Nat.reduceEqDiff, Nat.reduceBEq, ↓reduceIte, reduceCtorEq]; done))
    | ((with_reducible refine Ok_tail (ih _ _) ?_); first | rfl | (simp only [SSA, RS, c_laws_heldStepS, Nat.reduceAdd, Nat.reduceSub, Nat.reduceMul, Nat.reduceLeDiff, Nat.reduceLT, Nat.reduceEqDiff, Nat.reduceBEq, ↓reduceIte, reduceCtorEq]; done) | (simp only [SSA, RS, c_laws_heldStepS, Nat.reduceAdd, Nat.reduceSub, Nat.reduceMul, Nat.reduceLeDiff, Nat.reduceLT, Nat.reduceEqDiff, Nat.reduceBEq, ↓reduceIte, reduceCtorEq]; rfl))
    | ((first | with_reducible refine Ok_if (fun h => ?_) (fun h => ?_) | with_reducible refine Ok_get fun a h => ?_ | with_reducible refine Ok_call (g0 _) fun v => ?_ | with_reducible refine Ok_call (g1 _ _) fun v => ?_ | with_reducible refine Ok_prim (p := remI _ _) fun a h => ?_ | refine Ok_call (g0 _) fun v => ?_ | refine Ok_call (g1 _ _) fun v => ?_) <;> simp only [SSA, RS, *, k_laws_heldStepS_r2, e_laws_heldPredS, e_laws_markText, Nat.reduceAdd, Nat.reduceSub, Nat.reduceMul, Nat.reduceLeDiff, Nat.reduceLT, Nat.reduceEqDiff, Nat.reduceBEq, ↓reduceIte, reduceCtorEq])
theorem laws_heldStepS_l6_ok (a : List GStp) (k1 : Int) (i : Int) : Ok (laws_heldStepS_l6 a k1 i) e_laws_heldStepS (ev FTA c_laws_heldStepS (.loop k_laws_heldStepS_l6) [.lv 0, .th k_laws_heldStepS_r2] (putS (List.replicate 62 .dead) [(0, .t (.sl false (a.map (GStp.row false)))), (1, .t (.v (.int .i64 k1))), (5, .t (.v (.int .i64 i)))]) (putR (List.replicate 62 []) [])) := laws_heldStepS_l6_ok' a k1 i

theorem laws_heldStepS_ok : ∀ (a : List GStp) (k : Int), Ok (laws_heldStepS a k) e_laws_heldStepS (dn FTA n_laws_heldStepS [.t (.sl false (a.map (GStp.row false))), .t (.v (.int .i64 k))]) := by
  intro a k
  rw [den_ev FTA (fn := k_laws_heldStepS) rfl (xOf_none rfl rfl _) (Nat.le_of_ble_eq_true rfl)]
  simp only [SSA, RS, c_laws_heldStepS, k_laws_heldStepS, laws_heldStepS, Nat.reduceAdd, Nat.reduceSub, Nat.reduceMul, Nat.reduceLeDiff, Nat.reduceLT, Nat.reduceEqDiff, Nat.reduceBEq, ↓reduceIte, reduceCtorEq]
  repeat' first
    | with_reducible exact Ok_none
    | ((with_reducible refine Ok_ret ?_); first | rfl | (simp only [SSA, RS, e_laws_heldStepS, Nat.reduceAdd, Nat.reduceSub, Nat.reduceMul, Nat.reduceLeDiff, Nat.reduceLT, Nat.reduceEqDiff, Nat.reduceBEq, ↓reduceIte, reduceCtorEq]; done))
    | ((with_reducible refine Ok_tail (laws_heldStepS_l6_ok _ _ _) ?_); first | rfl | (simp only [SSA, RS, c_laws_heldStepS, Nat.reduceAdd, Nat.reduceSub, Nat.reduceMul, Nat.reduceLeDiff, Nat.reduceLT, Nat.reduceEqDiff, Nat.reduceBEq, ↓reduceIte, reduceCtorEq]; done) | (simp only [SSA, RS, c_laws_heldStepS, Nat.reduceAdd, Nat.reduceSub, Nat.reduceMul, Nat.reduceLeDiff, Nat.reduceLT, Nat.reduceEqDiff, Nat.reduceBEq, ↓reduceIte, reduceCtorEq]; rfl))

def e_laws_heldSel (r : Int) : Res := ⟨[.t (.v (.int .i64 r))], []⟩
def c_laws_heldSel : Cx := ⟨2, [0, 0], [.tmp 4]⟩
theorem laws_heldSel_ok : ∀ (a : GSel) (k : Int), Ok (laws_heldSel a k) e_laws_heldSel (dn FTA n_laws_heldSel [.agg (((GSel.row false) a).map .t), .t (.v (.int .i64 k))]) := by
  intro a k
  rw [den_ev FTA (fn := k_laws_heldSel) rfl (xOf_none rfl rfl _) (Nat.le_of_ble_eq_true rfl)]
  have g0 := laws_heldStepS_ok; try simp only [SSA, RS, Nat.reduceAdd, Nat.reduceSub, Nat.reduceMul, Nat.reduceLeDiff, Nat.reduceLT, Nat.reduceEqDiff, Nat.reduceBEq, ↓reduceIte, reduceCtorEq] at g0
  simp only [SSA, RS, c_laws_heldSel, k_laws_heldSel, laws_heldSel, e_laws_heldStepS, Nat.reduceAdd, Nat.reduceSub, Nat.reduceMul, Nat.reduceLeDiff, Nat.reduceLT, Nat.reduceEqDiff, Nat.reduceBEq, ↓reduceIte, reduceCtorEq]
  repeat' first
    | with_reducible exact Ok_none
    | ((with_reducible refine Ok_ret ?_); first | rfl | (simp only [SSA, RS, e_laws_heldSel, Nat.reduceAdd, Nat.reduceSub, Nat.reduceMul, Nat.reduceLeDiff, Nat.reduceLT, Nat.reduceEqDiff, Nat.reduceBEq, ↓reduceIte, reduceCtorEq]; done))
    | ((first | with_reducible refine Ok_if (fun h => ?_) (fun h => ?_) | with_reducible refine Ok_call (g0 _ _) fun v => ?_ | refine Ok_call (g0 _ _) fun v => ?_) <;> simp only [SSA, RS, *, e_laws_heldStepS, Nat.reduceAdd, Nat.reduceSub, Nat.reduceMul, Nat.reduceLeDiff, Nat.reduceLT, Nat.reduceEqDiff, Nat.reduceBEq, ↓reduceIte, reduceCtorEq])

def e_laws_FnExactSelAttr (r : Bool) : Res := ⟨[.t (.v (.bool r))], []⟩
def c_laws_FnExactSelAttr : Cx := ⟨3, [0, 0, 0], [.tmp 6]⟩
theorem laws_FnExactSelAttr_ok : ∀ (aT : GNode) (aPath : List Int) (aA : GAttr), Ok (laws_FnExactSelAttr aT aPath aA) e_laws_FnExactSelAttr (dn FTA n_laws_FnExactSelAttr [.agg (((GNode.row false) aT).map .t), .t (.sl false (aPath.map rI)), .agg ((GAttr.row aA).map .t)]) := by
  intro aT aPath aA
  rw [den_ev FTA (fn := k_laws_FnExactSelAttr) rfl (xOf_none rfl rfl _) (Nat.le_of_ble_eq_true rfl)]
  have g0 := laws_szNode_ok; try simp only [SSA, RS, Nat.reduceAdd, Nat.reduceSub, Nat.reduceMul, Nat.reduceLeDiff, Nat.reduceLT, Nat.reduceEqDiff, Nat.reduceBEq, ↓reduceIte, reduceCtorEq] at g0
  have g1 := laws_szAttr_ok; try simp only [SSA, RS, Nat.reduceAdd, Nat.reduceSub, Nat.reduceMul, Nat.reduceLeDiff, Nat.reduceLT, Nat.reduceEqDiff, Nat.reduceBEq, ↓reduceIte, reduceCtorEq] at g1
  have g2 := laws_toNode_ok; try simp only [SSA, RS, Nat.reduceAdd, Nat.reduceSub, Nat.reduceMul, Nat.reduceLeDiff, Nat.reduceLT, Nat.reduceEqDiff, Nat.reduceBEq, ↓reduceIte, reduceCtorEq] at g2
  have g3 := laws_toIntS_ok; try simp only [SSA, RS, Nat.reduceAdd, Nat.reduceSub, Nat.reduceMul, Nat.reduceLeDiff, Nat.reduceLT, Nat.reduceEqDiff, Nat.reduceBEq, ↓reduceIte, reduceCtorEq] at g3
  have g4 := laws_toAttr_ok; try simp only [SSA, RS, Nat.reduceAdd, Nat.reduceSub, Nat.reduceMul, Nat.reduceLeDiff, Nat.reduceLT, Nat.reduceEqDiff, Nat.reduceBEq, ↓reduceIte, reduceCtorEq] at g4
  have g5 := spec_SelAttr_ok; try simp only [SSA, RS, Nat.reduceAdd, Nat.reduceSub, Nat.reduceMul, Nat.reduceLeDiff, Nat.reduceLT, Nat.reduceEqDiff, Nat.reduceBEq, ↓reduceIte, reduceCtorEq] at g5
  have g6 := impl_SelAttr_ok; try simp only [SSA, RS, Nat.reduceAdd, Nat.reduceSub, Nat.reduceMul, Nat.reduceLeDiff, Nat.reduceLT, Nat.reduceEqDiff, Nat.reduceBEq, ↓reduceIte, reduceCtorEq] at g6
  have g7 := laws_eqSel_ok; try simp only [SSA, RS, Nat.reduceAdd, Nat.reduceSub, Nat.reduceMul, Nat.reduceLeDiff, Nat.reduceLT, Nat.reduceEqDiff, Nat.reduceBEq, ↓reduceIte, reduceCtorEq] at g7
  have g8 := laws_eqNode_ok; try simp only [SSA, RS, Nat.reduceAdd, Nat.reduceSub, Nat.reduceMul, Nat.reduceLeDiff, Nat.reduceLT, Nat.reduceEqDiff, Nat.reduceBEq, ↓reduceIte, reduceCtorEq] at g8
  have g9 := laws_eqIntS_ok; try simp only [SSA, RS, Nat.reduceAdd, Nat.reduceSub, Nat.reduceMul, Nat.reduceLeDiff, Nat.reduceLT, Nat.reduceEqDiff, Nat.reduceBEq, ↓reduceIte, reduceCtorEq] at g9
  have g10 := laws_markNode_ok; try simp only [SSA, RS, Nat.reduceAdd, Nat.reduceSub, Nat.reduceMul, Nat.reduceLeDiff, Nat.reduceLT, Nat.reduceEqDiff, Nat.reduceBEq, ↓reduceIte, reduceCtorEq] at g10
  have g11 := laws_markIntS_ok; try simp only [SSA, RS, Nat.reduceAdd, Nat.reduceSub, Nat.reduceMul, Nat.reduceLeDiff, Nat.reduceLT, Nat.reduceEqDiff, Nat.reduceBEq, ↓reduceIte, reduceCtorEq] at g11
  have g12 := laws_markSel_ok; try simp only [SSA, RS, Nat.reduceAdd, Nat.reduceSub, Nat.reduceMul, Nat.reduceLeDiff, Nat.reduceLT, Nat.reduceEqDiff, Nat.reduceBEq, ↓reduceIte, reduceCtorEq] at g12
  have g13 := laws_heldSel_ok; try simp only [SSA, RS, Nat.reduceAdd, Nat.reduceSub, Nat.reduceMul, Nat.reduceLeDiff, Nat.reduceLT, Nat.reduceEqDiff, Nat.reduceBEq, ↓reduceIte, reduceCtorEq] at g13
  simp only [SSA, RS, c_laws_FnExactSelAttr, k_laws_FnExactSelAttr, laws_FnExactSelAttr, e_impl_SelAttr, e_laws_eqIntS, e_laws_eqNode, e_laws_eqSel, e_laws_heldSel, e_laws_markIntS, e_laws_markNode, e_laws_markSel, e_laws_szAttr, e_laws_szNode, e_laws_toAttr, e_laws_toIntS, e_laws_toNode, e_spec_SelAttr, Nat.reduceAdd, Nat.reduceSub, Nat.reduceMul, Nat.reduceLeDiff, Nat.reduceLT, Nat.reduceEqDiff, Nat.reduceBEq, ↓reduceIte, reduceCtorEq]
  repeat' first
    | with_reducible exact Ok_none
    | ((with_reducible refine Ok_ret ?_); first | rfl | (simp only [SSA, RS, e_laws_FnExactSelAttr, Nat.reduceAdd, Nat.reduceSub, Nat.reduceMul, Nat.reduceLeDiff, Nat.reduceLT, Nat.reduceEqDiff, Nat.reduceBEq, ↓reduceIte, reduceCtorEq]; done))
    | ((first | with_reducible refine Ok_if (fun h => ?_) (fun h => ?_) | with_reducible refine Ok_call (g0 _ _) fun v => ?_ | with_reducible refine Ok_call (g1 _ _) fun v => ?_ | with_reducible refine Ok_call (g2 _) fun v => ?_ | with_reducible refine Ok_call (g3 _) fun v => ?_ | with_reducible refine Ok_call (g4 _) fun v => ?_ | with_reducible refine Ok_call (g5 _ _ _) fun v => ?_ | with_reducible refine Ok_call (g6 _ _ _) fun v => ?_ | with_reducible refine Ok_call (g7 _ _) fun v => ?_ | with_reducible refine Ok_call (g8 _ _) fun v => ?_ | with_reducible refine Ok_call (g9 _ _) fun v => ?_ | with_reducible refine Ok_call (g10 _ _) fun v => ?_ | with_reducible refine Ok_call (g11 _ _) fun v => ?_ | with_reducible refine Ok_call (g12 _ _) fun v => ?_ | with_reducible refine Ok_call (g13 _ _) fun v => ?_ | with_reducible refine Ok_same fun h => ?_ | refine Ok_call (g0 _ _) fun v => ?_ | refine Ok_call (g1 _ _) fun v => ?_ | refine Ok_call (g2 _) fun v => ?_ | refine Ok_call (g3 _) fun v => ?_ | refine Ok_call (g4 _) fun v => ?_ | refine Ok_call (g5 _ _ _) fun v => ?_ | refine Ok_call (g6 _ _ _) fun v => ?_ | refine Ok_call (g7 _ _) fun v => ?_ | refine Ok_call (g8 _ _) fun v => ?_ | refine Ok_call (g9 _ _) fun v => ?_ | refine Ok_call (g10 _ _) fun v => ?_ | refine Ok_call (g11 _ _) fun v => ?_ | refine Ok_call (g12 _ _) fun v => ?_ | refine Ok_call (g13 _ _) fun v => ?_) <;> simp only [SSA, RS, *, e_impl_SelAttr, e_laws_eqIntS, e_laws_eqNode, e_laws_eqSel, e_laws_heldSel, e_laws_markIntS, e_laws_markNode, e_laws_markSel, e_laws_szAttr, e_laws_szNode, e_laws_toAttr, e_laws_toIntS, e_laws_toNode, e_spec_SelAttr, Nat.reduceAdd, Nat.reduceSub, Nat.reduceMul, Nat.reduceLeDiff, Nat.reduceLT, Nat.reduceEqDiff, Nat.reduceBEq, ↓reduceIte, reduceCtorEq])

end TT
