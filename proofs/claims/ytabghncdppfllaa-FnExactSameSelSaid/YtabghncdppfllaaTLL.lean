import Derived.Test.YtabghncdppfllaaTKK
import Derived.Test.YtabghncdppfllaaTDefs
set_option linter.unusedVariables false
set_option linter.unusedSimpArgs false
set_option linter.defProp false
set_option maxRecDepth 100000
namespace TT
open Go
def e_laws_szPred (r : Int) : Res := ⟨[.t (.v (.int .i64 r))], []⟩
def c_laws_szPred : Cx := ⟨2, [0, 0], [.tmp 4]⟩
theorem laws_szPred_ok : ∀ (a : GPred) (left : Int), Ok (laws_szPred a left) e_laws_szPred (dn FTA n_laws_szPred [.agg ((GPred.row a).map .t), .t (.v (.int .i64 left))]) := by
  intro a left
  rw [den_ev FTA (fn := k_laws_szPred) rfl (cloneX_none rfl _) (Nat.le_of_ble_eq_true rfl)]
  simp only [SSA, RS, c_laws_szPred, k_laws_szPred, laws_szPred, Nat.reduceAdd, Nat.reduceSub, Nat.reduceMul, Nat.reduceLeDiff, Nat.reduceLT, Nat.reduceEqDiff, Nat.reduceBEq, ↓reduceIte, reduceCtorEq]
  repeat' first
    | with_reducible exact Ok_none
    | ((with_reducible refine Ok_ret ?_); first | rfl | (simp only [SSA, RS, e_laws_szPred, Nat.reduceAdd, Nat.reduceSub, Nat.reduceMul, Nat.reduceLeDiff, Nat.reduceLT, Nat.reduceEqDiff, Nat.reduceBEq, ↓reduceIte, reduceCtorEq]; done))
    | ((first | with_reducible refine Ok_if (fun h => ?_) (fun h => ?_)) <;> simp only [SSA, RS, *, Nat.reduceAdd, Nat.reduceSub, Nat.reduceMul, Nat.reduceLeDiff, Nat.reduceLT, Nat.reduceEqDiff, Nat.reduceBEq, ↓reduceIte, reduceCtorEq])

def e_laws_szPredS (r : Int) : Res := ⟨[.t (.v (.int .i64 r))], []⟩
def c_laws_szPredS : Cx := ⟨2, [0, 0], [.tmp 4]⟩
theorem laws_szPredS_l16_ok' (a : List GPred) : ∀ (left1 : Int) (i : Int), Ok (laws_szPredS_l16 a left1 i) e_laws_szPredS (ev FTA c_laws_szPredS (.loop k_laws_szPredS_l16) [.lv 0, .th k_laws_szPredS_r12] (putS (List.replicate 27 .dead) [(0, .t (.sl false (a.map GPred.row))), (1, .t (.v (.int .i64 left1))), (5, .t (.v (.int .i64 i)))]) (putR (List.replicate 27 []) [])) := by
  unfold Ok
  refine laws_szPredS_l16.partial_correctness a _ ?_
  intro F ih left1 i
  show Ok _ _ _
  have ih : ∀ (left1 : Int) (i : Int), Ok (F left1 i) _ _ := ih
  rw [ev_loop]
  have g0 := laws_szPred_ok; try simp only [SSA, RS, Nat.reduceAdd, Nat.reduceSub, Nat.reduceMul, Nat.reduceLeDiff, Nat.reduceLT, Nat.reduceEqDiff, Nat.reduceBEq, ↓reduceIte, reduceCtorEq] at g0
  simp only [SSA, RS, c_laws_szPredS, k_laws_szPredS_l16, k_laws_szPredS_r12, e_laws_szPred, Nat.reduceAdd, Nat.reduceSub, Nat.reduceMul, Nat.reduceLeDiff, Nat.reduceLT, Nat.reduceEqDiff, Nat.reduceBEq, ↓reduceIte, reduceCtorEq]
  repeat' first
    | with_reducible exact Ok_none
    | ((with_reducible refine Ok_ret ?_); first | rfl | (simp only [SSA, RS, e_laws_szPredS, Nat.reduceAdd, Nat.reduceSub, Nat.reduceMul, Nat.reduceLeDiff, Nat.reduceLT, Nat.reduceEqDiff, Nat.reduceBEq, ↓reduceIte, reduceCtorEq]; done))
    | ((with_reducible refine Ok_tail (ih _ _) ?_); first | rfl | (simp only [SSA, RS, c_laws_szPredS, Nat.reduceAdd, Nat.reduceSub, Nat.reduceMul, Nat.reduceLeDiff, Nat.reduceLT, Nat.reduceEqDiff, Nat.reduceBEq, ↓reduceIte, reduceCtorEq]; done) | (simp only [SSA, RS, c_laws_szPredS, Nat.reduceAdd, Nat.reduceSub, Nat.reduceMul, Nat.reduceLeDiff, Nat.reduceLT, Nat.reduceEqDiff, Nat.reduceBEq, ↓reduceIte, reduceCtorEq]; rfl))
    | ((first | with_reducible refine Ok_if (fun h => ?_) (fun h => ?_) | with_reducible refine Ok_get fun a h => ?_ | with_reducible refine Ok_call (g0 _ _) fun v => ?_ | refine Ok_call (g0 _ _) fun v => ?_) <;> simp only [SSA, RS, *, k_laws_szPredS_r12, e_laws_szPred, Nat.reduceAdd, Nat.reduceSub, Nat.reduceMul, Nat.reduceLeDiff, Nat.reduceLT, Nat.reduceEqDiff, Nat.reduceBEq, ↓reduceIte, reduceCtorEq])
theorem laws_szPredS_l16_ok (a : List GPred) (left1 : Int) (i : Int) : Ok (laws_szPredS_l16 a left1 i) e_laws_szPredS (ev FTA c_laws_szPredS (.loop k_laws_szPredS_l16) [.lv 0, .th k_laws_szPredS_r12] (putS (List.replicate 27 .dead) [(0, .t (.sl false (a.map GPred.row))), (1, .t (.v (.int .i64 left1))), (5, .t (.v (.int .i64 i)))]) (putR (List.replicate 27 []) [])) := laws_szPredS_l16_ok' a left1 i

theorem laws_szPredS_ok : ∀ (a : List GPred) (left : Int), Ok (laws_szPredS a left) e_laws_szPredS (dn FTA n_laws_szPredS [.t (.sl false (a.map GPred.row)), .t (.v (.int .i64 left))]) := by
  intro a left
  rw [den_ev FTA (fn := k_laws_szPredS) rfl (cloneX_none rfl _) (Nat.le_of_ble_eq_true rfl)]
  simp only [SSA, RS, c_laws_szPredS, k_laws_szPredS, laws_szPredS, Nat.reduceAdd, Nat.reduceSub, Nat.reduceMul, Nat.reduceLeDiff, Nat.reduceLT, Nat.reduceEqDiff, Nat.reduceBEq, ↓reduceIte, reduceCtorEq]
  repeat' first
    | with_reducible exact Ok_none
    | ((with_reducible refine Ok_ret ?_); first | rfl | (simp only [SSA, RS, e_laws_szPredS, Nat.reduceAdd, Nat.reduceSub, Nat.reduceMul, Nat.reduceLeDiff, Nat.reduceLT, Nat.reduceEqDiff, Nat.reduceBEq, ↓reduceIte, reduceCtorEq]; done))
    | ((with_reducible refine Ok_tail (laws_szPredS_l16_ok _ _ _) ?_); first | rfl | (simp only [SSA, RS, c_laws_szPredS, Nat.reduceAdd, Nat.reduceSub, Nat.reduceMul, Nat.reduceLeDiff, Nat.reduceLT, Nat.reduceEqDiff, Nat.reduceBEq, ↓reduceIte, reduceCtorEq]; done) | (simp only [SSA, RS, c_laws_szPredS, Nat.reduceAdd, Nat.reduceSub, Nat.reduceMul, Nat.reduceLeDiff, Nat.reduceLT, Nat.reduceEqDiff, Nat.reduceBEq, ↓reduceIte, reduceCtorEq]; rfl))
    | ((first | with_reducible refine Ok_if (fun h => ?_) (fun h => ?_)) <;> simp only [SSA, RS, *, Nat.reduceAdd, Nat.reduceSub, Nat.reduceMul, Nat.reduceLeDiff, Nat.reduceLT, Nat.reduceEqDiff, Nat.reduceBEq, ↓reduceIte, reduceCtorEq])

def e_laws_szStep (r : Int) : Res := ⟨[.t (.v (.int .i64 r))], []⟩
def c_laws_szStep : Cx := ⟨2, [0, 0], [.tmp 4]⟩
theorem laws_szStep_ok : ∀ (a : GStp) (left : Int), Ok (laws_szStep a left) e_laws_szStep (dn FTA n_laws_szStep [.agg (((GStp.row false) a).map .t), .t (.v (.int .i64 left))]) := by
  intro a left
  rw [den_ev FTA (fn := k_laws_szStep) rfl (cloneX_none rfl _) (Nat.le_of_ble_eq_true rfl)]
  have g0 := laws_szPredS_ok; try simp only [SSA, RS, Nat.reduceAdd, Nat.reduceSub, Nat.reduceMul, Nat.reduceLeDiff, Nat.reduceLT, Nat.reduceEqDiff, Nat.reduceBEq, ↓reduceIte, reduceCtorEq] at g0
  simp only [SSA, RS, c_laws_szStep, k_laws_szStep, laws_szStep, e_laws_szPredS, Nat.reduceAdd, Nat.reduceSub, Nat.reduceMul, Nat.reduceLeDiff, Nat.reduceLT, Nat.reduceEqDiff, Nat.reduceBEq, ↓reduceIte, reduceCtorEq]
  repeat' first
    | with_reducible exact Ok_none
    | ((with_reducible refine Ok_ret ?_); first | rfl | (simp only [SSA, RS, e_laws_szStep, Nat.reduceAdd, Nat.reduceSub, Nat.reduceMul, Nat.reduceLeDiff, Nat.reduceLT, Nat.reduceEqDiff, Nat.reduceBEq, ↓reduceIte, reduceCtorEq]; done))
    | ((first | with_reducible refine Ok_if (fun h => ?_) (fun h => ?_) | with_reducible refine Ok_call (g0 _ _) fun v => ?_ | refine Ok_call (g0 _ _) fun v => ?_) <;> simp only [SSA, RS, *, e_laws_szPredS, Nat.reduceAdd, Nat.reduceSub, Nat.reduceMul, Nat.reduceLeDiff, Nat.reduceLT, Nat.reduceEqDiff, Nat.reduceBEq, ↓reduceIte, reduceCtorEq])

def e_laws_szStepS (r : Int) : Res := ⟨[.t (.v (.int .i64 r))], []⟩
def c_laws_szStepS : Cx := ⟨2, [0, 0], [.tmp 4]⟩
theorem laws_szStepS_l16_ok' (a : List GStp) : ∀ (left1 : Int) (i : Int), Ok (laws_szStepS_l16 a left1 i) e_laws_szStepS (ev FTA c_laws_szStepS (.loop k_laws_szStepS_l16) [.lv 0, .th k_laws_szStepS_r12] (putS (List.replicate 27 .dead) [(0, .t (.sl false (a.map (GStp.row false)))), (1, .t (.v (.int .i64 left1))), (5, .t (.v (.int .i64 i)))]) (putR (List.replicate 27 []) [])) := by
  unfold Ok
  refine laws_szStepS_l16.partial_correctness a _ ?_
  intro F ih left1 i
  show Ok _ _ _
  have ih : ∀ (left1 : Int) (i : Int), Ok (F left1 i) _ _ := ih
  rw [ev_loop]
  have g0 := laws_szStep_ok; try simp only [SSA, RS, Nat.reduceAdd, Nat.reduceSub, Nat.reduceMul, Nat.reduceLeDiff, Nat.reduceLT, Nat.reduceEqDiff, Nat.reduceBEq, ↓reduceIte, reduceCtorEq] at g0
  simp only [SSA, RS, c_laws_szStepS, k_laws_szStepS_l16, k_laws_szStepS_r12, e_laws_szStep, Nat.reduceAdd, Nat.reduceSub, Nat.reduceMul, Nat.reduceLeDiff, Nat.reduceLT, Nat.reduceEqDiff, Nat.reduceBEq, ↓reduceIte, reduceCtorEq]
  repeat' first
    | with_reducible exact Ok_none
    | ((with_reducible refine Ok_ret ?_); first | rfl | (simp only [SSA, RS, e_laws_szStepS, Nat.reduceAdd, Nat.reduceSub, Nat.reduceMul, Nat.reduceLeDiff, Nat.reduceLT, Nat.reduceEqDiff, Nat.reduceBEq, ↓reduceIte, reduceCtorEq]; done))
    | ((with_reducible refine Ok_tail (ih _ _) ?_); first | rfl | (simp only [SSA, RS, c_laws_szStepS, Nat.reduceAdd, Nat.reduceSub, Nat.reduceMul, Nat.reduceLeDiff, Nat.reduceLT, Nat.reduceEqDiff, Nat.reduceBEq, ↓reduceIte, reduceCtorEq]; done) | (simp only [SSA, RS, c_laws_szStepS, Nat.reduceAdd, Nat.reduceSub, Nat.reduceMul, Nat.reduceLeDiff, Nat.reduceLT, Nat.reduceEqDiff, Nat.reduceBEq, ↓reduceIte, reduceCtorEq]; rfl))
    | ((first | with_reducible refine Ok_if (fun h => ?_) (fun h => ?_) | with_reducible refine Ok_get fun a h => ?_ | with_reducible refine Ok_call (g0 _ _) fun v => ?_ | refine Ok_call (g0 _ _) fun v => ?_) <;> simp only [SSA, RS, *, k_laws_szStepS_r12, e_laws_szStep, Nat.reduceAdd, Nat.reduceSub, Nat.reduceMul, Nat.reduceLeDiff, Nat.reduceLT, Nat.reduceEqDiff, Nat.reduceBEq, ↓reduceIte, reduceCtorEq])
theorem laws_szStepS_l16_ok (a : List GStp) (left1 : Int) (i : Int) : Ok (laws_szStepS_l16 a left1 i) e_laws_szStepS (ev FTA c_laws_szStepS (.loop k_laws_szStepS_l16) [.lv 0, .th k_laws_szStepS_r12] (putS (List.replicate 27 .dead) [(0, .t (.sl false (a.map (GStp.row false)))), (1, .t (.v (.int .i64 left1))), (5, .t (.v (.int .i64 i)))]) (putR (List.replicate 27 []) [])) := laws_szStepS_l16_ok' a left1 i

theorem laws_szStepS_ok : ∀ (a : List GStp) (left : Int), Ok (laws_szStepS a left) e_laws_szStepS (dn FTA n_laws_szStepS [.t (.sl false (a.map (GStp.row false))), .t (.v (.int .i64 left))]) := by
  intro a left
  rw [den_ev FTA (fn := k_laws_szStepS) rfl (cloneX_none rfl _) (Nat.le_of_ble_eq_true rfl)]
  simp only [SSA, RS, c_laws_szStepS, k_laws_szStepS, laws_szStepS, Nat.reduceAdd, Nat.reduceSub, Nat.reduceMul, Nat.reduceLeDiff, Nat.reduceLT, Nat.reduceEqDiff, Nat.reduceBEq, ↓reduceIte, reduceCtorEq]
  repeat' first
    | with_reducible exact Ok_none
    | ((with_reducible refine Ok_ret ?_); first | rfl | (simp only [SSA, RS, e_laws_szStepS, Nat.reduceAdd, Nat.reduceSub, Nat.reduceMul, Nat.reduceLeDiff, Nat.reduceLT, Nat.reduceEqDiff, Nat.reduceBEq, ↓reduceIte, reduceCtorEq]; done))
    | ((with_reducible refine Ok_tail (laws_szStepS_l16_ok _ _ _) ?_); first | rfl | (simp only [SSA, RS, c_laws_szStepS, Nat.reduceAdd, Nat.reduceSub, Nat.reduceMul, Nat.reduceLeDiff, Nat.reduceLT, Nat.reduceEqDiff, Nat.reduceBEq, ↓reduceIte, reduceCtorEq]; done) | (simp only [SSA, RS, c_laws_szStepS, Nat.reduceAdd, Nat.reduceSub, Nat.reduceMul, Nat.reduceLeDiff, Nat.reduceLT, Nat.reduceEqDiff, Nat.reduceBEq, ↓reduceIte, reduceCtorEq]; rfl))
    | ((first | with_reducible refine Ok_if (fun h => ?_) (fun h => ?_)) <;> simp only [SSA, RS, *, Nat.reduceAdd, Nat.reduceSub, Nat.reduceMul, Nat.reduceLeDiff, Nat.reduceLT, Nat.reduceEqDiff, Nat.reduceBEq, ↓reduceIte, reduceCtorEq])

def e_laws_szSel (r : Int) : Res := ⟨[.t (.v (.int .i64 r))], []⟩
def c_laws_szSel : Cx := ⟨2, [0, 0], [.tmp 4]⟩
theorem laws_szSel_ok : ∀ (a : GSel) (left : Int), Ok (laws_szSel a left) e_laws_szSel (dn FTA n_laws_szSel [.agg (((GSel.row false) a).map .t), .t (.v (.int .i64 left))]) := by
  intro a left
  rw [den_ev FTA (fn := k_laws_szSel) rfl (cloneX_none rfl _) (Nat.le_of_ble_eq_true rfl)]
  have g0 := laws_szStepS_ok; try simp only [SSA, RS, Nat.reduceAdd, Nat.reduceSub, Nat.reduceMul, Nat.reduceLeDiff, Nat.reduceLT, Nat.reduceEqDiff, Nat.reduceBEq, ↓reduceIte, reduceCtorEq] at g0
  simp only [SSA, RS, c_laws_szSel, k_laws_szSel, laws_szSel, e_laws_szStepS, Nat.reduceAdd, Nat.reduceSub, Nat.reduceMul, Nat.reduceLeDiff, Nat.reduceLT, Nat.reduceEqDiff, Nat.reduceBEq, ↓reduceIte, reduceCtorEq]
  repeat' first
    | with_reducible exact Ok_none
    | ((with_reducible refine Ok_ret ?_); first | rfl | (simp only [SSA, RS, e_laws_szSel, Nat.reduceAdd, Nat.reduceSub, Nat.reduceMul, Nat.reduceLeDiff, Nat.reduceLT, Nat.reduceEqDiff, Nat.reduceBEq, ↓reduceIte, reduceCtorEq]; done))
    | ((first | with_reducible refine Ok_if (fun h => ?_) (fun h => ?_) | with_reducible refine Ok_call (g0 _ _) fun v => ?_ | refine Ok_call (g0 _ _) fun v => ?_) <;> simp only [SSA, RS, *, e_laws_szStepS, Nat.reduceAdd, Nat.reduceSub, Nat.reduceMul, Nat.reduceLeDiff, Nat.reduceLT, Nat.reduceEqDiff, Nat.reduceBEq, ↓reduceIte, reduceCtorEq])

def e_laws_toPred (r : GPred) : Res := ⟨[.agg [.v (.int .i64 r.Kind), .v (.int .i64 r.N), .v (.string r.Pre), .v (.string r.Local), .v (.string r.Val)]], []⟩
def c_laws_toPred : Cx := ⟨1, [0], [.cell 2 5 true]⟩
theorem laws_toPred_ok : ∀ (a : GPred), Ok (laws_toPred a) e_laws_toPred (dn FTA n_laws_toPred [.agg ((GPred.row a).map .t)]) := by
  intro a
  rw [den_ev FTA (fn := k_laws_toPred) rfl (cloneX_none rfl _) (Nat.le_of_ble_eq_true rfl)]
  simp only [SSA, RS, c_laws_toPred, k_laws_toPred, laws_toPred, Nat.reduceAdd, Nat.reduceSub, Nat.reduceMul, Nat.reduceLeDiff, Nat.reduceLT, Nat.reduceEqDiff, Nat.reduceBEq, ↓reduceIte, reduceCtorEq]
  repeat' first
    | with_reducible exact Ok_none
    | ((with_reducible refine Ok_ret ?_); first | rfl | (simp only [SSA, RS, e_laws_toPred, Nat.reduceAdd, Nat.reduceSub, Nat.reduceMul, Nat.reduceLeDiff, Nat.reduceLT, Nat.reduceEqDiff, Nat.reduceBEq, ↓reduceIte, reduceCtorEq]; done))

def e_laws_toPredS (r : List GPred) : Res := ⟨[.t (.sl true (r.map GPred.row))], []⟩
def c_laws_toPredS : Cx := ⟨1, [0], [.tmp 2]⟩
theorem laws_toPredS_l8_ok' (a : List GPred) : ∀ (out : List (GPred)) (i : Int), Ok (laws_toPredS_l8 a out i) e_laws_toPredS (ev FTA c_laws_toPredS (.loop k_laws_toPredS_l8) [.lv 0, .th k_laws_toPredS_r4] (putS (List.replicate 23 .dead) [(0, .t (.sl false (a.map GPred.row))), (3, .ref (7, 0) out.length), (4, .t (.v (.int .i64 i)))]) (putR (List.replicate 23 []) [(7, [.mem (out.map GPred.row) 0 false])])) := by
  unfold Ok
  refine laws_toPredS_l8.partial_correctness a _ ?_
  intro F ih out i
  show Ok _ _ _
  have ih : ∀ (out : List (GPred)) (i : Int), Ok (F out i) _ _ := ih
  rw [ev_loop]
  have g0 := laws_toPred_ok; try simp only [SSA, RS, Nat.reduceAdd, Nat.reduceSub, Nat.reduceMul, Nat.reduceLeDiff, Nat.reduceLT, Nat.reduceEqDiff, Nat.reduceBEq, ↓reduceIte, reduceCtorEq] at g0
  simp only [SSA, RS, c_laws_toPredS, k_laws_toPredS_l8, k_laws_toPredS_r4, e_laws_toPred, Nat.reduceAdd, Nat.reduceSub, Nat.reduceMul, Nat.reduceLeDiff, Nat.reduceLT, Nat.reduceEqDiff, Nat.reduceBEq, ↓reduceIte, reduceCtorEq]
  repeat' first
    | with_reducible exact Ok_none
    | ((with_reducible refine Ok_ret ?_); first | rfl | (simp only [SSA, RS, e_laws_toPredS, Nat.reduceAdd, Nat.reduceSub, Nat.reduceMul, Nat.reduceLeDiff, Nat.reduceLT, Nat.reduceEqDiff, Nat.reduceBEq, ↓reduceIte, reduceCtorEq]; done))
    | ((with_reducible refine Ok_tail (ih _ _) ?_); first | rfl | (simp only [SSA, RS, c_laws_toPredS, Nat.reduceAdd, Nat.reduceSub, Nat.reduceMul, Nat.reduceLeDiff, Nat.reduceLT, Nat.reduceEqDiff, Nat.reduceBEq, ↓reduceIte, reduceCtorEq]; done) | (simp only [SSA, RS, c_laws_toPredS, Nat.reduceAdd, Nat.reduceSub, Nat.reduceMul, Nat.reduceLeDiff, Nat.reduceLT, Nat.reduceEqDiff, Nat.reduceBEq, ↓reduceIte, reduceCtorEq]; rfl))
    | ((first | with_reducible refine Ok_if (fun h => ?_) (fun h => ?_) | with_reducible refine Ok_get fun a h => ?_ | with_reducible refine Ok_call (g0 _) fun v => ?_ | refine Ok_call (g0 _) fun v => ?_) <;> simp only [SSA, RS, *, k_laws_toPredS_r4, e_laws_toPred, Nat.reduceAdd, Nat.reduceSub, Nat.reduceMul, Nat.reduceLeDiff, Nat.reduceLT, Nat.reduceEqDiff, Nat.reduceBEq, ↓reduceIte, reduceCtorEq])
theorem laws_toPredS_l8_ok (a : List GPred) (out : List (GPred)) (i : Int) : Ok (laws_toPredS_l8 a out i) e_laws_toPredS (ev FTA c_laws_toPredS (.loop k_laws_toPredS_l8) [.lv 0, .th k_laws_toPredS_r4] (putS (List.replicate 23 .dead) [(0, .t (.sl false (a.map GPred.row))), (3, .ref (7, 0) out.length), (4, .t (.v (.int .i64 i)))]) (putR (List.replicate 23 []) [(7, [.mem (out.map GPred.row) 0 false])])) := laws_toPredS_l8_ok' a out i

theorem laws_toPredS_ok : ∀ (a : List GPred), Ok (laws_toPredS a) e_laws_toPredS (dn FTA n_laws_toPredS [.t (.sl false (a.map GPred.row))]) := by
  intro a
  rw [den_ev FTA (fn := k_laws_toPredS) rfl (cloneX_none rfl _) (Nat.le_of_ble_eq_true rfl)]
  simp only [SSA, RS, c_laws_toPredS, k_laws_toPredS, laws_toPredS, Nat.reduceAdd, Nat.reduceSub, Nat.reduceMul, Nat.reduceLeDiff, Nat.reduceLT, Nat.reduceEqDiff, Nat.reduceBEq, ↓reduceIte, reduceCtorEq]
  repeat' first
    | with_reducible exact Ok_none
    | ((with_reducible refine Ok_ret ?_); first | rfl | (simp only [SSA, RS, e_laws_toPredS, Nat.reduceAdd, Nat.reduceSub, Nat.reduceMul, Nat.reduceLeDiff, Nat.reduceLT, Nat.reduceEqDiff, Nat.reduceBEq, ↓reduceIte, reduceCtorEq]; done))
    | ((with_reducible refine Ok_tail (laws_toPredS_l8_ok _ _ _) ?_); first | rfl | (simp only [SSA, RS, c_laws_toPredS, Nat.reduceAdd, Nat.reduceSub, Nat.reduceMul, Nat.reduceLeDiff, Nat.reduceLT, Nat.reduceEqDiff, Nat.reduceBEq, ↓reduceIte, reduceCtorEq]; done) | (simp only [SSA, RS, c_laws_toPredS, Nat.reduceAdd, Nat.reduceSub, Nat.reduceMul, Nat.reduceLeDiff, Nat.reduceLT, Nat.reduceEqDiff, Nat.reduceBEq, ↓reduceIte, reduceCtorEq]; rfl))
    | ((first | with_reducible refine Ok_prim (p := mkN _ _) fun a h => ?_) <;> simp only [SSA, RS, *, Nat.reduceAdd, Nat.reduceSub, Nat.reduceMul, Nat.reduceLeDiff, Nat.reduceLT, Nat.reduceEqDiff, Nat.reduceBEq, ↓reduceIte, reduceCtorEq])

def e_laws_toStep (r : GStp) : Res := ⟨[.agg [.v (.bool r.Deep), .v (.int .i64 r.Kind), .v (.string r.Pre), .v (.string r.Local), .sl true (r.Preds.map GPred.row)]], []⟩
def c_laws_toStep : Cx := ⟨1, [0], [.cell 2 5 true]⟩
theorem laws_toStep_ok : ∀ (a : GStp), Ok (laws_toStep a) e_laws_toStep (dn FTA n_laws_toStep [.agg (((GStp.row false) a).map .t)]) := by
  intro a
  rw [den_ev FTA (fn := k_laws_toStep) rfl (cloneX_none rfl _) (Nat.le_of_ble_eq_true rfl)]
  have g0 := laws_toPredS_ok; try simp only [SSA, RS, Nat.reduceAdd, Nat.reduceSub, Nat.reduceMul, Nat.reduceLeDiff, Nat.reduceLT, Nat.reduceEqDiff, Nat.reduceBEq, ↓reduceIte, reduceCtorEq] at g0
  simp only [SSA, RS, c_laws_toStep, k_laws_toStep, laws_toStep, e_laws_toPredS, Nat.reduceAdd, Nat.reduceSub, Nat.reduceMul, Nat.reduceLeDiff, Nat.reduceLT, Nat.reduceEqDiff, Nat.reduceBEq, ↓reduceIte, reduceCtorEq]
  repeat' first
    | with_reducible exact Ok_none
    | ((with_reducible refine Ok_ret ?_); first | rfl | (simp only [SSA, RS, e_laws_toStep, Nat.reduceAdd, Nat.reduceSub, Nat.reduceMul, Nat.reduceLeDiff, Nat.reduceLT, Nat.reduceEqDiff, Nat.reduceBEq, ↓reduceIte, reduceCtorEq]; done))
    | ((first | with_reducible refine Ok_call (g0 _) fun v => ?_ | refine Ok_call (g0 _) fun v => ?_) <;> simp only [SSA, RS, *, e_laws_toPredS, Nat.reduceAdd, Nat.reduceSub, Nat.reduceMul, Nat.reduceLeDiff, Nat.reduceLT, Nat.reduceEqDiff, Nat.reduceBEq, ↓reduceIte, reduceCtorEq])

def e_laws_toStepS (r : List GStp) : Res := ⟨[.t (.sl true (r.map (GStp.row true)))], []⟩
def c_laws_toStepS : Cx := ⟨1, [0], [.tmp 2]⟩
theorem laws_toStepS_l8_ok' (a : List GStp) : ∀ (out : List (GStp)) (i : Int), Ok (laws_toStepS_l8 a out i) e_laws_toStepS (ev FTA c_laws_toStepS (.loop k_laws_toStepS_l8) [.lv 0, .th k_laws_toStepS_r4] (putS (List.replicate 23 .dead) [(0, .t (.sl false (a.map (GStp.row false)))), (3, .ref (7, 0) out.length), (4, .t (.v (.int .i64 i)))]) (putR (List.replicate 23 []) [(7, [.mem (out.map (GStp.row true)) 0 false])])) := by
  unfold Ok
  refine laws_toStepS_l8.partial_correctness a _ ?_
  intro F ih out i
  show Ok _ _ _
  have ih : ∀ (out : List (GStp)) (i : Int), Ok (F out i) _ _ := ih
  rw [ev_loop]
  have g0 := laws_toStep_ok; try simp only [SSA, RS, Nat.reduceAdd, Nat.reduceSub, Nat.reduceMul, Nat.reduceLeDiff, Nat.reduceLT, Nat.reduceEqDiff, Nat.reduceBEq, ↓reduceIte, reduceCtorEq] at g0
  simp only [SSA, RS, c_laws_toStepS, k_laws_toStepS_l8, k_laws_toStepS_r4, e_laws_toStep, Nat.reduceAdd, Nat.reduceSub, Nat.reduceMul, Nat.reduceLeDiff, Nat.reduceLT, Nat.reduceEqDiff, Nat.reduceBEq, ↓reduceIte, reduceCtorEq]
  repeat' first
    | with_reducible exact Ok_none
    | ((with_reducible refine Ok_ret ?_); first | rfl | (simp only [SSA, RS, e_laws_toStepS, Nat.reduceAdd, Nat.reduceSub, Nat.reduceMul, Nat.reduceLeDiff, Nat.reduceLT, Nat.reduceEqDiff, Nat.reduceBEq, ↓reduceIte, reduceCtorEq]; done))
    | ((with_reducible refine Ok_tail (ih _ _) ?_); first | rfl | (simp only [SSA, RS, c_laws_toStepS, Nat.reduceAdd, Nat.reduceSub, Nat.reduceMul, Nat.reduceLeDiff, Nat.reduceLT, Nat.reduceEqDiff, Nat.reduceBEq, ↓reduceIte, reduceCtorEq]; done) | (simp only [SSA, RS, c_laws_toStepS, Nat.reduceAdd, Nat.reduceSub, Nat.reduceMul, Nat.reduceLeDiff, Nat.reduceLT, Nat.reduceEqDiff, Nat.reduceBEq, ↓reduceIte, reduceCtorEq]; rfl))
    | ((first | with_reducible refine Ok_if (fun h => ?_) (fun h => ?_) | with_reducible refine Ok_get fun a h => ?_ | with_reducible refine Ok_call (g0 _) fun v => ?_ | refine Ok_call (g0 _) fun v => ?_) <;> simp only [SSA, RS, *, k_laws_toStepS_r4, e_laws_toStep, Nat.reduceAdd, Nat.reduceSub, Nat.reduceMul, Nat.reduceLeDiff, Nat.reduceLT, Nat.reduceEqDiff, Nat.reduceBEq, ↓reduceIte, reduceCtorEq])
theorem laws_toStepS_l8_ok (a : List GStp) (out : List (GStp)) (i : Int) : Ok (laws_toStepS_l8 a out i) e_laws_toStepS (ev FTA c_laws_toStepS (.loop k_laws_toStepS_l8) [.lv 0, .th k_laws_toStepS_r4] (putS (List.replicate 23 .dead) [(0, .t (.sl false (a.map (GStp.row false)))), (3, .ref (7, 0) out.length), (4, .t (.v (.int .i64 i)))]) (putR (List.replicate 23 []) [(7, [.mem (out.map (GStp.row true)) 0 false])])) := laws_toStepS_l8_ok' a out i

theorem laws_toStepS_ok : ∀ (a : List GStp), Ok (laws_toStepS a) e_laws_toStepS (dn FTA n_laws_toStepS [.t (.sl false (a.map (GStp.row false)))]) := by
  intro a
  rw [den_ev FTA (fn := k_laws_toStepS) rfl (cloneX_none rfl _) (Nat.le_of_ble_eq_true rfl)]
  simp only [SSA, RS, c_laws_toStepS, k_laws_toStepS, laws_toStepS, Nat.reduceAdd, Nat.reduceSub, Nat.reduceMul, Nat.reduceLeDiff, Nat.reduceLT, Nat.reduceEqDiff, Nat.reduceBEq, ↓reduceIte, reduceCtorEq]
  repeat' first
    | with_reducible exact Ok_none
    | ((with_reducible refine Ok_ret ?_); first | rfl | (simp only [SSA, RS, e_laws_toStepS, Nat.reduceAdd, Nat.reduceSub, Nat.reduceMul, Nat.reduceLeDiff, Nat.reduceLT, Nat.reduceEqDiff, Nat.reduceBEq, ↓reduceIte, reduceCtorEq]; done))
    | ((with_reducible refine Ok_tail (laws_toStepS_l8_ok _ _ _) ?_); first | rfl | (simp only [SSA, RS, c_laws_toStepS, Nat.reduceAdd, Nat.reduceSub, Nat.reduceMul, Nat.reduceLeDiff, Nat.reduceLT, Nat.reduceEqDiff, Nat.reduceBEq, ↓reduceIte, reduceCtorEq]; done) | (simp only [SSA, RS, c_laws_toStepS, Nat.reduceAdd, Nat.reduceSub, Nat.reduceMul, Nat.reduceLeDiff, Nat.reduceLT, Nat.reduceEqDiff, Nat.reduceBEq, ↓reduceIte, reduceCtorEq]; rfl))
    | ((first | with_reducible refine Ok_prim (p := mkN _ _) fun a h => ?_) <;> simp only [SSA, RS, *, Nat.reduceAdd, Nat.reduceSub, Nat.reduceMul, Nat.reduceLeDiff, Nat.reduceLT, Nat.reduceEqDiff, Nat.reduceBEq, ↓reduceIte, reduceCtorEq])

def e_laws_toSel (r : GSel) : Res := ⟨[.agg [.v (.string r.Id), .sl true (r.Steps.map (GStp.row true))]], []⟩
def c_laws_toSel : Cx := ⟨1, [0], [.cell 2 2 true]⟩
theorem laws_toSel_ok : ∀ (a : GSel), Ok (laws_toSel a) e_laws_toSel (dn FTA n_laws_toSel [.agg (((GSel.row false) a).map .t)]) := by
  intro a
  rw [den_ev FTA (fn := k_laws_toSel) rfl (cloneX_none rfl _) (Nat.le_of_ble_eq_true rfl)]
  have g0 := laws_toStepS_ok; try simp only [SSA, RS, Nat.reduceAdd, Nat.reduceSub, Nat.reduceMul, Nat.reduceLeDiff, Nat.reduceLT, Nat.reduceEqDiff, Nat.reduceBEq, ↓reduceIte, reduceCtorEq] at g0
  simp only [SSA, RS, c_laws_toSel, k_laws_toSel, laws_toSel, e_laws_toStepS, Nat.reduceAdd, Nat.reduceSub, Nat.reduceMul, Nat.reduceLeDiff, Nat.reduceLT, Nat.reduceEqDiff, Nat.reduceBEq, ↓reduceIte, reduceCtorEq]
  repeat' first
    | with_reducible exact Ok_none
    | ((with_reducible refine Ok_ret ?_); first | rfl | (simp only [SSA, RS, e_laws_toSel, Nat.reduceAdd, Nat.reduceSub, Nat.reduceMul, Nat.reduceLeDiff, Nat.reduceLT, Nat.reduceEqDiff, Nat.reduceBEq, ↓reduceIte, reduceCtorEq]; done))
    | ((first | with_reducible refine Ok_call (g0 _) fun v => ?_ | refine Ok_call (g0 _) fun v => ?_) <;> simp only [SSA, RS, *, e_laws_toStepS, Nat.reduceAdd, Nat.reduceSub, Nat.reduceMul, Nat.reduceLeDiff, Nat.reduceLT, Nat.reduceEqDiff, Nat.reduceBEq, ↓reduceIte, reduceCtorEq])

def e_spec_SameSel (r : Bool) : Res := ⟨[.t (.v (.bool r))], []⟩
def c_spec_SameSel : Cx := ⟨2, [0, 0], [.tmp 4]⟩
theorem G_spec_SameSel_l38 (a : GSel) (b : GSel) : (∀ (i : Int) (k1 : Int) (x6 : GStp) (x7 : GStp), Ok (spec_SameSel_l38 i k1 a b x6 x7) e_spec_SameSel (ev FTA c_spec_SameSel (.loop k_spec_SameSel_l38) [.lv 2, .lv 1, .th k_spec_SameSel_r21, .hk [.clean [6, 7]], .th (.loop k_spec_SameSel_l14), .lv 0, .th k_spec_SameSel_r10] (putS (List.replicate 93 .dead) [(2, .ptr (2, 0) [] 0 0 1 0), (3, .ptr (3, 0) [] 0 0 1 0), (5, .t (.v (.int .i64 i))), (6, .ptr (6, 0) [] 0 0 1 0), (7, .ptr (7, 0) [] 0 0 1 0), (8, .t (.v (.int .i64 k1)))]) (putR (List.replicate 93 []) [(2, [.mem [[.v (.string a.Id), .sl false (a.Steps.map (GStp.row false))]] 0 false]), (3, [.mem [[.v (.string b.Id), .sl false (b.Steps.map (GStp.row false))]] 0 false]), (6, [.mem [[.v (.bool x6.Deep), .v (.int .i64 x6.Kind), .v (.string x6.Pre), .v (.string x6.Local), .sl false (x6.Preds.map GPred.row)]] 0 false]), (7, [.mem [[.v (.bool x7.Deep), .v (.int .i64 x7.Kind), .v (.string x7.Pre), .v (.string x7.Local), .sl false (x7.Preds.map GPred.row)]] 0 false])]))) ∧
    (∀ (i : Int), Ok (spec_SameSel_l14 i a b) e_spec_SameSel (ev FTA c_spec_SameSel (.loop k_spec_SameSel_l14) [.lv 0, .th k_spec_SameSel_r10] (putS (List.replicate 93 .dead) [(2, .ptr (2, 0) [] 0 0 1 0), (3, .ptr (3, 0) [] 0 0 1 0), (5, .t (.v (.int .i64 i)))]) (putR (List.replicate 93 []) [(2, [.mem [[.v (.string a.Id), .sl false (a.Steps.map (GStp.row false))]] 0 false]), (3, [.mem [[.v (.string b.Id), .sl false (b.Steps.map (GStp.row false))]] 0 false])]))) := by
  unfold Ok
  refine spec_SameSel_l38.mutual_partial_correctness a b _ _ ?_ ?_ 
  · intro F0 F1 ih0 ih1 i k1 x6 x7
    show Ok _ _ _
    have ih0 : ∀ (i : Int) (k1 : Int) (x6 : GStp) (x7 : GStp), Ok (F0 i k1 x6 x7) _ _ := ih0
    have ih1 : ∀ (i : Int), Ok (F1 i) _ _ := ih1
    rw [ev_loop]
    simp only [SSA, RS, c_spec_SameSel, k_spec_SameSel_l38, k_spec_SameSel_r21, Nat.reduceAdd, Nat.reduceSub, Nat.reduceMul, Nat.reduceLeDiff, Nat.reduceLT, Nat.reduceEqDiff, Nat.reduceBEq, ↓reduceIte, reduceCtorEq]
    repeat' first
      | with_reducible exact Ok_none
      | ((with_reducible refine Ok_ret ?_); first | rfl | (simp only [SSA, RS, e_spec_SameSel, Nat.reduceAdd, Nat.reduceSub, Nat.reduceMul, Nat.reduceLeDiff, Nat.reduceLT, Nat.reduceEqDiff, Nat.reduceBEq, ↓reduceIte, reduceCtorEq]; done))
      | ((with_reducible refine Ok_tail (ih0 _ _ _ _) ?_); first | rfl | (simp only [SSA, RS, c_spec_SameSel, Nat.reduceAdd, Nat.reduceSub, Nat.reduceMul, Nat.reduceLeDiff, Nat.reduceLT, Nat.reduceEqDiff, Nat.reduceBEq, ↓reduceIte, reduceCtorEq]; done) | (simp only [SSA, RS, c_spec_SameSel, Nat.reduceAdd, Nat.reduceSub, Nat.reduceMul, Nat.reduceLeDiff, Nat.reduceLT, Nat.reduceEqDiff, Nat.reduceBEq, ↓reduceIte, reduceCtorEq]; rfl))
      | ((with_reducible refine Ok_tail (ih1 _) ?_); first | rfl | (simp only [SSA, RS, c_spec_SameSel, Nat.reduceAdd, Nat.reduceSub, Nat.reduceMul, Nat.reduceLeDiff, Nat.reduceLT, Nat.reduceEqDiff, Nat.reduceBEq, ↓reduceIte, reduceCtorEq]; done) | (simp only [SSA, RS, c_spec_SameSel, Nat.reduceAdd, Nat.reduceSub, Nat.reduceMul, Nat.reduceLeDiff, Nat.reduceLT, Nat.reduceEqDiff, Nat.reduceBEq, ↓reduceIte, reduceCtorEq]; rfl))
      | ((first | with_reducible refine Ok_if (fun h => ?_) (fun h => ?_) | with_reducible refine Ok_get fun a h => ?_) <;> simp only [SSA, RS, *, k_spec_SameSel_r21, Nat.reduceAdd, Nat.reduceSub, Nat.reduceMul, Nat.reduceLeDiff, Nat.reduceLT, Nat.reduceEqDiff, Nat.reduceBEq, ↓reduceIte, reduceCtorEq])
  · intro F0 ih0 i
    show Ok _ _ _
    have ih0 : ∀ (i : Int) (k1 : Int) (x6 : GStp) (x7 : GStp), Ok (F0 i k1 x6 x7) _ _ := ih0
    rw [ev_loop]
    simp only [SSA, RS, c_spec_SameSel, k_spec_SameSel_l14, k_spec_SameSel_r10, Nat.reduceAdd, Nat.reduceSub, Nat.reduceMul, Nat.reduceLeDiff, Nat.reduceLT, Nat.reduceEqDiff, Nat.reduceBEq, ↓reduceIte, reduceCtorEq]
    repeat' first
      | with_reducible exact Ok_none
      | ((with_reducible refine Ok_ret ?_); first | rfl | (simp only [SSA, RS, e_spec_SameSel, Nat.reduceAdd, Nat.reduceSub, Nat.reduceMul, Nat.reduceLeDiff, Nat.reduceLT, Nat.reduceEqDiff, Nat.reduceBEq, ↓reduceIte, reduceCtorEq]; done))
      | ((with_reducible refine Ok_tail (ih0 _ _ _ _) ?_); first | rfl | (simp only [SSA, RS, c_spec_SameSel, Nat.reduceAdd, Nat.reduceSub, Nat.reduceMul, Nat.reduceLeDiff, Nat.reduceLT, Nat.reduceEqDiff, Nat.reduceBEq, ↓reduceIte, reduceCtorEq]; done) | (simp only [SSA, RS, c_spec_SameSel, Nat.reduceAdd, Nat.reduceSub, Nat.reduceMul, Nat.reduceLeDiff, Nat.reduceLT, Nat.reduceEqDiff, Nat.reduceBEq, ↓reduceIte, reduceCtorEq]; rfl))
      | ((first | with_reducible refine Ok_if (fun h => ?_) (fun h => ?_) | with_reducible refine Ok_get fun a h => ?_) <;> simp only [SSA, RS, *, k_spec_SameSel_r10, Nat.reduceAdd, Nat.reduceSub, Nat.reduceMul, Nat.reduceLeDiff, Nat.reduceLT, Nat.reduceEqDiff, Nat.reduceBEq, ↓reduceIte, reduceCtorEq])
theorem spec_SameSel_l38_ok (i : Int) (k1 : Int) (a : GSel) (b : GSel) (x6 : GStp) (x7 : GStp) : Ok (spec_SameSel_l38 i k1 a b x6 x7) e_spec_SameSel (ev FTA c_spec_SameSel (.loop k_spec_SameSel_l38) [.lv 2, .lv 1, .th k_spec_SameSel_r21, .hk [.clean [6, 7]], .th (.loop k_spec_SameSel_l14), .lv 0, .th k_spec_SameSel_r10] (putS (List.replicate 93 .dead) [(2, .ptr (2, 0) [] 0 0 1 0), (3, .ptr (3, 0) [] 0 0 1 0), (5, .t (.v (.int .i64 i))), (6, .ptr (6, 0) [] 0 0 1 0), (7, .ptr (7, 0) [] 0 0 1 0), (8, .t (.v (.int .i64 k1)))]) (putR (List.replicate 93 []) [(2, [.mem [[.v (.string a.Id), .sl false (a.Steps.map (GStp.row false))]] 0 false]), (3, [.mem [[.v (.string b.Id), .sl false (b.Steps.map (GStp.row false))]] 0 false]), (6, [.mem [[.v (.bool x6.Deep), .v (.int .i64 x6.Kind), .v (.string x6.Pre), .v (.string x6.Local), .sl false (x6.Preds.map GPred.row)]] 0 false]), (7, [.mem [[.v (.bool x7.Deep), .v (.int .i64 x7.Kind), .v (.string x7.Pre), .v (.string x7.Local), .sl false (x7.Preds.map GPred.row)]] 0 false])])) := (G_spec_SameSel_l38 a b).1 i k1 x6 x7
theorem spec_SameSel_l14_ok (i : Int) (a : GSel) (b : GSel) : Ok (spec_SameSel_l14 i a b) e_spec_SameSel (ev FTA c_spec_SameSel (.loop k_spec_SameSel_l14) [.lv 0, .th k_spec_SameSel_r10] (putS (List.replicate 93 .dead) [(2, .ptr (2, 0) [] 0 0 1 0), (3, .ptr (3, 0) [] 0 0 1 0), (5, .t (.v (.int .i64 i)))]) (putR (List.replicate 93 []) [(2, [.mem [[.v (.string a.Id), .sl false (a.Steps.map (GStp.row false))]] 0 false]), (3, [.mem [[.v (.string b.Id), .sl false (b.Steps.map (GStp.row false))]] 0 false])])) := (G_spec_SameSel_l38 a b).2 i

theorem spec_SameSel_ok : ∀ (a : GSel) (b : GSel), Ok (spec_SameSel a b) e_spec_SameSel (dn FTA n_spec_SameSel [.agg (((GSel.row false) a).map .t), .agg (((GSel.row false) b).map .t)]) := by
  intro a b
  rw [den_ev FTA (fn := k_spec_SameSel) rfl (cloneX_none rfl _) (Nat.le_of_ble_eq_true rfl)]
  simp only [SSA, RS, c_spec_SameSel, k_spec_SameSel, spec_SameSel, Nat.reduceAdd, Nat.reduceSub, Nat.reduceMul, Nat.reduceLeDiff, Nat.reduceLT, Nat.reduceEqDiff, Nat.reduceBEq, ↓reduceIte, reduceCtorEq]
  repeat' first
    | with_reducible exact Ok_none
    | ((with_reducible refine Ok_ret ?_); first | rfl | (simp only [SSA, RS, e_spec_SameSel, Nat.reduceAdd, Nat.reduceSub, Nat.reduceMul, Nat.reduceLeDiff, Nat.reduceLT, Nat.reduceEqDiff, Nat.reduceBEq, ↓reduceIte, reduceCtorEq]; done))
    | ((with_reducible refine Ok_tail (spec_SameSel_l14_ok _ _ _) ?_); first | rfl | (simp only [SSA, RS, c_spec_SameSel, Nat.reduceAdd, Nat.reduceSub, Nat.reduceMul, Nat.reduceLeDiff, Nat.reduceLT, Nat.reduceEqDiff, Nat.reduceBEq, ↓reduceIte, reduceCtorEq]; done) | (simp only [SSA, RS, c_spec_SameSel, Nat.reduceAdd, Nat.reduceSub, Nat.reduceMul, Nat.reduceLeDiff, Nat.reduceLT, Nat.reduceEqDiff, Nat.reduceBEq, ↓reduceIte, reduceCtorEq]; rfl))
    | ((first | with_reducible refine Ok_if (fun h => ?_) (fun h => ?_)) <;> simp only [SSA, RS, *, Nat.reduceAdd, Nat.reduceSub, Nat.reduceMul, Nat.reduceLeDiff, Nat.reduceLT, Nat.reduceEqDiff, Nat.reduceBEq, ↓reduceIte, reduceCtorEq])

def e_slices_Equal_Pred (r : Bool) : Res := ⟨[.t (.v (.bool r))], []⟩
def c_slices_Equal_Pred : Cx := ⟨2, [0, 0], [.tmp 4]⟩
theorem slices_Equal_Pred_l14_ok' (s1 : List GPred) (s2 : List GPred) : ∀ (x2 : Int), Ok (slices_Equal_Pred_l14 s1 s2 x2) e_slices_Equal_Pred (ev FTA c_slices_Equal_Pred (.loop k_slices_Equal_Pred_l14) [.lv 0, .th k_slices_Equal_Pred_r10] (putS (List.replicate 26 .dead) [(0, .t (.sl false (s1.map GPred.row))), (1, .t (.sl false (s2.map GPred.row))), (12, .t (.v (.int .i64 (lenL s1)))), (13, .t (.v (.int .i64 x2)))]) (putR (List.replicate 26 []) [])) := by
  unfold Ok
  refine slices_Equal_Pred_l14.partial_correctness s1 s2 _ ?_
  intro F ih x2
  show Ok _ _ _
  have ih : ∀ (x2 : Int), Ok (F x2) _ _ := ih
  rw [ev_loop]
  simp only [SSA, RS, c_slices_Equal_Pred, k_slices_Equal_Pred_l14, k_slices_Equal_Pred_r10, Nat.reduceAdd, Nat.reduceSub, Nat.reduceMul, Nat.reduceLeDiff, Nat.reduceLT, Nat.reduceEqDiff, Nat.reduceBEq, ↓reduceIte, reduceCtorEq]
  repeat' first
    | with_reducible exact Ok_none
    | ((with_reducible refine Ok_ret ?_); first | rfl | (simp only [SSA, RS, e_slices_Equal_Pred, Nat.reduceAdd, Nat.reduceSub, Nat.reduceMul, Nat.reduceLeDiff, Nat.reduceLT, Nat.reduceEqDiff, Nat.reduceBEq, ↓reduceIte, reduceCtorEq]; done))
    | ((with_reducible refine Ok_tail (ih _) ?_); first | rfl | (simp only [SSA, RS, c_slices_Equal_Pred, Nat.reduceAdd, Nat.reduceSub, Nat.reduceMul, Nat.reduceLeDiff, Nat.reduceLT, Nat.reduceEqDiff, Nat.reduceBEq, ↓reduceIte, reduceCtorEq]; done) | (simp only [SSA, RS, c_slices_Equal_Pred, Nat.reduceAdd, Nat.reduceSub, Nat.reduceMul, Nat.reduceLeDiff, Nat.reduceLT, Nat.reduceEqDiff, Nat.reduceBEq, ↓reduceIte, reduceCtorEq]; rfl))
    | ((first | with_reducible refine Ok_if (fun h => ?_) (fun h => ?_) | with_reducible refine Ok_get fun a h => ?_) <;> simp only [SSA, RS, *, k_slices_Equal_Pred_r10, Nat.reduceAdd, Nat.reduceSub, Nat.reduceMul, Nat.reduceLeDiff, Nat.reduceLT, Nat.reduceEqDiff, Nat.reduceBEq, ↓reduceIte, reduceCtorEq])
theorem slices_Equal_Pred_l14_ok (s1 : List GPred) (s2 : List GPred) (x2 : Int) : Ok (slices_Equal_Pred_l14 s1 s2 x2) e_slices_Equal_Pred (ev FTA c_slices_Equal_Pred (.loop k_slices_Equal_Pred_l14) [.lv 0, .th k_slices_Equal_Pred_r10] (putS (List.replicate 26 .dead) [(0, .t (.sl false (s1.map GPred.row))), (1, .t (.sl false (s2.map GPred.row))), (12, .t (.v (.int .i64 (lenL s1)))), (13, .t (.v (.int .i64 x2)))]) (putR (List.replicate 26 []) [])) := slices_Equal_Pred_l14_ok' s1 s2 x2

theorem slices_Equal_Pred_ok : ∀ (s1 : List GPred) (s2 : List GPred), Ok (slices_Equal_Pred s1 s2) e_slices_Equal_Pred (dn FTA n_slices_Equal_Pred [.t (.sl false (s1.map GPred.row)), .t (.sl false (s2.map GPred.row))]) := by
  intro s1 s2
  rw [den_ev FTA (fn := k_slices_Equal_Pred) rfl (cloneX_none rfl _) (Nat.le_of_ble_eq_true rfl)]
  simp only [SSA, RS, c_slices_Equal_Pred, k_slices_Equal_Pred, slices_Equal_Pred, Nat.reduceAdd, Nat.reduceSub, Nat.reduceMul, Nat.reduceLeDiff, Nat.reduceLT, Nat.reduceEqDiff, Nat.reduceBEq, ↓reduceIte, reduceCtorEq]
  repeat' first
    | with_reducible exact Ok_none
    | ((with_reducible refine Ok_ret ?_); first | rfl | (simp only [SSA, RS, e_slices_Equal_Pred, Nat.reduceAdd, Nat.reduceSub, Nat.reduceMul, Nat.reduceLeDiff, Nat.reduceLT, Nat.reduceEqDiff, Nat.reduceBEq, ↓reduceIte, reduceCtorEq]; done))
    | ((with_reducible refine Ok_tail (slices_Equal_Pred_l14_ok _ _ _) ?_); first | rfl | (simp only [SSA, RS, c_slices_Equal_Pred, Nat.reduceAdd, Nat.reduceSub, Nat.reduceMul, Nat.reduceLeDiff, Nat.reduceLT, Nat.reduceEqDiff, Nat.reduceBEq, ↓reduceIte, reduceCtorEq]; done) | (simp only [SSA, RS, c_slices_Equal_Pred, Nat.reduceAdd, Nat.reduceSub, Nat.reduceMul, Nat.reduceLeDiff, Nat.reduceLT, Nat.reduceEqDiff, Nat.reduceBEq, ↓reduceIte, reduceCtorEq]; rfl))
    | ((first | with_reducible refine Ok_if (fun h => ?_) (fun h => ?_)) <;> simp only [SSA, RS, *, Nat.reduceAdd, Nat.reduceSub, Nat.reduceMul, Nat.reduceLeDiff, Nat.reduceLT, Nat.reduceEqDiff, Nat.reduceBEq, ↓reduceIte, reduceCtorEq])

def e_impl_SameSel_1 (r : Bool) : Res := ⟨[.t (.v (.bool r))], []⟩
def c_impl_SameSel_1 : Cx := ⟨2, [0, 0], [.tmp 4]⟩
theorem impl_SameSel_1_ok : ∀ (a0 : GStp) (y : GStp), Ok (impl_SameSel_1 a0 y) e_impl_SameSel_1 (dn FTA n_impl_SameSel_1 [.agg (((GStp.row false) a0).map .t), .agg (((GStp.row false) y).map .t)]) := by
  intro a0 y
  rw [den_ev FTA (fn := k_impl_SameSel_1) rfl (cloneX_none rfl _) (Nat.le_of_ble_eq_true rfl)]
  have g0 := slices_Equal_Pred_ok; try simp only [SSA, RS, Nat.reduceAdd, Nat.reduceSub, Nat.reduceMul, Nat.reduceLeDiff, Nat.reduceLT, Nat.reduceEqDiff, Nat.reduceBEq, ↓reduceIte, reduceCtorEq] at g0
  simp only [SSA, RS, c_impl_SameSel_1, k_impl_SameSel_1, impl_SameSel_1, e_slices_Equal_Pred, Nat.reduceAdd, Nat.reduceSub, Nat.reduceMul, Nat.reduceLeDiff, Nat.reduceLT, Nat.reduceEqDiff, Nat.reduceBEq, ↓reduceIte, reduceCtorEq]
  repeat' first
    | with_reducible exact Ok_none
    | ((with_reducible refine Ok_ret ?_); first | rfl | (simp only [SSA, RS, e_impl_SameSel_1, Nat.reduceAdd, Nat.reduceSub, Nat.reduceMul, Nat.reduceLeDiff, Nat.reduceLT, Nat.reduceEqDiff, Nat.reduceBEq, ↓reduceIte, reduceCtorEq]; done))
    | ((first | with_reducible refine Ok_if (fun h => ?_) (fun h => ?_) | with_reducible refine Ok_call (g0 _ _) fun v => ?_ | refine Ok_call (g0 _ _) fun v => ?_) <;> simp only [SSA, RS, *, e_slices_Equal_Pred, Nat.reduceAdd, Nat.reduceSub, Nat.reduceMul, Nat.reduceLeDiff, Nat.reduceLT, Nat.reduceEqDiff, Nat.reduceBEq, ↓reduceIte, reduceCtorEq])

def e_slices_EqualFunc_Step_SameSel_1 (r : Bool) : Res := ⟨[.t (.v (.bool r))], []⟩
def c_slices_EqualFunc_Step_SameSel_1 : Cx := ⟨3, [0, 0, 0], [.tmp 6]⟩
theorem slices_EqualFunc_Step_SameSel_1_l14_ok' (s2 : List GStp) (s1 : List GStp) : ∀ (x2 : Int), Ok (slices_EqualFunc_Step_SameSel_1_l14 s2 s1 x2) e_slices_EqualFunc_Step_SameSel_1 (ev FTA c_slices_EqualFunc_Step_SameSel_1 (.loop k_slices_EqualFunc_Step_l14) [.lv 0, .th k_slices_EqualFunc_Step_r10] (putS (List.replicate 32 .dead) [(1, .t (.sl false (s2.map (GStp.row false)))), (2, .fn n_impl_SameSel_1 []), (15, .t (.sl false (s1.map (GStp.row false)))), (16, .t (.v (.int .i64 (lenL s1)))), (17, .t (.v (.int .i64 x2)))]) (putR (List.replicate 32 []) [])) := by
  unfold Ok
  refine slices_EqualFunc_Step_SameSel_1_l14.partial_correctness s2 s1 _ ?_
  intro F ih x2
  show Ok _ _ _
  have ih : ∀ (x2 : Int), Ok (F x2) _ _ := ih
  rw [ev_loop]
  have g0 := impl_SameSel_1_ok; try simp only [SSA, RS, Nat.reduceAdd, Nat.reduceSub, Nat.reduceMul, Nat.reduceLeDiff, Nat.reduceLT, Nat.reduceEqDiff, Nat.reduceBEq, ↓reduceIte, reduceCtorEq] at g0
  simp only [SSA, RS, c_slices_EqualFunc_Step_SameSel_1, k_slices_EqualFunc_Step_l14, k_slices_EqualFunc_Step_r10, e_impl_SameSel_1, Nat.reduceAdd, Nat.reduceSub, Nat.reduceMul, Nat.reduceLeDiff, Nat.reduceLT, Nat.reduceEqDiff, Nat.reduceBEq, ↓reduceIte, reduceCtorEq]
  repeat' first
    | with_reducible exact Ok_none
    | ((with_reducible refine Ok_ret ?_); first | rfl | (simp only [SSA, RS, e_slices_EqualFunc_Step_SameSel_1, Nat.reduceAdd, Nat.reduceSub, Nat.reduceMul, Nat.reduceLeDiff, Nat.reduceLT, Nat.reduceEqDiff, Nat.reduceBEq, ↓reduceIte, reduceCtorEq]; done))
    | ((with_reducible refine Ok_tail (ih _) ?_); first | rfl | (simp only [SSA, RS, c_slices_EqualFunc_Step_SameSel_1, Nat.reduceAdd, Nat.reduceSub, Nat.reduceMul, Nat.reduceLeDiff, Nat.reduceLT, Nat.reduceEqDiff, Nat.reduceBEq, ↓reduceIte, reduceCtorEq]; done) | (simp only [SSA, RS, c_slices_EqualFunc_Step_SameSel_1, Nat.reduceAdd, Nat.reduceSub, Nat.reduceMul, Nat.reduceLeDiff, Nat.reduceLT, Nat.reduceEqDiff, Nat.reduceBEq, ↓reduceIte, reduceCtorEq]; rfl))
    | ((first | with_reducible refine Ok_if (fun h => ?_) (fun h => ?_) | with_reducible refine Ok_get fun a h => ?_ | with_reducible refine Ok_call (g0 _ _) fun v => ?_ | refine Ok_call (g0 _ _) fun v => ?_) <;> simp only [SSA, RS, *, k_slices_EqualFunc_Step_r10, e_impl_SameSel_1, Nat.reduceAdd, Nat.reduceSub, Nat.reduceMul, Nat.reduceLeDiff, Nat.reduceLT, Nat.reduceEqDiff, Nat.reduceBEq, ↓reduceIte, reduceCtorEq])
theorem slices_EqualFunc_Step_SameSel_1_l14_ok (s2 : List GStp) (s1 : List GStp) (x2 : Int) : Ok (slices_EqualFunc_Step_SameSel_1_l14 s2 s1 x2) e_slices_EqualFunc_Step_SameSel_1 (ev FTA c_slices_EqualFunc_Step_SameSel_1 (.loop k_slices_EqualFunc_Step_l14) [.lv 0, .th k_slices_EqualFunc_Step_r10] (putS (List.replicate 32 .dead) [(1, .t (.sl false (s2.map (GStp.row false)))), (2, .fn n_impl_SameSel_1 []), (15, .t (.sl false (s1.map (GStp.row false)))), (16, .t (.v (.int .i64 (lenL s1)))), (17, .t (.v (.int .i64 x2)))]) (putR (List.replicate 32 []) [])) := slices_EqualFunc_Step_SameSel_1_l14_ok' s2 s1 x2

theorem slices_EqualFunc_Step_SameSel_1_ok : ∀ (s1 : List GStp) (s2 : List GStp), Ok (slices_EqualFunc_Step_SameSel_1 s1 s2) e_slices_EqualFunc_Step_SameSel_1 (dn FTA n_slices_EqualFunc_Step [.t (.sl false (s1.map (GStp.row false))), .t (.sl false (s2.map (GStp.row false))), .fn n_impl_SameSel_1 []]) := by
  intro s1 s2
  rw [den_ev FTA (fn := k_slices_EqualFunc_Step) rfl (cloneX_none rfl _) (Nat.le_of_ble_eq_true rfl)]
  simp only [SSA, RS, c_slices_EqualFunc_Step_SameSel_1, k_slices_EqualFunc_Step, slices_EqualFunc_Step_SameSel_1, Nat.reduceAdd, Nat.reduceSub, Nat.reduceMul, Nat.reduceLeDiff, Nat.reduceLT, Nat.reduceEqDiff, Nat.reduceBEq, ↓reduceIte, reduceCtorEq]
  repeat' first
    | with_reducible exact Ok_none
    | ((with_reducible refine Ok_ret ?_); first | rfl | (simp only [SSA, RS, e_slices_EqualFunc_Step_SameSel_1, Nat.reduceAdd, Nat.reduceSub, Nat.reduceMul, Nat.reduceLeDiff, Nat.reduceLT, Nat.reduceEqDiff, Nat.reduceBEq, ↓reduceIte, reduceCtorEq]; done))
    | ((with_reducible refine Ok_tail (slices_EqualFunc_Step_SameSel_1_l14_ok _ _ _) ?_); first | rfl | (simp only [SSA, RS, c_slices_EqualFunc_Step_SameSel_1, Nat.reduceAdd, Nat.reduceSub, Nat.reduceMul, Nat.reduceLeDiff, Nat.reduceLT, Nat.reduceEqDiff, Nat.reduceBEq, ↓reduceIte, reduceCtorEq]; done) | (simp only [SSA, RS, c_slices_EqualFunc_Step_SameSel_1, Nat.reduceAdd, Nat.reduceSub, Nat.reduceMul, Nat.reduceLeDiff, Nat.reduceLT, Nat.reduceEqDiff, Nat.reduceBEq, ↓reduceIte, reduceCtorEq]; rfl))
    | ((first | with_reducible refine Ok_if (fun h => ?_) (fun h => ?_)) <;> simp only [SSA, RS, *, Nat.reduceAdd, Nat.reduceSub, Nat.reduceMul, Nat.reduceLeDiff, Nat.reduceLT, Nat.reduceEqDiff, Nat.reduceBEq, ↓reduceIte, reduceCtorEq])

def e_impl_SameSel (r : Bool) : Res := ⟨[.t (.v (.bool r))], []⟩
def c_impl_SameSel : Cx := ⟨2, [0, 0], [.tmp 4]⟩
theorem impl_SameSel_ok : ∀ (a : GSel) (b : GSel), Ok (impl_SameSel a b) e_impl_SameSel (dn FTA n_impl_SameSel [.agg (((GSel.row false) a).map .t), .agg (((GSel.row false) b).map .t)]) := by
  intro a b
  rw [den_ev FTA (fn := k_impl_SameSel) rfl (cloneX_none rfl _) (Nat.le_of_ble_eq_true rfl)]
  have g0 := slices_EqualFunc_Step_SameSel_1_ok; try simp only [SSA, RS, Nat.reduceAdd, Nat.reduceSub, Nat.reduceMul, Nat.reduceLeDiff, Nat.reduceLT, Nat.reduceEqDiff, Nat.reduceBEq, ↓reduceIte, reduceCtorEq] at g0
  simp only [SSA, RS, c_impl_SameSel, k_impl_SameSel, impl_SameSel, e_slices_EqualFunc_Step_SameSel_1, Nat.reduceAdd, Nat.reduceSub, Nat.reduceMul, Nat.reduceLeDiff, Nat.reduceLT, Nat.reduceEqDiff, Nat.reduceBEq, ↓reduceIte, reduceCtorEq]
  repeat' first
    | with_reducible exact Ok_none
    | ((with_reducible refine Ok_ret ?_); first | rfl | (simp only [SSA, RS, e_impl_SameSel, Nat.reduceAdd, Nat.reduceSub, Nat.reduceMul, Nat.reduceLeDiff, Nat.reduceLT, Nat.reduceEqDiff, Nat.reduceBEq, ↓reduceIte, reduceCtorEq]; done))
    | ((first | with_reducible refine Ok_if (fun h => ?_) (fun h => ?_) | with_reducible refine Ok_call (g0 _ _) fun v => ?_ | refine Ok_call (g0 _ _) fun v => ?_) <;> simp only [SSA, RS, *, e_slices_EqualFunc_Step_SameSel_1, Nat.reduceAdd, Nat.reduceSub, Nat.reduceMul, Nat.reduceLeDiff, Nat.reduceLT, Nat.reduceEqDiff, Nat.reduceBEq, ↓reduceIte, reduceCtorEq])

def e_laws_eqPred (r : Bool) : Res := ⟨[.t (.v (.bool r))], []⟩
def c_laws_eqPred : Cx := ⟨2, [0, 0], [.tmp 4]⟩
theorem laws_eqPred_ok : ∀ (a : GPred) (b : GPred), Ok (laws_eqPred a b) e_laws_eqPred (dn FTA n_laws_eqPred [.agg ((GPred.row a).map .t), .agg ((GPred.row b).map .t)]) := by
  intro a b
  rw [den_ev FTA (fn := k_laws_eqPred) rfl (cloneX_none rfl _) (Nat.le_of_ble_eq_true rfl)]
  simp only [SSA, RS, c_laws_eqPred, k_laws_eqPred, laws_eqPred, Nat.reduceAdd, Nat.reduceSub, Nat.reduceMul, Nat.reduceLeDiff, Nat.reduceLT, Nat.reduceEqDiff, Nat.reduceBEq, ↓reduceIte, reduceCtorEq]
  repeat' first
    | with_reducible exact Ok_none
    | ((with_reducible refine Ok_ret ?_); first | rfl | (simp only [SSA, RS, e_laws_eqPred, Nat.reduceAdd, Nat.reduceSub, Nat.reduceMul, Nat.reduceLeDiff, Nat.reduceLT, Nat.reduceEqDiff, Nat.reduceBEq, ↓reduceIte, reduceCtorEq]; done))
    | ((first | with_reducible refine Ok_if (fun h => ?_) (fun h => ?_)) <;> simp only [SSA, RS, *, Nat.reduceAdd, Nat.reduceSub, Nat.reduceMul, Nat.reduceLeDiff, Nat.reduceLT, Nat.reduceEqDiff, Nat.reduceBEq, ↓reduceIte, reduceCtorEq])

def e_laws_eqPredS (r : Bool) : Res := ⟨[.t (.v (.bool r))], []⟩
def c_laws_eqPredS : Cx := ⟨2, [0, 0], [.tmp 4]⟩
theorem laws_eqPredS_l14_ok' (a : List GPred) (b : List GPred) : ∀ (i : Int), Ok (laws_eqPredS_l14 a b i) e_laws_eqPredS (ev FTA c_laws_eqPredS (.loop k_laws_eqPredS_l14) [.lv 0, .th k_laws_eqPredS_r10] (putS (List.replicate 27 .dead) [(0, .t (.sl false (a.map GPred.row))), (1, .t (.sl false (b.map GPred.row))), (5, .t (.v (.int .i64 i)))]) (putR (List.replicate 27 []) [])) := by
  unfold Ok
  refine laws_eqPredS_l14.partial_correctness a b _ ?_
  intro F ih i
  show Ok _ _ _
  have ih : ∀ (i : Int), Ok (F i) _ _ := ih
  rw [ev_loop]
  have g0 := laws_eqPred_ok; try simp only [SSA, RS, Nat.reduceAdd, Nat.reduceSub, Nat.reduceMul, Nat.reduceLeDiff, Nat.reduceLT, Nat.reduceEqDiff, Nat.reduceBEq, ↓reduceIte, reduceCtorEq] at g0
  simp only [SSA, RS, c_laws_eqPredS, k_laws_eqPredS_l14, k_laws_eqPredS_r10, e_laws_eqPred, Nat.reduceAdd, Nat.reduceSub, Nat.reduceMul, Nat.reduceLeDiff, Nat.reduceLT, Nat.reduceEqDiff, Nat.reduceBEq, ↓reduceIte, reduceCtorEq]
  repeat' first
    | with_reducible exact Ok_none
    | ((with_reducible refine Ok_ret ?_); first | rfl | (simp only [SSA, RS, e_laws_eqPredS, Nat.reduceAdd, Nat.reduceSub, Nat.reduceMul, Nat.reduceLeDiff, Nat.reduceLT, Nat.reduceEqDiff, Nat.reduceBEq, ↓reduceIte, reduceCtorEq]; done))
    | ((with_reducible refine Ok_tail (ih _) ?_); first | rfl | (simp only [SSA, RS, c_laws_eqPredS, Nat.reduceAdd, Nat.reduceSub, Nat.reduceMul, Nat.reduceLeDiff, Nat.reduceLT, Nat.reduceEqDiff, Nat.reduceBEq, ↓reduceIte, reduceCtorEq]; done) | (simp only [SSA, RS, c_laws_eqPredS, Nat.reduceAdd, Nat.reduceSub, Nat.reduceMul, Nat.reduceLeDiff, Nat.reduceLT, Nat.reduceEqDiff, Nat.reduceBEq, ↓reduceIte, reduceCtorEq]; rfl))
    | ((first | with_reducible refine Ok_if (fun h => ?_) (fun h => ?_) | with_reducible refine Ok_get fun a h => ?_ | with_reducible refine Ok_call (g0 _ _) fun v => ?_ | refine Ok_call (g0 _ _) fun v => ?_) <;> simp only [SSA, RS, *, k_laws_eqPredS_r10, e_laws_eqPred, Nat.reduceAdd, Nat.reduceSub, Nat.reduceMul, Nat.reduceLeDiff, Nat.reduceLT, Nat.reduceEqDiff, Nat.reduceBEq, ↓reduceIte, reduceCtorEq])
theorem laws_eqPredS_l14_ok (a : List GPred) (b : List GPred) (i : Int) : Ok (laws_eqPredS_l14 a b i) e_laws_eqPredS (ev FTA c_laws_eqPredS (.loop k_laws_eqPredS_l14) [.lv 0, .th k_laws_eqPredS_r10] (putS (List.replicate 27 .dead) [(0, .t (.sl false (a.map GPred.row))), (1, .t (.sl false (b.map GPred.row))), (5, .t (.v (.int .i64 i)))]) (putR (List.replicate 27 []) [])) := laws_eqPredS_l14_ok' a b i

theorem laws_eqPredS_ok : ∀ (a : List GPred) (b : List GPred), Ok (laws_eqPredS a b) e_laws_eqPredS (dn FTA n_laws_eqPredS [.t (.sl false (a.map GPred.row)), .t (.sl false (b.map GPred.row))]) := by
  intro a b
  rw [den_ev FTA (fn := k_laws_eqPredS) rfl (cloneX_none rfl _) (Nat.le_of_ble_eq_true rfl)]
  simp only [SSA, RS, c_laws_eqPredS, k_laws_eqPredS, laws_eqPredS, Nat.reduceAdd, Nat.reduceSub, Nat.reduceMul, Nat.reduceLeDiff, Nat.reduceLT, Nat.reduceEqDiff, Nat.reduceBEq, ↓reduceIte, reduceCtorEq]
  repeat' first
    | with_reducible exact Ok_none
    | ((with_reducible refine Ok_ret ?_); first | rfl | (simp only [SSA, RS, e_laws_eqPredS, Nat.reduceAdd, Nat.reduceSub, Nat.reduceMul, Nat.reduceLeDiff, Nat.reduceLT, Nat.reduceEqDiff, Nat.reduceBEq, ↓reduceIte, reduceCtorEq]; done))
    | ((with_reducible refine Ok_tail (laws_eqPredS_l14_ok _ _ _) ?_); first | rfl | (simp only [SSA, RS, c_laws_eqPredS, Nat.reduceAdd, Nat.reduceSub, Nat.reduceMul, Nat.reduceLeDiff, Nat.reduceLT, Nat.reduceEqDiff, Nat.reduceBEq, ↓reduceIte, reduceCtorEq]; done) | (simp only [SSA, RS, c_laws_eqPredS, Nat.reduceAdd, Nat.reduceSub, Nat.reduceMul, Nat.reduceLeDiff, Nat.reduceLT, Nat.reduceEqDiff, Nat.reduceBEq, ↓reduceIte, reduceCtorEq]; rfl))
    | ((first | with_reducible refine Ok_if (fun h => ?_) (fun h => ?_)) <;> simp only [SSA, RS, *, Nat.reduceAdd, Nat.reduceSub, Nat.reduceMul, Nat.reduceLeDiff, Nat.reduceLT, Nat.reduceEqDiff, Nat.reduceBEq, ↓reduceIte, reduceCtorEq])

def e_laws_eqStep (r : Bool) : Res := ⟨[.t (.v (.bool r))], []⟩
def c_laws_eqStep : Cx := ⟨2, [0, 0], [.tmp 4]⟩
theorem laws_eqStep_ok : ∀ (a : GStp) (b : GStp), Ok (laws_eqStep a b) e_laws_eqStep (dn FTA n_laws_eqStep [.agg (((GStp.row false) a).map .t), .agg (((GStp.row false) b).map .t)]) := by
  intro a b
  rw [den_ev FTA (fn := k_laws_eqStep) rfl (cloneX_none rfl _) (Nat.le_of_ble_eq_true rfl)]
  have g0 := laws_eqPredS_ok; try simp only [SSA, RS, Nat.reduceAdd, Nat.reduceSub, Nat.reduceMul, Nat.reduceLeDiff, Nat.reduceLT, Nat.reduceEqDiff, Nat.reduceBEq, ↓reduceIte, reduceCtorEq] at g0
  simp only [SSA, RS, c_laws_eqStep, k_laws_eqStep, laws_eqStep, e_laws_eqPredS, Nat.reduceAdd, Nat.reduceSub, Nat.reduceMul, Nat.reduceLeDiff, Nat.reduceLT, Nat.reduceEqDiff, Nat.reduceBEq, ↓reduceIte, reduceCtorEq]
  repeat' first
    | with_reducible exact Ok_none
    | ((with_reducible refine Ok_ret ?_); first | rfl | (simp only [SSA, RS, e_laws_eqStep, Nat.reduceAdd, Nat.reduceSub, Nat.reduceMul, Nat.reduceLeDiff, Nat.reduceLT, Nat.reduceEqDiff, Nat.reduceBEq, ↓reduceIte, reduceCtorEq]; done))
    | ((first | with_reducible refine Ok_if (fun h => ?_) (fun h => ?_) | with_reducible refine Ok_call (g0 _ _) fun v => ?_ | refine Ok_call (g0 _ _) fun v => ?_) <;> simp only [SSA, RS, *, e_laws_eqPredS, Nat.reduceAdd, Nat.reduceSub, Nat.reduceMul, Nat.reduceLeDiff, Nat.reduceLT, Nat.reduceEqDiff, Nat.reduceBEq, ↓reduceIte, reduceCtorEq])

def e_laws_eqStepS (r : Bool) : Res := ⟨[.t (.v (.bool r))], []⟩
def c_laws_eqStepS : Cx := ⟨2, [0, 0], [.tmp 4]⟩
theorem laws_eqStepS_l14_ok' (a : List GStp) (b : List GStp) : ∀ (i : Int), Ok (laws_eqStepS_l14 a b i) e_laws_eqStepS (ev FTA c_laws_eqStepS (.loop k_laws_eqStepS_l14) [.lv 0, .th k_laws_eqStepS_r10] (putS (List.replicate 27 .dead) [(0, .t (.sl false (a.map (GStp.row false)))), (1, .t (.sl false (b.map (GStp.row false)))), (5, .t (.v (.int .i64 i)))]) (putR (List.replicate 27 []) [])) := by
  unfold Ok
  refine laws_eqStepS_l14.partial_correctness a b _ ?_
  intro F ih i
  show Ok _ _ _
  have ih : ∀ (i : Int), Ok (F i) _ _ := ih
  rw [ev_loop]
  have g0 := laws_eqStep_ok; try simp only [SSA, RS, Nat.reduceAdd, Nat.reduceSub, Nat.reduceMul, Nat.reduceLeDiff, Nat.reduceLT, Nat.reduceEqDiff, Nat.reduceBEq, ↓reduceIte, reduceCtorEq] at g0
  simp only [SSA, RS, c_laws_eqStepS, k_laws_eqStepS_l14, k_laws_eqStepS_r10, e_laws_eqStep, Nat.reduceAdd, Nat.reduceSub, Nat.reduceMul, Nat.reduceLeDiff, Nat.reduceLT, Nat.reduceEqDiff, Nat.reduceBEq, ↓reduceIte, reduceCtorEq]
  repeat' first
    | with_reducible exact Ok_none
    | ((with_reducible refine Ok_ret ?_); first | rfl | (simp only [SSA, RS, e_laws_eqStepS, Nat.reduceAdd, Nat.reduceSub, Nat.reduceMul, Nat.reduceLeDiff, Nat.reduceLT, Nat.reduceEqDiff, Nat.reduceBEq, ↓reduceIte, reduceCtorEq]; done))
    | ((with_reducible refine Ok_tail (ih _) ?_); first | rfl | (simp only [SSA, RS, c_laws_eqStepS, Nat.reduceAdd, Nat.reduceSub, Nat.reduceMul, Nat.reduceLeDiff, Nat.reduceLT, Nat.reduceEqDiff, Nat.reduceBEq, ↓reduceIte, reduceCtorEq]; done) | (simp only [SSA, RS, c_laws_eqStepS, Nat.reduceAdd, Nat.reduceSub, Nat.reduceMul, Nat.reduceLeDiff, Nat.reduceLT, Nat.reduceEqDiff, Nat.reduceBEq, ↓reduceIte, reduceCtorEq]; rfl))
    | ((first | with_reducible refine Ok_if (fun h => ?_) (fun h => ?_) | with_reducible refine Ok_get fun a h => ?_ | with_reducible refine Ok_call (g0 _ _) fun v => ?_ | refine Ok_call (g0 _ _) fun v => ?_) <;> simp only [SSA, RS, *, k_laws_eqStepS_r10, e_laws_eqStep, Nat.reduceAdd, Nat.reduceSub, Nat.reduceMul, Nat.reduceLeDiff, Nat.reduceLT, Nat.reduceEqDiff, Nat.reduceBEq, ↓reduceIte, reduceCtorEq])
theorem laws_eqStepS_l14_ok (a : List GStp) (b : List GStp) (i : Int) : Ok (laws_eqStepS_l14 a b i) e_laws_eqStepS (ev FTA c_laws_eqStepS (.loop k_laws_eqStepS_l14) [.lv 0, .th k_laws_eqStepS_r10] (putS (List.replicate 27 .dead) [(0, .t (.sl false (a.map (GStp.row false)))), (1, .t (.sl false (b.map (GStp.row false)))), (5, .t (.v (.int .i64 i)))]) (putR (List.replicate 27 []) [])) := laws_eqStepS_l14_ok' a b i

theorem laws_eqStepS_ok : ∀ (a : List GStp) (b : List GStp), Ok (laws_eqStepS a b) e_laws_eqStepS (dn FTA n_laws_eqStepS [.t (.sl false (a.map (GStp.row false))), .t (.sl false (b.map (GStp.row false)))]) := by
  intro a b
  rw [den_ev FTA (fn := k_laws_eqStepS) rfl (cloneX_none rfl _) (Nat.le_of_ble_eq_true rfl)]
  simp only [SSA, RS, c_laws_eqStepS, k_laws_eqStepS, laws_eqStepS, Nat.reduceAdd, Nat.reduceSub, Nat.reduceMul, Nat.reduceLeDiff, Nat.reduceLT, Nat.reduceEqDiff, Nat.reduceBEq, ↓reduceIte, reduceCtorEq]
  repeat' first
    | with_reducible exact Ok_none
    | ((with_reducible refine Ok_ret ?_); first | rfl | (simp only [SSA, RS, e_laws_eqStepS, Nat.reduceAdd, Nat.reduceSub, Nat.reduceMul, Nat.reduceLeDiff, Nat.reduceLT, Nat.reduceEqDiff, Nat.reduceBEq, ↓reduceIte, reduceCtorEq]; done))
    | ((with_reducible refine Ok_tail (laws_eqStepS_l14_ok _ _ _) ?_); first | rfl | (simp only [SSA, RS, c_laws_eqStepS, Nat.reduceAdd, Nat.reduceSub, Nat.reduceMul, Nat.reduceLeDiff, Nat.reduceLT, Nat.reduceEqDiff, Nat.reduceBEq, ↓reduceIte, reduceCtorEq]; done) | (simp only [SSA, RS, c_laws_eqStepS, Nat.reduceAdd, Nat.reduceSub, Nat.reduceMul, Nat.reduceLeDiff, Nat.reduceLT, Nat.reduceEqDiff, Nat.reduceBEq, ↓reduceIte, reduceCtorEq]; rfl))
    | ((first | with_reducible refine Ok_if (fun h => ?_) (fun h => ?_)) <;> simp only [SSA, RS, *, Nat.reduceAdd, Nat.reduceSub, Nat.reduceMul, Nat.reduceLeDiff, Nat.reduceLT, Nat.reduceEqDiff, Nat.reduceBEq, ↓reduceIte, reduceCtorEq])

def e_laws_eqSel (r : Bool) : Res := ⟨[.t (.v (.bool r))], []⟩
def c_laws_eqSel : Cx := ⟨2, [0, 0], [.tmp 4]⟩
theorem laws_eqSel_ok : ∀ (a : GSel) (b : GSel), Ok (laws_eqSel a b) e_laws_eqSel (dn FTA n_laws_eqSel [.agg (((GSel.row false) a).map .t), .agg (((GSel.row false) b).map .t)]) := by
  intro a b
  rw [den_ev FTA (fn := k_laws_eqSel) rfl (cloneX_none rfl _) (Nat.le_of_ble_eq_true rfl)]
  have g0 := laws_eqStepS_ok; try simp only [SSA, RS, Nat.reduceAdd, Nat.reduceSub, Nat.reduceMul, Nat.reduceLeDiff, Nat.reduceLT, Nat.reduceEqDiff, Nat.reduceBEq, ↓reduceIte, reduceCtorEq] at g0
  simp only [SSA, RS, c_laws_eqSel, k_laws_eqSel, laws_eqSel, e_laws_eqStepS, Nat.reduceAdd, Nat.reduceSub, Nat.reduceMul, Nat.reduceLeDiff, Nat.reduceLT, Nat.reduceEqDiff, Nat.reduceBEq, ↓reduceIte, reduceCtorEq]
  repeat' first
    | with_reducible exact Ok_none
    | ((with_reducible refine Ok_ret ?_); first | rfl | (simp only [SSA, RS, e_laws_eqSel, Nat.reduceAdd, Nat.reduceSub, Nat.reduceMul, Nat.reduceLeDiff, Nat.reduceLT, Nat.reduceEqDiff, Nat.reduceBEq, ↓reduceIte, reduceCtorEq]; done))
    | ((first | with_reducible refine Ok_if (fun h => ?_) (fun h => ?_) | with_reducible refine Ok_call (g0 _ _) fun v => ?_ | refine Ok_call (g0 _ _) fun v => ?_) <;> simp only [SSA, RS, *, e_laws_eqStepS, Nat.reduceAdd, Nat.reduceSub, Nat.reduceMul, Nat.reduceLeDiff, Nat.reduceLT, Nat.reduceEqDiff, Nat.reduceBEq, ↓reduceIte, reduceCtorEq])

def e_laws_FnExactSameSel (r : Bool) : Res := ⟨[.t (.v (.bool r))], []⟩
def c_laws_FnExactSameSel : Cx := ⟨2, [0, 0], [.tmp 4]⟩
theorem laws_FnExactSameSel_ok : ∀ (aA : GSel) (aB : GSel), Ok (laws_FnExactSameSel aA aB) e_laws_FnExactSameSel (dn FTA n_laws_FnExactSameSel [.agg (((GSel.row false) aA).map .t), .agg (((GSel.row false) aB).map .t)]) := by
  intro aA aB
  rw [den_ev FTA (fn := k_laws_FnExactSameSel) rfl (cloneX_none rfl _) (Nat.le_of_ble_eq_true rfl)]
  have g0 := laws_szSel_ok; try simp only [SSA, RS, Nat.reduceAdd, Nat.reduceSub, Nat.reduceMul, Nat.reduceLeDiff, Nat.reduceLT, Nat.reduceEqDiff, Nat.reduceBEq, ↓reduceIte, reduceCtorEq] at g0
  have g1 := laws_toSel_ok; try simp only [SSA, RS, Nat.reduceAdd, Nat.reduceSub, Nat.reduceMul, Nat.reduceLeDiff, Nat.reduceLT, Nat.reduceEqDiff, Nat.reduceBEq, ↓reduceIte, reduceCtorEq] at g1
  have g2 := spec_SameSel_ok; try simp only [SSA, RS, Nat.reduceAdd, Nat.reduceSub, Nat.reduceMul, Nat.reduceLeDiff, Nat.reduceLT, Nat.reduceEqDiff, Nat.reduceBEq, ↓reduceIte, reduceCtorEq] at g2
  have g3 := impl_SameSel_ok; try simp only [SSA, RS, Nat.reduceAdd, Nat.reduceSub, Nat.reduceMul, Nat.reduceLeDiff, Nat.reduceLT, Nat.reduceEqDiff, Nat.reduceBEq, ↓reduceIte, reduceCtorEq] at g3
  have g4 := laws_eqSel_ok; try simp only [SSA, RS, Nat.reduceAdd, Nat.reduceSub, Nat.reduceMul, Nat.reduceLeDiff, Nat.reduceLT, Nat.reduceEqDiff, Nat.reduceBEq, ↓reduceIte, reduceCtorEq] at g4
  simp only [SSA, RS, c_laws_FnExactSameSel, k_laws_FnExactSameSel, laws_FnExactSameSel, e_impl_SameSel, e_laws_eqSel, e_laws_szSel, e_laws_toSel, e_spec_SameSel, Nat.reduceAdd, Nat.reduceSub, Nat.reduceMul, Nat.reduceLeDiff, Nat.reduceLT, Nat.reduceEqDiff, Nat.reduceBEq, ↓reduceIte, reduceCtorEq]
  repeat' first
    | with_reducible exact Ok_none
    | ((with_reducible refine Ok_ret ?_); first | rfl | (simp only [SSA, RS, e_laws_FnExactSameSel, Nat.reduceAdd, Nat.reduceSub, Nat.reduceMul, Nat.reduceLeDiff, Nat.reduceLT, Nat.reduceEqDiff, Nat.reduceBEq, ↓reduceIte, reduceCtorEq]; done))
    | ((first | with_reducible refine Ok_if (fun h => ?_) (fun h => ?_) | with_reducible refine Ok_call (g0 _ _) fun v => ?_ | with_reducible refine Ok_call (g1 _) fun v => ?_ | with_reducible refine Ok_call (g2 _ _) fun v => ?_ | with_reducible refine Ok_call (g3 _ _) fun v => ?_ | with_reducible refine Ok_call (g4 _ _) fun v => ?_ | refine Ok_call (g0 _ _) fun v => ?_ | refine Ok_call (g1 _) fun v => ?_ | refine Ok_call (g2 _ _) fun v => ?_ | refine Ok_call (g3 _ _) fun v => ?_ | refine Ok_call (g4 _ _) fun v => ?_) <;> simp only [SSA, RS, *, e_impl_SameSel, e_laws_eqSel, e_laws_szSel, e_laws_toSel, e_spec_SameSel, Nat.reduceAdd, Nat.reduceSub, Nat.reduceMul, Nat.reduceLeDiff, Nat.reduceLT, Nat.reduceEqDiff, Nat.reduceBEq, ↓reduceIte, reduceCtorEq])

end TT
