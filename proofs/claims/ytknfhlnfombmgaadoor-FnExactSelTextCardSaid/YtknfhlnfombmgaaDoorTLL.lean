import Derived.Test.YtknfhlnfombmgaaDoorTKK
import Derived.Test.YtknfhlnfombmgaaDoorTDefs
set_option linter.unusedVariables false
set_option linter.unusedSimpArgs false
set_option linter.defProp false
set_option maxRecDepth 100000
namespace TT
open Go
def e_laws_szPred (r : Int) : Res := ⟨[.t (.v (.int .i64 r))], []⟩
def c_laws_szPred : Cx := ⟨2, [0, 0], [.tmp 4]⟩
theorem laws_szPred_ok : ∀ (a : GPred) (left : Int), Ok (laws_szPred a left) e_laws_szPred (dn FTA n_laws_szPred [.agg ((GPred.row a).map .t), .t (.v (.int .i64 left))]) := by
  intro a left
  rw [den_ev FTA (fn := k_laws_szPred) rfl (xOf_none rfl rfl _) (Nat.le_of_ble_eq_true rfl)]
  simp only [SSA, RS, c_laws_szPred, k_laws_szPred, laws_szPred, Nat.reduceAdd, Nat.reduceSub, Nat.reduceMul, Nat.reduceLeDiff, Nat.reduceLT, Nat.reduceEqDiff, Nat.reduceBEq, ↓reduceIte, reduceCtorEq]
  repeat' first
    | with_reducible exact Ok_none
    | ((with_reducible refine Ok_ret ?_); first | rfl | (simp only [SSA, RS, e_laws_szPred, Nat.reduceAdd, Nat.reduceSub, Nat.reduceMul, Nat.reduceLeDiff, Nat.reduceLT, Nat.reduceEqDiff, Nat.reduceBEq, ↓reduceIte, reduceCtorEq]; done))
    | ((first | with_reducible refine Ok_if (fun h => ?_) (fun h => ?_)) <;> simp only [SSA, RS, *, Nat.reduceAdd, Nat.reduceSub, Nat.reduceMul, Nat.reduceLeDiff, Nat.reduceLT, Nat.reduceEqDiff, Nat.reduceBEq, ↓reduceIte, reduceCtorEq])

def e_laws_szPredS (r : Int) : Res := ⟨[.t (.v (.int .i64 r))], []⟩
def c_laws_szPredS : Cx := ⟨2, [0, 0], [.tmp 4]⟩
theorem laws_szPredS_l16_ok' (a : List GPred) : ∀ (left1 : Int) (i : Int), Ok (laws_szPredS_l16 a left1 i) e_laws_szPredS (ev FTA c_laws_szPredS (.loop k_laws_szPredS_l16) [.lv 0, .th k_laws_szPredS_r12] (putS (List.replicate 27 .dead) [(0, .t (.sl false (a.map GPred.row))), (1, .t (.v (.int .i64 left1))), (5, .t (.v (.int .i64 i)))]) (putR (List.replicate 27 []) [])) := by
  unfold Ok
  refine laws_szPredS_l16.partial_correctness a _ ?_
  intro F ih left1 i
  show Ok _ _ _
  have ih : ∀ (left1 : Int) (i : Int), Ok (F left1 i) _ _ := ih
  rw [ev_loop]
  have g0 := laws_szPred_ok; try simp only [SSA, RS, Nat.reduceAdd, Nat.reduceSub, Nat.reduceMul, Nat.reduceLeDiff, Nat.reduceLT, Nat.reduceEqDiff, Nat.reduceBEq, ↓reduceIte, reduceCtorEq] at g0
  simp only [SSA, RS, c_laws_szPredS, k_laws_szPredS_l16, k_laws_szPredS_r12, e_laws_szPred, Nat.reduceAdd, Nat.reduceSub, Nat.reduceMul, Nat.reduceLeDiff, Nat.reduceLT, Nat.reduceEqDiff, Nat.reduceBEq, ↓reduceIte, reduceCtorEq]
  repeat' first
    | with_reducible exact Ok_none
    | ((with_reducible refine Ok_ret ?_); first | rfl | (simp only [SSA, RS, e_laws_szPredS, Nat.reduceAdd, Nat.reduceSub, Nat.reduceMul, Nat.reduceLeDiff, Nat.reduceLT, Nat.reduceEqDiff, Nat.reduceBEq, ↓reduceIte, reduceCtorEq]; done))
    | ((with_reducible refine Ok_tail (ih _ _) ?_); first | rfl | (simp only [SSA, RS, c_laws_szPredS, Nat.reduceAdd, Nat.reduceSub, Nat.reduceMul, Nat.reduceLeDiff, Nat.reduceLT, Nat.reduceEqDiff, Nat.reduceBEq, ↓reduceIte, reduceCtorEq]; done) | (simp only [SSA, RS, c_laws_szPredS, Nat.reduceAdd, Nat.reduceSub, Nat.reduceMul, Nat.reduceLeDiff, Nat.reduceLT, Nat.reduceEqDiff, Nat.reduceBEq, ↓reduceIte, reduceCtorEq]; rfl))
    | ((first | with_reducible refine Ok_if (fun h => ?_) (fun h => ?_) | with_reducible refine Ok_get fun a h => ?_ | with_reducible refine Ok_call (g0 _ _) fun v => ?_ | refine Ok_call (g0 _ _) fun v => ?_) <;> simp only [SSA, RS, *, k_laws_szPredS_r12, e_laws_szPred, Nat.reduceAdd, Nat.reduceSub, Nat.reduceMul, Nat.reduceLeDiff, Nat.reduceLT, Nat.reduceEqDiff, Nat.reduceBEq, ↓reduceIte, reduceCtorEq])
theorem laws_szPredS_l16_ok (a : List GPred) (left1 : Int) (i : Int) : Ok (laws_szPredS_l16 a left1 i) e_laws_szPredS (ev FTA c_laws_szPredS (.loop k_laws_szPredS_l16) [.lv 0, .th k_laws_szPredS_r12] (putS (List.replicate 27 .dead) [(0, .t (.sl false (a.map GPred.row))), (1, .t (.v (.int .i64 left1))), (5, .t (.v (.int .i64 i)))]) (putR (List.replicate 27 []) [])) := laws_szPredS_l16_ok' a left1 i

theorem laws_szPredS_ok : ∀ (a : List GPred) (left : Int), Ok (laws_szPredS a left) e_laws_szPredS (dn FTA n_laws_szPredS [.t (.sl false (a.map GPred.row)), .t (.v (.int .i64 left))]) := by
  intro a left
  rw [den_ev FTA (fn := k_laws_szPredS) rfl (xOf_none rfl rfl _) (Nat.le_of_ble_eq_true rfl)]
  simp only [SSA, RS, c_laws_szPredS, k_laws_szPredS, laws_szPredS, Nat.reduceAdd, Nat.reduceSub, Nat.reduceMul, Nat.reduceLeDiff, Nat.reduceLT, Nat.reduceEqDiff, Nat.reduceBEq, ↓reduceIte, reduceCtorEq]
  repeat' first
    | with_reducible exact Ok_none
    | ((with_reducible refine Ok_ret ?_); first | rfl | (simp only [SSA, RS, e_laws_szPredS, Nat.reduceAdd, Nat.reduceSub, Nat.reduceMul, Nat.reduceLeDiff, Nat.reduceLT, Nat.reduceEqDiff, Nat.reduceBEq, ↓reduceIte, reduceCtorEq]; done))
    | ((with_reducible refine Ok_tail (laws_szPredS_l16_ok _ _ _) ?_); first | rfl | (simp only [SSA, RS, c_laws_szPredS, Nat.reduceAdd, Nat.reduceSub, Nat.reduceMul, Nat.reduceLeDiff, Nat.reduceLT, Nat.reduceEqDiff, Nat.reduceBEq, ↓reduceIte, reduceCtorEq]; done) | (simp only [SSA, RS, c_laws_szPredS, Nat.reduceAdd, Nat.reduceSub, Nat.reduceMul, Nat.reduceLeDiff, Nat.reduceLT, Nat.reduceEqDiff, Nat.reduceBEq, ↓reduceIte, reduceCtorEq]; rfl))
    | ((first | with_reducible refine Ok_if (fun h => ?_) (fun h => ?_)) <;> simp only [SSA, RS, *, Nat.reduceAdd, Nat.reduceSub, Nat.reduceMul, Nat.reduceLeDiff, Nat.reduceLT, Nat.reduceEqDiff, Nat.reduceBEq, ↓reduceIte, reduceCtorEq])

def e_laws_szStep (r : Int) : Res := ⟨[.t (.v (.int .i64 r))], []⟩
def c_laws_szStep : Cx := ⟨2, [0, 0], [.tmp 4]⟩
theorem laws_szStep_ok : ∀ (a : GStp) (left : Int), Ok (laws_szStep a left) e_laws_szStep (dn FTA n_laws_szStep [.agg (((GStp.row false) a).map .t), .t (.v (.int .i64 left))]) := by
  intro a left
  rw [den_ev FTA (fn := k_laws_szStep) rfl (xOf_none rfl rfl _) (Nat.le_of_ble_eq_true rfl)]
  have g0 := laws_szPredS_ok; try simp only [SSA, RS, Nat.reduceAdd, Nat.reduceSub, Nat.reduceMul, Nat.reduceLeDiff, Nat.reduceLT, Nat.reduceEqDiff, Nat.reduceBEq, ↓reduceIte, reduceCtorEq] at g0
  simp only [SSA, RS, c_laws_szStep, k_laws_szStep, laws_szStep, e_laws_szPredS, Nat.reduceAdd, Nat.reduceSub, Nat.reduceMul, Nat.reduceLeDiff, Nat.reduceLT, Nat.reduceEqDiff, Nat.reduceBEq, ↓reduceIte, reduceCtorEq]
  repeat' first
    | with_reducible exact Ok_none
    | ((with_reducible refine Ok_ret ?_); first | rfl | (simp only [SSA, RS, e_laws_szStep, Nat.reduceAdd, Nat.reduceSub, Nat.reduceMul, Nat.reduceLeDiff, Nat.reduceLT, Nat.reduceEqDiff, Nat.reduceBEq, ↓reduceIte, reduceCtorEq]; done))
    | ((first | with_reducible refine Ok_if (fun h => ?_) (fun h => ?_) | with_reducible refine Ok_call (g0 _ _) fun v => ?_ | refine Ok_call (g0 _ _) fun v => ?_) <;> simp only [SSA, RS, *, e_laws_szPredS, Nat.reduceAdd, Nat.reduceSub, Nat.reduceMul, Nat.reduceLeDiff, Nat.reduceLT, Nat.reduceEqDiff, Nat.reduceBEq, ↓reduceIte, reduceCtorEq])

def e_laws_szStepS (r : Int) : Res := ⟨[.t (.v (.int .i64 r))], []⟩
def c_laws_szStepS : Cx := ⟨2, [0, 0], [.tmp 4]⟩
theorem laws_szStepS_l16_ok' (a : List GStp) : ∀ (left1 : Int) (i : Int), Ok (laws_szStepS_l16 a left1 i) e_laws_szStepS (ev FTA c_laws_szStepS (.loop k_laws_szStepS_l16) [.lv 0, .th k_laws_szStepS_r12] (putS (List.replicate 27 .dead) [(0, .t (.sl false (a.map (GStp.row false)))), (1, .t (.v (.int .i64 left1))), (5, .t (.v (.int .i64 i)))]) (putR (List.replicate 27 []) [])) := by
  unfold Ok
  refine laws_szStepS_l16.partial_correctness a _ ?_
  intro F ih left1 i
  show Ok _ _ _
  have ih : ∀ (left1 : Int) (i : Int), Ok (F left1 i) _ _ := ih
  rw [ev_loop]
  have g0 := laws_szStep_ok; try simp only [SSA, RS, Nat.reduceAdd, Nat.reduceSub, Nat.reduceMul, Nat.reduceLeDiff, Nat.reduceLT, Nat.reduceEqDiff, Nat.reduceBEq, ↓reduceIte, reduceCtorEq] at g0
  simp only [SSA, RS, c_laws_szStepS, k_laws_szStepS_l16, k_laws_szStepS_r12, e_laws_szStep, Nat.reduceAdd, Nat.reduceSub, Nat.reduceMul, Nat.reduceLeDiff, Nat.reduceLT, Nat.reduceEqDiff, Nat.reduceBEq, ↓reduceIte, reduceCtorEq]
  repeat' first
    | with_reducible exact Ok_none
    | ((with_reducible refine Ok_ret ?_); first | rfl | (simp only [SSA, RS, e_laws_szStepS, Nat.reduceAdd, Nat.reduceSub, Nat.reduceMul, Nat.reduceLeDiff, Nat.reduceLT, Nat.reduceEqDiff, Nat.reduceBEq, ↓reduceIte, reduceCtorEq]; done))
    | ((with_reducible refine Ok_tail (ih _ _) ?_); first | rfl | (simp only [SSA, RS, c_laws_szStepS, Nat.reduceAdd, Nat.reduceSub, Nat.reduceMul, Nat.reduceLeDiff, Nat.reduceLT, Nat.reduceEqDiff, Nat.reduceBEq, ↓reduceIte, reduceCtorEq]; done) | (simp only [SSA, RS, c_laws_szStepS, Nat.reduceAdd, Nat.reduceSub, Nat.reduceMul, Nat.reduceLeDiff, Nat.reduceLT, Nat.reduceEqDiff, Nat.reduceBEq, ↓reduceIte, reduceCtorEq]; rfl))
    | ((first | with_reducible refine Ok_if (fun h => ?_) (fun h => ?_) | with_reducible refine Ok_get fun a h => ?_ | with_reducible refine Ok_call (g0 _ _) fun v => ?_ | refine Ok_call (g0 _ _) fun v => ?_) <;> simp only [SSA, RS, *, k_laws_szStepS_r12, e_laws_szStep, Nat.reduceAdd, Nat.reduceSub, Nat.reduceMul, Nat.reduceLeDiff, Nat.reduceLT, Nat.reduceEqDiff, Nat.reduceBEq, ↓reduceIte, reduceCtorEq])
theorem laws_szStepS_l16_ok (a : List GStp) (left1 : Int) (i : Int) : Ok (laws_szStepS_l16 a left1 i) e_laws_szStepS (ev FTA c_laws_szStepS (.loop k_laws_szStepS_l16) [.lv 0, .th k_laws_szStepS_r12] (putS (List.replicate 27 .dead) [(0, .t (.sl false (a.map (GStp.row false)))), (1, .t (.v (.int .i64 left1))), (5, .t (.v (.int .i64 i)))]) (putR (List.replicate 27 []) [])) := laws_szStepS_l16_ok' a left1 i

theorem laws_szStepS_ok : ∀ (a : List GStp) (left : Int), Ok (laws_szStepS a left) e_laws_szStepS (dn FTA n_laws_szStepS [.t (.sl false (a.map (GStp.row false))), .t (.v (.int .i64 left))]) := by
  intro a left
  rw [den_ev FTA (fn := k_laws_szStepS) rfl (xOf_none rfl rfl _) (Nat.le_of_ble_eq_true rfl)]
  simp only [SSA, RS, c_laws_szStepS, k_laws_szStepS, laws_szStepS, Nat.reduceAdd, Nat.reduceSub, Nat.reduceMul, Nat.reduceLeDiff, Nat.reduceLT, Nat.reduceEqDiff, Nat.reduceBEq, ↓reduceIte, reduceCtorEq]
  repeat' first
    | with_reducible exact Ok_none
    | ((with_reducible refine Ok_ret ?_); first | rfl | (simp only [SSA, RS, e_laws_szStepS, Nat.reduceAdd, Nat.reduceSub, Nat.reduceMul, Nat.reduceLeDiff, Nat.reduceLT, Nat.reduceEqDiff, Nat.reduceBEq, ↓reduceIte, reduceCtorEq]; done))
    | ((with_reducible refine Ok_tail (laws_szStepS_l16_ok _ _ _) ?_); first | rfl | (simp only [SSA, RS, c_laws_szStepS, Nat.reduceAdd, Nat.reduceSub, Nat.reduceMul, Nat.reduceLeDiff, Nat.reduceLT, Nat.reduceEqDiff, Nat.reduceBEq, ↓reduceIte, reduceCtorEq]; done) | (simp only [SSA, RS, c_laws_szStepS, Nat.reduceAdd, Nat.reduceSub, Nat.reduceMul, Nat.reduceLeDiff, Nat.reduceLT, Nat.reduceEqDiff, Nat.reduceBEq, ↓reduceIte, reduceCtorEq]; rfl))
    | ((first | with_reducible refine Ok_if (fun h => ?_) (fun h => ?_)) <;> simp only [SSA, RS, *, Nat.reduceAdd, Nat.reduceSub, Nat.reduceMul, Nat.reduceLeDiff, Nat.reduceLT, Nat.reduceEqDiff, Nat.reduceBEq, ↓reduceIte, reduceCtorEq])

def e_laws_szSel (r : Int) : Res := ⟨[.t (.v (.int .i64 r))], []⟩
def c_laws_szSel : Cx := ⟨2, [0, 0], [.tmp 4]⟩
theorem laws_szSel_ok : ∀ (a : GSel) (left : Int), Ok (laws_szSel a left) e_laws_szSel (dn FTA n_laws_szSel [.agg (((GSel.row false) a).map .t), .t (.v (.int .i64 left))]) := by
  intro a left
  rw [den_ev FTA (fn := k_laws_szSel) rfl (xOf_none rfl rfl _) (Nat.le_of_ble_eq_true rfl)]
  have g0 := laws_szStepS_ok; try simp only [SSA, RS, Nat.reduceAdd, Nat.reduceSub, Nat.reduceMul, Nat.reduceLeDiff, Nat.reduceLT, Nat.reduceEqDiff, Nat.reduceBEq, ↓reduceIte, reduceCtorEq] at g0
  simp only [SSA, RS, c_laws_szSel, k_laws_szSel, laws_szSel, e_laws_szStepS, Nat.reduceAdd, Nat.reduceSub, Nat.reduceMul, Nat.reduceLeDiff, Nat.reduceLT, Nat.reduceEqDiff, Nat.reduceBEq, ↓reduceIte, reduceCtorEq]
  repeat' first
    | with_reducible exact Ok_none
    | ((with_reducible refine Ok_ret ?_); first | rfl | (simp only [SSA, RS, e_laws_szSel, Nat.reduceAdd, Nat.reduceSub, Nat.reduceMul, Nat.reduceLeDiff, Nat.reduceLT, Nat.reduceEqDiff, Nat.reduceBEq, ↓reduceIte, reduceCtorEq]; done))
    | ((first | with_reducible refine Ok_if (fun h => ?_) (fun h => ?_) | with_reducible refine Ok_call (g0 _ _) fun v => ?_ | refine Ok_call (g0 _ _) fun v => ?_) <;> simp only [SSA, RS, *, e_laws_szStepS, Nat.reduceAdd, Nat.reduceSub, Nat.reduceMul, Nat.reduceLeDiff, Nat.reduceLT, Nat.reduceEqDiff, Nat.reduceBEq, ↓reduceIte, reduceCtorEq])

def e_laws_toPred (r : GPred) : Res := ⟨[.agg [.v (.int .i64 r.Kind), .v (.int .i64 r.N), .v (.string r.Pre), .v (.string r.Local), .v (.string r.Val)]], []⟩
def c_laws_toPred : Cx := ⟨1, [0], [.cell 2 5 true]⟩
theorem laws_toPred_ok : ∀ (a : GPred), Ok (laws_toPred a) e_laws_toPred (dn FTA n_laws_toPred [.agg ((GPred.row a).map .t)]) := by
  intro a
  rw [den_ev FTA (fn := k_laws_toPred) rfl (xOf_none rfl rfl _) (Nat.le_of_ble_eq_true rfl)]
  simp only [SSA, RS, c_laws_toPred, k_laws_toPred, laws_toPred, Nat.reduceAdd, Nat.reduceSub, Nat.reduceMul, Nat.reduceLeDiff, Nat.reduceLT, Nat.reduceEqDiff, Nat.reduceBEq, ↓reduceIte, reduceCtorEq]
  repeat' first
    | with_reducible exact Ok_none
    | ((with_reducible refine Ok_ret ?_); first | rfl | (simp only [SSA, RS, e_laws_toPred, Nat.reduceAdd, Nat.reduceSub, Nat.reduceMul, Nat.reduceLeDiff, Nat.reduceLT, Nat.reduceEqDiff, Nat.reduceBEq, ↓reduceIte, reduceCtorEq]; done))

def e_laws_toPredS (r : List GPred) : Res := ⟨[.t (.sl true (r.map GPred.row))], []⟩
def c_laws_toPredS : Cx := ⟨1, [0], [.tmp 2]⟩
theorem laws_toPredS_l8_ok' (a : List GPred) : ∀ (out : List (GPred)) (i : Int), Ok (laws_toPredS_l8 a out i) e_laws_toPredS (ev FTA c_laws_toPredS (.loop k_laws_toPredS_l8) [.lv 0, .th k_laws_toPredS_r4] (putS (List.replicate 23 .dead) [(0, .t (.sl false (a.map GPred.row))), (3, .ref (7, 0) out.length), (4, .t (.v (.int .i64 i)))]) (putR (List.replicate 23 []) [(7, [.mem (out.map GPred.row) 0 false])])) := by
  unfold Ok
  refine laws_toPredS_l8.partial_correctness a _ ?_
  intro F ih out i
  show Ok _ _ _
  have ih : ∀ (out : List (GPred)) (i : Int), Ok (F out i) _ _ := ih
  rw [ev_loop]
  have g0 := laws_toPred_ok; try simp only [SSA, RS, Nat.reduceAdd, Nat.reduceSub, Nat.reduceMul, Nat.reduceLeDiff, Nat.reduceLT, Nat.reduceEqDiff, Nat.reduceBEq, ↓reduceIte, reduceCtorEq] at g0
  simp only [SSA, RS, c_laws_toPredS, k_laws_toPredS_l8, k_laws_toPredS_r4, e_laws_toPred, Nat.reduceAdd, Nat.reduceSub, Nat.reduceMul, Nat.reduceLeDiff, Nat.reduceLT, Nat.reduceEqDiff, Nat.reduceBEq, ↓reduceIte, reduceCtorEq]
  repeat' first
    | with_reducible exact Ok_none
    | ((with_reducible refine Ok_ret ?_); first | rfl | (simp only [SSA, RS, e_laws_toPredS, Nat.reduceAdd, Nat.reduceSub, Nat.reduceMul, Nat.reduceLeDiff, Nat.reduceLT, Nat.reduceEqDiff, Nat.reduceBEq, ↓reduceIte, reduceCtorEq]; done))
    | ((with_reducible refine Ok_tail (ih _ _) ?_); first | rfl | (simp only [SSA, RS, c_laws_toPredS, Nat.reduceAdd, Nat.reduceSub, Nat.reduceMul, Nat.reduceLeDiff, Nat.reduceLT, Nat.reduceEqDiff, Nat.reduceBEq, ↓reduceIte, reduceCtorEq]; done) | (simp only [SSA, RS, c_laws_toPredS, Nat.reduceAdd, Nat.reduceSub, Nat.reduceMul, Nat.reduceLeDiff, Nat.reduceLT, Nat.reduceEqDiff, Nat.reduceBEq, ↓reduceIte, reduceCtorEq]; rfl))
    | ((first | with_reducible refine Ok_if (fun h => ?_) (fun h => ?_) | with_reducible refine Ok_get fun a h => ?_ | with_reducible refine Ok_call (g0 _) fun v => ?_ | refine Ok_call (g0 _) fun v => ?_) <;> simp only [SSA, RS, *, k_laws_toPredS_r4, e_laws_toPred, Nat.reduceAdd, Nat.reduceSub, Nat.reduceMul, Nat.reduceLeDiff, Nat.reduceLT, Nat.reduceEqDiff, Nat.reduceBEq, ↓reduceIte, reduceCtorEq])
theorem laws_toPredS_l8_ok (a : List GPred) (out : List (GPred)) (i : Int) : Ok (laws_toPredS_l8 a out i) e_laws_toPredS (ev FTA c_laws_toPredS (.loop k_laws_toPredS_l8) [.lv 0, .th k_laws_toPredS_r4] (putS (List.replicate 23 .dead) [(0, .t (.sl false (a.map GPred.row))), (3, .ref (7, 0) out.length), (4, .t (.v (.int .i64 i)))]) (putR (List.replicate 23 []) [(7, [.mem (out.map GPred.row) 0 false])])) := laws_toPredS_l8_ok' a out i

theorem laws_toPredS_ok : ∀ (a : List GPred), Ok (laws_toPredS a) e_laws_toPredS (dn FTA n_laws_toPredS [.t (.sl false (a.map GPred.row))]) := by
  intro a
  rw [den_ev FTA (fn := k_laws_toPredS) rfl (xOf_none rfl rfl _) (Nat.le_of_ble_eq_true rfl)]
  simp only [SSA, RS, c_laws_toPredS, k_laws_toPredS, laws_toPredS, Nat.reduceAdd, Nat.reduceSub, Nat.reduceMul, Nat.reduceLeDiff, Nat.reduceLT, Nat.reduceEqDiff, Nat.reduceBEq, ↓reduceIte, reduceCtorEq]
  repeat' first
    | with_reducible exact Ok_none
    | ((with_reducible refine Ok_ret ?_); first | rfl | (simp only [SSA, RS, e_laws_toPredS, Nat.reduceAdd, Nat.reduceSub, Nat.reduceMul, Nat.reduceLeDiff, Nat.reduceLT, Nat.reduceEqDiff, Nat.reduceBEq, ↓reduceIte, reduceCtorEq]; done))
    | ((with_reducible refine Ok_tail (laws_toPredS_l8_ok _ _ _) ?_); first | rfl | (simp only [SSA, RS, c_laws_toPredS, Nat.reduceAdd, Nat.reduceSub, Nat.reduceMul, Nat.reduceLeDiff, Nat.reduceLT, Nat.reduceEqDiff, Nat.reduceBEq, ↓reduceIte, reduceCtorEq]; done) | (simp only [SSA, RS, c_laws_toPredS, Nat.reduceAdd, Nat.reduceSub, Nat.reduceMul, Nat.reduceLeDiff, Nat.reduceLT, Nat.reduceEqDiff, Nat.reduceBEq, ↓reduceIte, reduceCtorEq]; rfl))
    | ((first | with_reducible refine Ok_prim (p := mkN _ _) fun a h => ?_) <;> simp only [SSA, RS, *, Nat.reduceAdd, Nat.reduceSub, Nat.reduceMul, Nat.reduceLeDiff, Nat.reduceLT, Nat.reduceEqDiff, Nat.reduceBEq, ↓reduceIte, reduceCtorEq])

def e_laws_toStep (r : GStp) : Res := ⟨[.agg [.v (.bool r.Deep), .v (.int .i64 r.Kind), .v (.string r.Pre), .v (.string r.Local), .sl true (r.Preds.map GPred.row)]], []⟩
def c_laws_toStep : Cx := ⟨1, [0], [.cell 2 5 true]⟩
theorem laws_toStep_ok : ∀ (a : GStp), Ok (laws_toStep a) e_laws_toStep (dn FTA n_laws_toStep [.agg (((GStp.row false) a).map .t)]) := by
  intro a
  rw [den_ev FTA (fn := k_laws_toStep) rfl (xOf_none rfl rfl _) (Nat.le_of_ble_eq_true rfl)]
  have g0 := laws_toPredS_ok; try simp only [SSA, RS, Nat.reduceAdd, Nat.reduceSub, Nat.reduceMul, Nat.reduceLeDiff, Nat.reduceLT, Nat.reduceEqDiff, Nat.reduceBEq, ↓reduceIte, reduceCtorEq] at g0
  simp only [SSA, RS, c_laws_toStep, k_laws_toStep, laws_toStep, e_laws_toPredS, Nat.reduceAdd, Nat.reduceSub, Nat.reduceMul, Nat.reduceLeDiff, Nat.reduceLT, Nat.reduceEqDiff, Nat.reduceBEq, ↓reduceIte, reduceCtorEq]
  repeat' first
    | with_reducible exact Ok_none
    | ((with_reducible refine Ok_ret ?_); first | rfl | (simp only [SSA, RS, e_laws_toStep, Nat.reduceAdd, Nat.reduceSub, Nat.reduceMul, Nat.reduceLeDiff, Nat.reduceLT, Nat.reduceEqDiff, Nat.reduceBEq, ↓reduceIte, reduceCtorEq]; done))
    | ((first | with_reducible refine Ok_call (g0 _) fun v => ?_ | refine Ok_call (g0 _) fun v => ?_) <;> simp only [SSA, RS, *, e_laws_toPredS, Nat.reduceAdd, Nat.reduceSub, Nat.reduceMul, Nat.reduceLeDiff, Nat.reduceLT, Nat.reduceEqDiff, Nat.reduceBEq, ↓reduceIte, reduceCtorEq])

def e_laws_toStepS (r : List GStp) : Res := ⟨[.t (.sl true (r.map (GStp.row true)))], []⟩
def c_laws_toStepS : Cx := ⟨1, [0], [.tmp 2]⟩
theorem laws_toStepS_l8_ok' (a : List GStp) : ∀ (out : List (GStp)) (i : Int), Ok (laws_toStepS_l8 a out i) e_laws_toStepS (ev FTA c_laws_toStepS (.loop k_laws_toStepS_l8) [.lv 0, .th k_laws_toStepS_r4] (putS (List.replicate 23 .dead) [(0, .t (.sl false (a.map (GStp.row false)))), (3, .ref (7, 0) out.length), (4, .t (.v (.int .i64 i)))]) (putR (List.replicate 23 []) [(7, [.mem (out.map (GStp.row true)) 0 false])])) := by
  unfold Ok
  refine laws_toStepS_l8.partial_correctness a _ ?_
  intro F ih out i
  show Ok _ _ _
  have ih : ∀ (out : List (GStp)) (i : Int), Ok (F out i) _ _ := ih
  rw [ev_loop]
  have g0 := laws_toStep_ok; try simp only [SSA, RS, Nat.reduceAdd, Nat.reduceSub, Nat.reduceMul, Nat.reduceLeDiff, Nat.reduceLT, Nat.reduceEqDiff, Nat.reduceBEq, ↓reduceIte, reduceCtorEq] at g0
  simp only [SSA, RS, c_laws_toStepS, k_laws_toStepS_l8, k_laws_toStepS_r4, e_laws_toStep, Nat.reduceAdd, Nat.reduceSub, Nat.reduceMul, Nat.reduceLeDiff, Nat.reduceLT, Nat.reduceEqDiff, Nat.reduceBEq, ↓reduceIte, reduceCtorEq]
  repeat' first
    | with_reducible exact Ok_none
    | ((with_reducible refine Ok_ret ?_); first | rfl | (simp only [SSA, RS, e_laws_toStepS, Nat.reduceAdd, Nat.reduceSub, Nat.reduceMul, Nat.reduceLeDiff, Nat.reduceLT, Nat.reduceEqDiff, Nat.reduceBEq, ↓reduceIte, reduceCtorEq]; done))
    | ((with_reducible refine Ok_tail (ih _ _) ?_); first | rfl | (simp only [SSA, RS, c_laws_toStepS, Nat.reduceAdd, Nat.reduceSub, Nat.reduceMul, Nat.reduceLeDiff, Nat.reduceLT, Nat.reduceEqDiff, Nat.reduceBEq, ↓reduceIte, reduceCtorEq]; done) | (simp only [SSA, RS, c_laws_toStepS, Nat.reduceAdd, Nat.reduceSub, Nat.reduceMul, Nat.reduceLeDiff, Nat.reduceLT, Nat.reduceEqDiff, Nat.reduceBEq, ↓reduceIte, reduceCtorEq]; rfl))
    | ((first | with_reducible refine Ok_if (fun h => ?_) (fun h => ?_) | with_reducible refine Ok_get fun a h => ?_ | with_reducible refine Ok_call (g0 _) fun v => ?_ | refine Ok_call (g0 _) fun v => ?_) <;> simp only [SSA, RS, *, k_laws_toStepS_r4, e_laws_toStep, Nat.reduceAdd, Nat.reduceSub, Nat.reduceMul, Nat.reduceLeDiff, Nat.reduceLT, Nat.reduceEqDiff, Nat.reduceBEq, ↓reduceIte, reduceCtorEq])
theorem laws_toStepS_l8_ok (a : List GStp) (out : List (GStp)) (i : Int) : Ok (laws_toStepS_l8 a out i) e_laws_toStepS (ev FTA c_laws_toStepS (.loop k_laws_toStepS_l8) [.lv 0, .th k_laws_toStepS_r4] (putS (List.replicate 23 .dead) [(0, .t (.sl false (a.map (GStp.row false)))), (3, .ref (7, 0) out.length), (4, .t (.v (.int .i64 i)))]) (putR (List.replicate 23 []) [(7, [.mem (out.map (GStp.row true)) 0 false])])) := laws_toStepS_l8_ok' a out i

theorem laws_toStepS_ok : ∀ (a : List GStp), Ok (laws_toStepS a) e_laws_toStepS (dn FTA n_laws_toStepS [.t (.sl false (a.map (GStp.row false)))]) := by
  intro a
  rw [den_ev FTA (fn := k_laws_toStepS) rfl (xOf_none rfl rfl _) (Nat.le_of_ble_eq_true rfl)]
  simp only [SSA, RS, c_laws_toStepS, k_laws_toStepS, laws_toStepS, Nat.reduceAdd, Nat.reduceSub, Nat.reduceMul, Nat.reduceLeDiff, Nat.reduceLT, Nat.reduceEqDiff, Nat.reduceBEq, ↓reduceIte, reduceCtorEq]
  repeat' first
    | with_reducible exact Ok_none
    | ((with_reducible refine Ok_ret ?_); first | rfl | (simp only [SSA, RS, e_laws_toStepS, Nat.reduceAdd, Nat.reduceSub, Nat.reduceMul, Nat.reduceLeDiff, Nat.reduceLT, Nat.reduceEqDiff, Nat.reduceBEq, ↓reduceIte, reduceCtorEq]; done))
    | ((with_reducible refine Ok_tail (laws_toStepS_l8_ok _ _ _) ?_); first | rfl | (simp only [SSA, RS, c_laws_toStepS, Nat.reduceAdd, Nat.reduceSub, Nat.reduceMul, Nat.reduceLeDiff, Nat.reduceLT, Nat.reduceEqDiff, Nat.reduceBEq, ↓reduceIte, reduceCtorEq]; done) | (simp only [SSA, RS, c_laws_toStepS, Nat.reduceAdd, Nat.reduceSub, Nat.reduceMul, Nat.reduceLeDiff, Nat.reduceLT, Nat.reduceEqDiff, Nat.reduceBEq, ↓reduceIte, reduceCtorEq]; rfl))
    | ((first | with_reducible refine Ok_prim (p := mkN _ _) fun a h => ?_) <;> simp only [SSA, RS, *, Nat.reduceAdd, Nat.reduceSub, Nat.reduceMul, Nat.reduceLeDiff, Nat.reduceLT, Nat.reduceEqDiff, Nat.reduceBEq, ↓reduceIte, reduceCtorEq])

def e_laws_toSel (r : GSel) : Res := ⟨[.agg [.v (.string r.Id), .sl true (r.Steps.map (GStp.row true))]], []⟩
def c_laws_toSel : Cx := ⟨1, [0], [.cell 2 2 true]⟩
theorem laws_toSel_ok : ∀ (a : GSel), Ok (laws_toSel a) e_laws_toSel (dn FTA n_laws_toSel [.agg (((GSel.row false) a).map .t)]) := by
  intro a
  rw [den_ev FTA (fn := k_laws_toSel) rfl (xOf_none rfl rfl _) (Nat.le_of_ble_eq_true rfl)]
  have g0 := laws_toStepS_ok; try simp only [SSA, RS, Nat.reduceAdd, Nat.reduceSub, Nat.reduceMul, Nat.reduceLeDiff, Nat.reduceLT, Nat.reduceEqDiff, Nat.reduceBEq, ↓reduceIte, reduceCtorEq] at g0
  simp only [SSA, RS, c_laws_toSel, k_laws_toSel, laws_toSel, e_laws_toStepS, Nat.reduceAdd, Nat.reduceSub, Nat.reduceMul, Nat.reduceLeDiff, Nat.reduceLT, Nat.reduceEqDiff, Nat.reduceBEq, ↓reduceIte, reduceCtorEq]
  repeat' first
    | with_reducible exact Ok_none
    | ((with_reducible refine Ok_ret ?_); first | rfl | (simp only [SSA, RS, e_laws_toSel, Nat.reduceAdd, Nat.reduceSub, Nat.reduceMul, Nat.reduceLeDiff, Nat.reduceLT, Nat.reduceEqDiff, Nat.reduceBEq, ↓reduceIte, reduceCtorEq]; done))
    | ((first | with_reducible refine Ok_call (g0 _) fun v => ?_ | refine Ok_call (g0 _) fun v => ?_) <;> simp only [SSA, RS, *, e_laws_toStepS, Nat.reduceAdd, Nat.reduceSub, Nat.reduceMul, Nat.reduceLeDiff, Nat.reduceLT, Nat.reduceEqDiff, Nat.reduceBEq, ↓reduceIte, reduceCtorEq])

def e_spec_l1In (r : Bool) : Res := ⟨[.t (.v (.bool r))], []⟩
def c_spec_l1In : Cx := ⟨3, [0, 0, 0], [.tmp 6]⟩
theorem spec_l1In_ok : ∀ (a0 : Int) (least : Int) (most : Int), Ok (spec_l1In a0 least most) e_spec_l1In (dn FTA n_spec_l1In [.t (.v (.int .i64 a0)), .t (.v (.int .i64 least)), .t (.v (.int .i64 most))]) := by
  intro a0 least most
  rw [den_ev FTA (fn := k_spec_l1In) rfl (xOf_none rfl rfl _) (Nat.le_of_ble_eq_true rfl)]
  simp only [SSA, RS, c_spec_l1In, k_spec_l1In, spec_l1In, Nat.reduceAdd, Nat.reduceSub, Nat.reduceMul, Nat.reduceLeDiff, Nat.reduceLT, Nat.reduceEqDiff, Nat.reduceBEq, ↓reduceIte, reduceCtorEq]
  repeat' first
    | with_reducible exact Ok_none
    | ((with_reducible refine Ok_ret ?_); first | rfl | (simp only [SSA, RS, e_spec_l1In, Nat.reduceAdd, Nat.reduceSub, Nat.reduceMul, Nat.reduceLeDiff, Nat.reduceLT, Nat.reduceEqDiff, Nat.reduceBEq, ↓reduceIte, reduceCtorEq]; done))
    | ((first | with_reducible refine Ok_if (fun h => ?_) (fun h => ?_)) <;> simp only [SSA, RS, *, Nat.reduceAdd, Nat.reduceSub, Nat.reduceMul, Nat.reduceLeDiff, Nat.reduceLT, Nat.reduceEqDiff, Nat.reduceBEq, ↓reduceIte, reduceCtorEq])

def e_spec_SignAt (r : Int × Int × Bool) : Res := ⟨[.t (.v (.int .i64 r.1)), .t (.v (.int .i64 r.2.1)), .t (.v (.bool r.2.2))], []⟩
def c_spec_SignAt : Cx := ⟨2, [0, 0], [.tmp 4, .tmp 5, .tmp 6]⟩
theorem spec_SignAt_l55_ok' (s : ByteArray) (at1 : Int) (n : Int) (least : Int) : ∀ (v1 : Int) (i : Int), Ok (spec_SignAt_l55 s at1 n least v1 i) e_spec_SignAt (ev FTA c_spec_SignAt (.loop k_spec_SignAt_l55) [.lv 1, .th k_spec_SignAt_r51] (putS (List.replicate 102 .dead) [(0, .t (.v (.string s))), (1, .t (.v (.int .i64 at1))), (8, .t (.v (.int .i64 n))), (9, .t (.v (.int .i64 least))), (10, .t (.v (.int .i64 v1))), (11, .t (.v (.int .i64 i)))]) (putR (List.replicate 102 []) [])) := by
  unfold Ok
  refine spec_SignAt_l55.partial_correctness s at1 n least _ ?_
  intro F ih v1 i
  show Ok _ _ _
  have ih : ∀ (v1 : Int) (i : Int), Ok (F v1 i) _ _ := ih
  rw [ev_loop]
  have g0 := spec_l1In_ok; try simp only [SSA, RS, Nat.reduceAdd, Nat.reduceSub, Nat.reduceMul, Nat.reduceLeDiff, Nat.reduceLT, Nat.reduceEqDiff, Nat.reduceBEq, ↓reduceIte, reduceCtorEq] at g0
  simp only [SSA, RS, c_spec_SignAt, k_spec_SignAt_l55, k_spec_SignAt_r51, e_spec_l1In, Nat.reduceAdd, Nat.reduceSub, Nat.reduceMul, Nat.reduceLeDiff, Nat.reduceLT, Nat.reduceEqDiff, Nat.reduceBEq, ↓reduceIte, reduceCtorEq]
  repeat' first
    | with_reducible exact Ok_none
    | ((with_reducible refine Ok_ret ?_); first | rfl | (simp only [SSA, RS, e_spec_SignAt, Nat.reduceAdd, Nat.reduceSub, Nat.reduceMul, Nat.reduceLeDiff, Nat.reduceLT, Nat.reduceEqDiff, Nat.reduceBEq, ↓reduceIte, reduceCtorEq]; done))
    | ((with_reducible refine Ok_tail (ih _ _) ?_); first | rfl | (simp only [SSA, RS, c_spec_SignAt, Nat.reduceAdd, Nat.reduceSub, Nat.reduceMul, Nat.reduceLeDiff, Nat.reduceLT, Nat.reduceEqDiff, Nat.reduceBEq, ↓reduceIte, reduceCtorEq]; done) | (simp only [SSA, RS, c_spec_SignAt, Nat.reduceAdd, Nat.reduceSub, Nat.reduceMul, Nat.reduceLeDiff, Nat.reduceLT, Nat.reduceEqDiff, Nat.reduceBEq, ↓reduceIte, reduceCtorEq]; rfl))
    | ((first | with_reducible refine Ok_if (fun h => ?_) (fun h => ?_) | with_reducible refine Ok_call (g0 _ _ _) fun v => ?_ | with_reducible refine Ok_prim (p := atS _ _) fun a h => ?_ | refine Ok_call (g0 _ _ _) fun v => ?_) <;> simp only [SSA, RS, *, k_spec_SignAt_r51, e_spec_l1In, Nat.reduceAdd, Nat.reduceSub, Nat.reduceMul, Nat.reduceLeDiff, Nat.reduceLT, Nat.reduceEqDiff, Nat.reduceBEq, ↓reduceIte, reduceCtorEq])
theorem spec_SignAt_l55_ok (s : ByteArray) (at1 : Int) (n : Int) (least : Int) (v1 : Int) (i : Int) : Ok (spec_SignAt_l55 s at1 n least v1 i) e_spec_SignAt (ev FTA c_spec_SignAt (.loop k_spec_SignAt_l55) [.lv 1, .th k_spec_SignAt_r51] (putS (List.replicate 102 .dead) [(0, .t (.v (.string s))), (1, .t (.v (.int .i64 at1))), (8, .t (.v (.int .i64 n))), (9, .t (.v (.int .i64 least))), (10, .t (.v (.int .i64 v1))), (11, .t (.v (.int .i64 i)))]) (putR (List.replicate 102 []) [])) := spec_SignAt_l55_ok' s at1 n least v1 i

theorem spec_SignAt_j26_ok : ∀ (s : ByteArray) (at1 : Int) (n : Int) (least : Int) (v : Int), Ok (spec_SignAt_j26 s at1 n least v) e_spec_SignAt (ev FTA c_spec_SignAt k_spec_SignAt_r26 [] (putS (List.replicate 102 .dead) [(0, .t (.v (.string s))), (1, .t (.v (.int .i64 at1))), (8, .t (.v (.int .i64 n))), (9, .t (.v (.int .i64 least))), (10, .t (.v (.int .i64 v)))]) (putR (List.replicate 102 []) [])) := by
  intro s at1 n least v
  simp only [SSA, RS, c_spec_SignAt, k_spec_SignAt_r26, spec_SignAt_j26, Nat.reduceAdd, Nat.reduceSub, Nat.reduceMul, Nat.reduceLeDiff, Nat.reduceLT, Nat.reduceEqDiff, Nat.reduceBEq, ↓reduceIte, reduceCtorEq]
  repeat' first
    | with_reducible exact Ok_none
    | ((with_reducible refine Ok_ret ?_); first | rfl | (simp only [SSA, RS, e_spec_SignAt, Nat.reduceAdd, Nat.reduceSub, Nat.reduceMul, Nat.reduceLeDiff, Nat.reduceLT, Nat.reduceEqDiff, Nat.reduceBEq, ↓reduceIte, reduceCtorEq]; done))
    | ((with_reducible refine Ok_tail (spec_SignAt_l55_ok _ _ _ _ _ _) ?_); first | rfl | (simp only [SSA, RS, c_spec_SignAt, Nat.reduceAdd, Nat.reduceSub, Nat.reduceMul, Nat.reduceLeDiff, Nat.reduceLT, Nat.reduceEqDiff, Nat.reduceBEq, ↓reduceIte, reduceCtorEq]; done) | (simp only [SSA, RS, c_spec_SignAt, Nat.reduceAdd, Nat.reduceSub, Nat.reduceMul, Nat.reduceLeDiff, Nat.reduceLT, Nat.reduceEqDiff, Nat.reduceBEq, ↓reduceIte, reduceCtorEq]; rfl))
    | ((first | with_reducible refine Ok_if (fun h => ?_) (fun h => ?_)) <;> simp only [SSA, RS, *, Nat.reduceAdd, Nat.reduceSub, Nat.reduceMul, Nat.reduceLeDiff, Nat.reduceLT, Nat.reduceEqDiff, Nat.reduceBEq, ↓reduceIte, reduceCtorEq])

theorem spec_SignAt_j32_ok : ∀ (s : ByteArray) (at1 : Int) (x : Int) (x2 : Bool), Ok (spec_SignAt_j32 s at1 x x2) e_spec_SignAt (ev FTA c_spec_SignAt k_spec_SignAt_r32 [.lv 0, .hk [.clean []], .th k_spec_SignAt_r26] (putS (List.replicate 102 .dead) [(0, .t (.v (.string s))), (1, .t (.v (.int .i64 at1))), (7, .t (.v (.int .i64 (wr .i64 x)))), (39, .t (.v (.bool x2)))]) (putR (List.replicate 102 []) [])) := by
  intro s at1 x x2
  simp only [SSA, RS, c_spec_SignAt, k_spec_SignAt_r32, spec_SignAt_j32, Nat.reduceAdd, Nat.reduceSub, Nat.reduceMul, Nat.reduceLeDiff, Nat.reduceLT, Nat.reduceEqDiff, Nat.reduceBEq, ↓reduceIte, reduceCtorEq]
  repeat' first
    | with_reducible exact Ok_none
    | ((with_reducible refine Ok_ret ?_); first | rfl | (simp only [SSA, RS, e_spec_SignAt, Nat.reduceAdd, Nat.reduceSub, Nat.reduceMul, Nat.reduceLeDiff, Nat.reduceLT, Nat.reduceEqDiff, Nat.reduceBEq, ↓reduceIte, reduceCtorEq]; done))
    | ((with_reducible refine Ok_tail (spec_SignAt_j26_ok _ _ _ _ _) ?_); first | rfl | (simp only [SSA, RS, c_spec_SignAt, Nat.reduceAdd, Nat.reduceSub, Nat.reduceMul, Nat.reduceLeDiff, Nat.reduceLT, Nat.reduceEqDiff, Nat.reduceBEq, ↓reduceIte, reduceCtorEq]; done) | (simp only [SSA, RS, c_spec_SignAt, Nat.reduceAdd, Nat.reduceSub, Nat.reduceMul, Nat.reduceLeDiff, Nat.reduceLT, Nat.reduceEqDiff, Nat.reduceBEq, ↓reduceIte, reduceCtorEq]; rfl))
    | ((first | with_reducible refine Ok_if (fun h => ?_) (fun h => ?_)) <;> simp only [SSA, RS, *, Nat.reduceAdd, Nat.reduceSub, Nat.reduceMul, Nat.reduceLeDiff, Nat.reduceLT, Nat.reduceEqDiff, Nat.reduceBEq, ↓reduceIte, reduceCtorEq])

theorem spec_SignAt_j28_ok : ∀ (s : ByteArray) (at1 : Int) (x : Int) (x1 : Bool), Ok (spec_SignAt_j28 s at1 x x1) e_spec_SignAt (ev FTA c_spec_SignAt k_spec_SignAt_r28 [.lv 0, .hk [.clean []], .th k_spec_SignAt_r26] (putS (List.replicate 102 .dead) [(0, .t (.v (.string s))), (1, .t (.v (.int .i64 at1))), (7, .t (.v (.int .i64 (wr .i64 x)))), (30, .t (.v (.bool x1)))]) (putR (List.replicate 102 []) [])) := by
  intro s at1 x x1
  simp only [SSA, RS, c_spec_SignAt, k_spec_SignAt_r28, spec_SignAt_j28, Nat.reduceAdd, Nat.reduceSub, Nat.reduceMul, Nat.reduceLeDiff, Nat.reduceLT, Nat.reduceEqDiff, Nat.reduceBEq, ↓reduceIte, reduceCtorEq]
  repeat' first
    | with_reducible exact Ok_none
    | ((with_reducible refine Ok_ret ?_); first | rfl | (simp only [SSA, RS, e_spec_SignAt, Nat.reduceAdd, Nat.reduceSub, Nat.reduceMul, Nat.reduceLeDiff, Nat.reduceLT, Nat.reduceEqDiff, Nat.reduceBEq, ↓reduceIte, reduceCtorEq]; done))
    | ((with_reducible refine Ok_tail (spec_SignAt_j26_ok _ _ _ _ _) ?_); first | rfl | (simp only [SSA, RS, c_spec_SignAt, Nat.reduceAdd, Nat.reduceSub, Nat.reduceMul, Nat.reduceLeDiff, Nat.reduceLT, Nat.reduceEqDiff, Nat.reduceBEq, ↓reduceIte, reduceCtorEq]; done) | (simp only [SSA, RS, c_spec_SignAt, Nat.reduceAdd, Nat.reduceSub, Nat.reduceMul, Nat.reduceLeDiff, Nat.reduceLT, Nat.reduceEqDiff, Nat.reduceBEq, ↓reduceIte, reduceCtorEq]; rfl))
    | ((with_reducible refine Ok_tail (spec_SignAt_j32_ok _ _ _ _) ?_); first | rfl | (simp only [SSA, RS, c_spec_SignAt, Nat.reduceAdd, Nat.reduceSub, Nat.reduceMul, Nat.reduceLeDiff, Nat.reduceLT, Nat.reduceEqDiff, Nat.reduceBEq, ↓reduceIte, reduceCtorEq]; done) | (simp only [SSA, RS, c_spec_SignAt, Nat.reduceAdd, Nat.reduceSub, Nat.reduceMul, Nat.reduceLeDiff, Nat.reduceLT, Nat.reduceEqDiff, Nat.reduceBEq, ↓reduceIte, reduceCtorEq]; rfl))
    | ((first | with_reducible refine Ok_if (fun h => ?_) (fun h => ?_)) <;> simp only [SSA, RS, *, Nat.reduceAdd, Nat.reduceSub, Nat.reduceMul, Nat.reduceLeDiff, Nat.reduceLT, Nat.reduceEqDiff, Nat.reduceBEq, ↓reduceIte, reduceCtorEq])

theorem spec_SignAt_ok : ∀ (s : ByteArray) (at1 : Int), Ok (spec_SignAt s at1) e_spec_SignAt (dn FTA n_spec_SignAt [.t (.v (.string s)), .t (.v (.int .i64 at1))]) := by
  intro s at1
  rw [den_ev FTA (fn := k_spec_SignAt) rfl (xOf_none rfl rfl _) (Nat.le_of_ble_eq_true rfl)]
  simp only [SSA, RS, c_spec_SignAt, k_spec_SignAt, spec_SignAt, Nat.reduceAdd, Nat.reduceSub, Nat.reduceMul, Nat.reduceLeDiff, Nat.reduceLT, Nat.reduceEqDiff, Nat.reduceBEq, ↓reduceIte, reduceCtorEq]
  repeat' first
    | with_reducible exact Ok_none
    | ((with_reducible refine Ok_ret ?_); first | rfl | (simp only [SSA, RS, e_spec_SignAt, Nat.reduceAdd, Nat.reduceSub, Nat.reduceMul, Nat.reduceLeDiff, Nat.reduceLT, Nat.reduceEqDiff, Nat.reduceBEq, ↓reduceIte, reduceCtorEq]; done))
    | ((with_reducible refine Ok_tail (spec_SignAt_j28_ok _ _ _ _) ?_); first | rfl | (simp only [SSA, RS, c_spec_SignAt, Nat.reduceAdd, Nat.reduceSub, Nat.reduceMul, Nat.reduceLeDiff, Nat.reduceLT, Nat.reduceEqDiff, Nat.reduceBEq, ↓reduceIte, reduceCtorEq]; done) | (simp only [SSA, RS, c_spec_SignAt, Nat.reduceAdd, Nat.reduceSub, Nat.reduceMul, Nat.reduceLeDiff, Nat.reduceLT, Nat.reduceEqDiff, Nat.reduceBEq, ↓reduceIte, reduceCtorEq]; rfl))
    | ((first | with_reducible refine Ok_if (fun h => ?_) (fun h => ?_) | with_reducible refine Ok_prim (p := atS _ _) fun a h => ?_) <;> simp only [SSA, RS, *, Nat.reduceAdd, Nat.reduceSub, Nat.reduceMul, Nat.reduceLeDiff, Nat.reduceLT, Nat.reduceEqDiff, Nat.reduceBEq, ↓reduceIte, reduceCtorEq])

def e_spec_l1Ranges (r : Bool) : Res := ⟨[.t (.v (.bool r))], []⟩
def c_spec_l1Ranges : Cx := ⟨2, [0, 0], [.tmp 4]⟩
theorem spec_l1Ranges_l6_ok' (n : Int) (l : List Int) : ∀ (i : Int), Ok (spec_l1Ranges_l6 n l i) e_spec_l1Ranges (ev FTA c_spec_l1Ranges (.loop k_spec_l1Ranges_l6) [.lv 0, .th k_spec_l1Ranges_r2] (putS (List.replicate 24 .dead) [(0, .t (.v (.int .i64 n))), (1, .t (.sl false (l.map rI))), (5, .t (.v (.int .i64 i)))]) (putR (List.replicate 24 []) [])) := by
  unfold Ok
  refine spec_l1Ranges_l6.partial_correctness n l _ ?_
  intro F ih i
  show Ok _ _ _
  have ih : ∀ (i : Int), Ok (F i) _ _ := ih
  rw [ev_loop]
  have g0 := spec_l1In_ok; try simp only [SSA, RS, Nat.reduceAdd, Nat.reduceSub, Nat.reduceMul, Nat.reduceLeDiff, Nat.reduceLT, Nat.reduceEqDiff, Nat.reduceBEq, ↓reduceIte, reduceCtorEq] at g0
  simp only [SSA, RS, c_spec_l1Ranges, k_spec_l1Ranges_l6, k_spec_l1Ranges_r2, e_spec_l1In, Nat.reduceAdd, Nat.reduceSub, Nat.reduceMul, Nat.reduceLeDiff, Nat.reduceLT, Nat.reduceEqDiff, Nat.reduceBEq, ↓reduceIte, reduceCtorEq]
  repeat' first
    | with_reducible exact Ok_none
    | ((with_reducible refine Ok_ret ?_); first | rfl | (simp only [SSA, RS, e_spec_l1Ranges, Nat.reduceAdd, Nat.reduceSub, Nat.reduceMul, Nat.reduceLeDiff, Nat.reduceLT, Nat.reduceEqDiff, Nat.reduceBEq, ↓reduceIte, reduceCtorEq]; done))
    | ((with_reducible refine Ok_tail (ih _) ?_); first | rfl | (simp only [SSA, RS, c_spec_l1Ranges, Nat.reduceAdd, Nat.reduceSub, Nat.reduceMul, Nat.reduceLeDiff, Nat.reduceLT, Nat.reduceEqDiff, Nat.reduceBEq, ↓reduceIte, reduceCtorEq]; done) | (simp only [SSA, RS, c_spec_l1Ranges, Nat.reduceAdd, Nat.reduceSub, Nat.reduceMul, Nat.reduceLeDiff, Nat.reduceLT, Nat.reduceEqDiff, Nat.reduceBEq, ↓reduceIte, reduceCtorEq]; rfl))
    | ((first | with_reducible refine Ok_if (fun h => ?_) (fun h => ?_) | with_reducible refine Ok_get fun a h => ?_ | with_reducible refine Ok_call (g0 _ _ _) fun v => ?_ | refine Ok_call (g0 _ _ _) fun v => ?_) <;> simp only [SSA, RS, *, k_spec_l1Ranges_r2, e_spec_l1In, Nat.reduceAdd, Nat.reduceSub, Nat.reduceMul, Nat.reduceLeDiff, Nat.reduceLT, Nat.reduceEqDiff, Nat.reduceBEq, ↓reduceIte, reduceCtorEq])
theorem spec_l1Ranges_l6_ok (n : Int) (l : List Int) (i : Int) : Ok (spec_l1Ranges_l6 n l i) e_spec_l1Ranges (ev FTA c_spec_l1Ranges (.loop k_spec_l1Ranges_l6) [.lv 0, .th k_spec_l1Ranges_r2] (putS (List.replicate 24 .dead) [(0, .t (.v (.int .i64 n))), (1, .t (.sl false (l.map rI))), (5, .t (.v (.int .i64 i)))]) (putR (List.replicate 24 []) [])) := spec_l1Ranges_l6_ok' n l i

theorem spec_l1Ranges_ok : ∀ (n : Int) (l : List Int), Ok (spec_l1Ranges n l) e_spec_l1Ranges (dn FTA n_spec_l1Ranges [.t (.v (.int .i64 n)), .t (.sl false (l.map rI))]) := by
  intro n l
  rw [den_ev FTA (fn := k_spec_l1Ranges) rfl (xOf_none rfl rfl _) (Nat.le_of_ble_eq_true rfl)]
  simp only [SSA, RS, c_spec_l1Ranges, k_spec_l1Ranges, spec_l1Ranges, Nat.reduceAdd, Nat.reduceSub, Nat.reduceMul, Nat.reduceLeDiff, Nat.reduceLT, Nat.reduceEqDiff, Nat.reduceBEq, ↓reduceIte, reduceCtorEq]
  repeat' first
    | with_reducible exact Ok_none
    | ((with_reducible refine Ok_ret ?_); first | rfl | (simp only [SSA, RS, e_spec_l1Ranges, Nat.reduceAdd, Nat.reduceSub, Nat.reduceMul, Nat.reduceLeDiff, Nat.reduceLT, Nat.reduceEqDiff, Nat.reduceBEq, ↓reduceIte, reduceCtorEq]; done))
    | ((with_reducible refine Ok_tail (spec_l1Ranges_l6_ok _ _ _) ?_); first | rfl | (simp only [SSA, RS, c_spec_l1Ranges, Nat.reduceAdd, Nat.reduceSub, Nat.reduceMul, Nat.reduceLeDiff, Nat.reduceLT, Nat.reduceEqDiff, Nat.reduceBEq, ↓reduceIte, reduceCtorEq]; done) | (simp only [SSA, RS, c_spec_l1Ranges, Nat.reduceAdd, Nat.reduceSub, Nat.reduceMul, Nat.reduceLeDiff, Nat.reduceLT, Nat.reduceEqDiff, Nat.reduceBEq, ↓reduceIte, reduceCtorEq]; rfl))

def e_spec_IsStart (r : Bool) : Res := ⟨[.t (.v (.bool r))], []⟩
def c_spec_IsStart : Cx := ⟨1, [0], [.tmp 2]⟩
theorem spec_IsStart_ok : ∀ (n : Int), Ok (spec_IsStart n) e_spec_IsStart (dn FTA n_spec_IsStart [.t (.v (.int .i64 n))]) := by
  intro n
  rw [den_ev FTA (fn := k_spec_IsStart) rfl (xOf_none rfl rfl _) (Nat.le_of_ble_eq_true rfl)]
  have g0 := spec_l1Ranges_ok; try simp only [SSA, RS, Nat.reduceAdd, Nat.reduceSub, Nat.reduceMul, Nat.reduceLeDiff, Nat.reduceLT, Nat.reduceEqDiff, Nat.reduceBEq, ↓reduceIte, reduceCtorEq] at g0
  simp only [SSA, RS, c_spec_IsStart, k_spec_IsStart, spec_IsStart, e_spec_l1Ranges, Nat.reduceAdd, Nat.reduceSub, Nat.reduceMul, Nat.reduceLeDiff, Nat.reduceLT, Nat.reduceEqDiff, Nat.reduceBEq, ↓reduceIte, reduceCtorEq]
  repeat' first
    | with_reducible exact Ok_none
    | ((with_reducible refine Ok_ret ?_); first | rfl | (simp only [SSA, RS, e_spec_IsStart, Nat.reduceAdd, Nat.reduceSub, Nat.reduceMul, Nat.reduceLeDiff, Nat.reduceLT, Nat.reduceEqDiff, Nat.reduceBEq, ↓reduceIte, reduceCtorEq]; done))
    | ((first | with_reducible refine Ok_call (g0 _ _) fun v => ?_ | refine Ok_call (g0 _ _) fun v => ?_) <;> simp only [SSA, RS, *, e_spec_l1Ranges, Nat.reduceAdd, Nat.reduceSub, Nat.reduceMul, Nat.reduceLeDiff, Nat.reduceLT, Nat.reduceEqDiff, Nat.reduceBEq, ↓reduceIte, reduceCtorEq])

def e_spec_IsPart (r : Bool) : Res := ⟨[.t (.v (.bool r))], []⟩
def c_spec_IsPart : Cx := ⟨1, [0], [.tmp 2]⟩
theorem spec_IsPart_ok : ∀ (n : Int), Ok (spec_IsPart n) e_spec_IsPart (dn FTA n_spec_IsPart [.t (.v (.int .i64 n))]) := by
  intro n
  rw [den_ev FTA (fn := k_spec_IsPart) rfl (xOf_none rfl rfl _) (Nat.le_of_ble_eq_true rfl)]
  have g0 := spec_IsStart_ok; try simp only [SSA, RS, Nat.reduceAdd, Nat.reduceSub, Nat.reduceMul, Nat.reduceLeDiff, Nat.reduceLT, Nat.reduceEqDiff, Nat.reduceBEq, ↓reduceIte, reduceCtorEq] at g0
  have g1 := spec_l1Ranges_ok; try simp only [SSA, RS, Nat.reduceAdd, Nat.reduceSub, Nat.reduceMul, Nat.reduceLeDiff, Nat.reduceLT, Nat.reduceEqDiff, Nat.reduceBEq, ↓reduceIte, reduceCtorEq] at g1
  simp only [SSA, RS, c_spec_IsPart, k_spec_IsPart, spec_IsPart, e_spec_IsStart, e_spec_l1Ranges, Nat.reduceAdd, Nat.reduceSub, Nat.reduceMul, Nat.reduceLeDiff, Nat.reduceLT, Nat.reduceEqDiff, Nat.reduceBEq, ↓reduceIte, reduceCtorEq]
  repeat' first
    | with_reducible exact Ok_none
    | ((with_reducible refine Ok_ret ?_); first | rfl | (simp only [SSA, RS, e_spec_IsPart, Nat.reduceAdd, Nat.reduceSub, Nat.reduceMul, Nat.reduceLeDiff, Nat.reduceLT, Nat.reduceEqDiff, Nat.reduceBEq, ↓reduceIte, reduceCtorEq]; done))
    | ((first | with_reducible refine Ok_if (fun h => ?_) (fun h => ?_) | with_reducible refine Ok_call (g0 _) fun v => ?_ | with_reducible refine Ok_call (g1 _ _) fun v => ?_ | refine Ok_call (g0 _) fun v => ?_ | refine Ok_call (g1 _ _) fun v => ?_) <;> simp only [SSA, RS, *, e_spec_IsStart, e_spec_l1Ranges, Nat.reduceAdd, Nat.reduceSub, Nat.reduceMul, Nat.reduceLeDiff, Nat.reduceLT, Nat.reduceEqDiff, Nat.reduceBEq, ↓reduceIte, reduceCtorEq])

def e_spec_PlainOk (r : Bool) : Res := ⟨[.t (.v (.bool r))], []⟩
def c_spec_PlainOk : Cx := ⟨1, [0], [.tmp 2]⟩
theorem spec_PlainOk_l14_ok' (s : ByteArray) : ∀ (at1 : Int), Ok (spec_PlainOk_l14 s at1) e_spec_PlainOk (ev FTA c_spec_PlainOk (.loop k_spec_PlainOk_l14) [.lv 0, .th k_spec_PlainOk_r10] (putS (List.replicate 39 .dead) [(0, .t (.v (.string s))), (3, .t (.v (.int .i64 at1)))]) (putR (List.replicate 39 []) [])) := by
  unfold Ok
  refine spec_PlainOk_l14.partial_correctness s _ ?_
  intro F ih at1
  show Ok _ _ _
  have ih : ∀ (at1 : Int), Ok (F at1) _ _ := ih
  rw [ev_loop]
  have g0 := spec_SignAt_ok; try simp only [SSA, RS, Nat.reduceAdd, Nat.reduceSub, Nat.reduceMul, Nat.reduceLeDiff, Nat.reduceLT, Nat.reduceEqDiff, Nat.reduceBEq, ↓reduceIte, reduceCtorEq] at g0
  have g1 := spec_IsStart_ok; try simp only [SSA, RS, Nat.reduceAdd, Nat.reduceSub, Nat.reduceMul, Nat.reduceLeDiff, Nat.reduceLT, Nat.reduceEqDiff, Nat.reduceBEq, ↓reduceIte, reduceCtorEq] at g1
  have g2 := spec_IsPart_ok; try simp only [SSA, RS, Nat.reduceAdd, Nat.reduceSub, Nat.reduceMul, Nat.reduceLeDiff, Nat.reduceLT, Nat.reduceEqDiff, Nat.reduceBEq, ↓reduceIte, reduceCtorEq] at g2
  simp only [SSA, RS, c_spec_PlainOk, k_spec_PlainOk_l14, k_spec_PlainOk_r10, e_spec_IsPart, e_spec_IsStart, e_spec_SignAt, Nat.reduceAdd, Nat.reduceSub, Nat.reduceMul, Nat.reduceLeDiff, Nat.reduceLT, Nat.reduceEqDiff, Nat.reduceBEq, ↓reduceIte, reduceCtorEq]
  repeat' first
    | with_reducible exact Ok_none
    | ((with_reducible refine Ok_ret ?_); first | rfl | (simp only [SSA, RS, e_spec_PlainOk, Nat.reduceAdd, Nat.reduceSub, Nat.reduceMul, Nat.reduceLeDiff, Nat.reduceLT, Nat.reduceEqDiff, Nat.reduceBEq, ↓reduceIte, reduceCtorEq]; done))
    | ((with_reducible refine Ok_tail (ih _) ?_); first | rfl | (simp only [SSA, RS, c_spec_PlainOk, Nat.reduceAdd, Nat.reduceSub, Nat.reduceMul, Nat.reduceLeDiff, Nat.reduceLT, Nat.reduceEqDiff, Nat.reduceBEq, ↓reduceIte, reduceCtorEq]; done) | (simp only [SSA, RS, c_spec_PlainOk, Nat.reduceAdd, Nat.reduceSub, Nat.reduceMul, Nat.reduceLeDiff, Nat.reduceLT, Nat.reduceEqDiff, Nat.reduceBEq, ↓reduceIte, reduceCtorEq]; rfl))
    | ((first | with_reducible refine Ok_if (fun h => ?_) (fun h => ?_) | with_reducible refine Ok_call (g0 _ _) fun v => ?_ | with_reducible refine Ok_call (g1 _) fun v => ?_ | with_reducible refine Ok_call (g2 _) fun v => ?_ | refine Ok_call (g0 _ _) fun v => ?_ | refine Ok_call (g1 _) fun v => ?_ | refine Ok_call (g2 _) fun v => ?_) <;> simp only [SSA, RS, *, k_spec_PlainOk_r10, e_spec_IsPart, e_spec_IsStart, e_spec_SignAt, Nat.reduceAdd, Nat.reduceSub, Nat.reduceMul, Nat.reduceLeDiff, Nat.reduceLT, Nat.reduceEqDiff, Nat.reduceBEq, ↓reduceIte, reduceCtorEq])
theorem spec_PlainOk_l14_ok (s : ByteArray) (at1 : Int) : Ok (spec_PlainOk_l14 s at1) e_spec_PlainOk (ev FTA c_spec_PlainOk (.loop k_spec_PlainOk_l14) [.lv 0, .th k_spec_PlainOk_r10] (putS (List.replicate 39 .dead) [(0, .t (.v (.string s))), (3, .t (.v (.int .i64 at1)))]) (putR (List.replicate 39 []) [])) := spec_PlainOk_l14_ok' s at1

theorem spec_PlainOk_ok : ∀ (s : ByteArray), Ok (spec_PlainOk s) e_spec_PlainOk (dn FTA n_spec_PlainOk [.t (.v (.string s))]) := by
  intro s
  rw [den_ev FTA (fn := k_spec_PlainOk) rfl (xOf_none rfl rfl _) (Nat.le_of_ble_eq_true rfl)]
  have g0 := spec_l1In_ok; try simp only [SSA, RS, Nat.reduceAdd, Nat.reduceSub, Nat.reduceMul, Nat.reduceLeDiff, Nat.reduceLT, Nat.reduceEqDiff, Nat.reduceBEq, ↓reduceIte, reduceCtorEq] at g0
  simp only [SSA, RS, c_spec_PlainOk, k_spec_PlainOk, spec_PlainOk, e_spec_l1In, Nat.reduceAdd, Nat.reduceSub, Nat.reduceMul, Nat.reduceLeDiff, Nat.reduceLT, Nat.reduceEqDiff, Nat.reduceBEq, ↓reduceIte, reduceCtorEq]
  repeat' first
    | with_reducible exact Ok_none
    | ((with_reducible refine Ok_ret ?_); first | rfl | (simp only [SSA, RS, e_spec_PlainOk, Nat.reduceAdd, Nat.reduceSub, Nat.reduceMul, Nat.reduceLeDiff, Nat.reduceLT, Nat.reduceEqDiff, Nat.reduceBEq, ↓reduceIte, reduceCtorEq]; done))
    | ((with_reducible refine Ok_tail (spec_PlainOk_l14_ok _ _) ?_); first | rfl | (simp only [SSA, RS, c_spec_PlainOk, Nat.reduceAdd, Nat.reduceSub, Nat.reduceMul, Nat.reduceLeDiff, Nat.reduceLT, Nat.reduceEqDiff, Nat.reduceBEq, ↓reduceIte, reduceCtorEq]; done) | (simp only [SSA, RS, c_spec_PlainOk, Nat.reduceAdd, Nat.reduceSub, Nat.reduceMul, Nat.reduceLeDiff, Nat.reduceLT, Nat.reduceEqDiff, Nat.reduceBEq, ↓reduceIte, reduceCtorEq]; rfl))
    | ((first | with_reducible refine Ok_if (fun h => ?_) (fun h => ?_) | with_reducible refine Ok_call (g0 _ _ _) fun v => ?_ | refine Ok_call (g0 _ _ _) fun v => ?_) <;> simp only [SSA, RS, *, e_spec_l1In, Nat.reduceAdd, Nat.reduceSub, Nat.reduceMul, Nat.reduceLeDiff, Nat.reduceLT, Nat.reduceEqDiff, Nat.reduceBEq, ↓reduceIte, reduceCtorEq])

def e_spec_SplitName (r : ByteArray × ByteArray × Bool) : Res := ⟨[.t (.v (.string r.1)), .t (.v (.string r.2.1)), .t (.v (.bool r.2.2))], []⟩
def c_spec_SplitName : Cx := ⟨1, [0], [.tmp 2, .tmp 3, .tmp 4]⟩
theorem spec_SplitName_l14_ok' (s : ByteArray) : ∀ (i : Int), Ok (spec_SplitName_l14 s i) e_spec_SplitName (ev FTA c_spec_SplitName (.loop k_spec_SplitName_l14) [.lv 0, .th k_spec_SplitName_r10] (putS (List.replicate 39 .dead) [(0, .t (.v (.string s))), (5, .t (.v (.int .i64 i)))]) (putR (List.replicate 39 []) [])) := by
  unfold Ok
  refine spec_SplitName_l14.partial_correctness s _ ?_
  intro F ih i
  show Ok _ _ _
  have ih : ∀ (i : Int), Ok (F i) _ _ := ih
  rw [ev_loop]
  have g0 := spec_PlainOk_ok; try simp only [SSA, RS, Nat.reduceAdd, Nat.reduceSub, Nat.reduceMul, Nat.reduceLeDiff, Nat.reduceLT, Nat.reduceEqDiff, Nat.reduceBEq, ↓reduceIte, reduceCtorEq] at g0
  simp only [SSA, RS, c_spec_SplitName, k_spec_SplitName_l14, k_spec_SplitName_r10, e_spec_PlainOk, Nat.reduceAdd, Nat.reduceSub, Nat.reduceMul, Nat.reduceLeDiff, Nat.reduceLT, Nat.reduceEqDiff, Nat.reduceBEq, ↓reduceIte, reduceCtorEq]
  repeat' first
    | with_reducible exact Ok_none
    | ((with_reducible refine Ok_ret ?_); first | rfl | (simp only [SSA, RS, e_spec_SplitName, Nat.reduceAdd, Nat.reduceSub, Nat.reduceMul, Nat.reduceLeDiff, Nat.reduceLT, Nat.reduceEqDiff, Nat.reduceBEq, ↓reduceIte, reduceCtorEq]; done))
    | ((with_reducible refine Ok_tail (ih _) ?_); first | rfl | (simp only [SSA, RS, c_spec_SplitName, Nat.reduceAdd, Nat.reduceSub, Nat.reduceMul, Nat.reduceLeDiff, Nat.reduceLT, Nat.reduceEqDiff, Nat.reduceBEq, ↓reduceIte, reduceCtorEq]; done) | (simp only [SSA, RS, c_spec_SplitName, Nat.reduceAdd, Nat.reduceSub, Nat.reduceMul, Nat.reduceLeDiff, Nat.reduceLT, Nat.reduceEqDiff, Nat.reduceBEq, ↓reduceIte, reduceCtorEq]; rfl))
    | ((first | with_reducible refine Ok_if (fun h => ?_) (fun h => ?_) | with_reducible refine Ok_call (g0 _) fun v => ?_ | with_reducible refine Ok_prim (p := subS _ _ _) fun a h => ?_ | with_reducible refine Ok_prim (p := atS _ _) fun a h => ?_ | refine Ok_call (g0 _) fun v => ?_) <;> simp only [SSA, RS, *, k_spec_SplitName_r10, e_spec_PlainOk, Nat.reduceAdd, Nat.reduceSub, Nat.reduceMul, Nat.reduceLeDiff, Nat.reduceLT, Nat.reduceEqDiff, Nat.reduceBEq, ↓reduceIte, reduceCtorEq])
theorem spec_SplitName_l14_ok (s : ByteArray) (i : Int) : Ok (spec_SplitName_l14 s i) e_spec_SplitName (ev FTA c_spec_SplitName (.loop k_spec_SplitName_l14) [.lv 0, .th k_spec_SplitName_r10] (putS (List.replicate 39 .dead) [(0, .t (.v (.string s))), (5, .t (.v (.int .i64 i)))]) (putR (List.replicate 39 []) [])) := spec_SplitName_l14_ok' s i

theorem spec_SplitName_ok : ∀ (s : ByteArray), Ok (spec_SplitName s) e_spec_SplitName (dn FTA n_spec_SplitName [.t (.v (.string s))]) := by
  intro s
  rw [den_ev FTA (fn := k_spec_SplitName) rfl (xOf_none rfl rfl _) (Nat.le_of_ble_eq_true rfl)]
  have g0 := spec_PlainOk_ok; try simp only [SSA, RS, Nat.reduceAdd, Nat.reduceSub, Nat.reduceMul, Nat.reduceLeDiff, Nat.reduceLT, Nat.reduceEqDiff, Nat.reduceBEq, ↓reduceIte, reduceCtorEq] at g0
  simp only [SSA, RS, c_spec_SplitName, k_spec_SplitName, spec_SplitName, e_spec_PlainOk, Nat.reduceAdd, Nat.reduceSub, Nat.reduceMul, Nat.reduceLeDiff, Nat.reduceLT, Nat.reduceEqDiff, Nat.reduceBEq, ↓reduceIte, reduceCtorEq]
  repeat' first
    | with_reducible exact Ok_none
    | ((with_reducible refine Ok_ret ?_); first | rfl | (simp only [SSA, RS, e_spec_SplitName, Nat.reduceAdd, Nat.reduceSub, Nat.reduceMul, Nat.reduceLeDiff, Nat.reduceLT, Nat.reduceEqDiff, Nat.reduceBEq, ↓reduceIte, reduceCtorEq]; done))
    | ((with_reducible refine Ok_tail (spec_SplitName_l14_ok _ _) ?_); first | rfl | (simp only [SSA, RS, c_spec_SplitName, Nat.reduceAdd, Nat.reduceSub, Nat.reduceMul, Nat.reduceLeDiff, Nat.reduceLT, Nat.reduceEqDiff, Nat.reduceBEq, ↓reduceIte, reduceCtorEq]; done) | (simp only [SSA, RS, c_spec_SplitName, Nat.reduceAdd, Nat.reduceSub, Nat.reduceMul, Nat.reduceLeDiff, Nat.reduceLT, Nat.reduceEqDiff, Nat.reduceBEq, ↓reduceIte, reduceCtorEq]; rfl))
    | ((first | with_reducible refine Ok_if (fun h => ?_) (fun h => ?_) | with_reducible refine Ok_call (g0 _) fun v => ?_ | refine Ok_call (g0 _) fun v => ?_) <;> simp only [SSA, RS, *, e_spec_PlainOk, Nat.reduceAdd, Nat.reduceSub, Nat.reduceMul, Nat.reduceLeDiff, Nat.reduceLT, Nat.reduceEqDiff, Nat.reduceBEq, ↓reduceIte, reduceCtorEq])

def e_spec_JoinName (r : ByteArray) : Res := ⟨[.t (.v (.string r))], []⟩
def c_spec_JoinName : Cx := ⟨2, [0, 0], [.tmp 4]⟩
theorem spec_JoinName_j4_ok : ∀ (pre : ByteArray) (local1 : ByteArray) (s : ByteArray), Ok (spec_JoinName_j4 pre local1 s) e_spec_JoinName (ev FTA c_spec_JoinName k_spec_JoinName_r4 [] (putS (List.replicate 35 .dead) [(0, .t (.v (.string pre))), (1, .t (.v (.string local1))), (5, .t (.v (.string s)))]) (putR (List.replicate 35 []) [])) := by
  intro pre local1 s
  have g0 := spec_SplitName_ok; try simp only [SSA, RS, Nat.reduceAdd, Nat.reduceSub, Nat.reduceMul, Nat.reduceLeDiff, Nat.reduceLT, Nat.reduceEqDiff, Nat.reduceBEq, ↓reduceIte, reduceCtorEq] at g0
  simp only [SSA, RS, c_spec_JoinName, k_spec_JoinName_r4, spec_JoinName_j4, e_spec_SplitName, Nat.reduceAdd, Nat.reduceSub, Nat.reduceMul, Nat.reduceLeDiff, Nat.reduceLT, Nat.reduceEqDiff, Nat.reduceBEq, ↓reduceIte, reduceCtorEq]
  repeat' first
    | with_reducible exact Ok_none
    | ((with_reducible refine Ok_ret ?_); first | rfl | (simp only [SSA, RS, e_spec_JoinName, Nat.reduceAdd, Nat.reduceSub, Nat.reduceMul, Nat.reduceLeDiff, Nat.reduceLT, Nat.reduceEqDiff, Nat.reduceBEq, ↓reduceIte, reduceCtorEq]; done))
    | ((first | with_reducible refine Ok_if (fun h => ?_) (fun h => ?_) | with_reducible refine Ok_call (g0 _) fun v => ?_ | refine Ok_call (g0 _) fun v => ?_) <;> simp only [SSA, RS, *, e_spec_SplitName, Nat.reduceAdd, Nat.reduceSub, Nat.reduceMul, Nat.reduceLeDiff, Nat.reduceLT, Nat.reduceEqDiff, Nat.reduceBEq, ↓reduceIte, reduceCtorEq])

theorem spec_JoinName_ok : ∀ (pre : ByteArray) (local1 : ByteArray), Ok (spec_JoinName pre local1) e_spec_JoinName (dn FTA n_spec_JoinName [.t (.v (.string pre)), .t (.v (.string local1))]) := by
  intro pre local1
  rw [den_ev FTA (fn := k_spec_JoinName) rfl (xOf_none rfl rfl _) (Nat.le_of_ble_eq_true rfl)]
  simp only [SSA, RS, c_spec_JoinName, k_spec_JoinName, spec_JoinName, Nat.reduceAdd, Nat.reduceSub, Nat.reduceMul, Nat.reduceLeDiff, Nat.reduceLT, Nat.reduceEqDiff, Nat.reduceBEq, ↓reduceIte, reduceCtorEq]
  repeat' first
    | with_reducible exact Ok_none
    | ((with_reducible refine Ok_ret ?_); first | rfl | (simp only [SSA, RS, e_spec_JoinName, Nat.reduceAdd, Nat.reduceSub, Nat.reduceMul, Nat.reduceLeDiff, Nat.reduceLT, Nat.reduceEqDiff, Nat.reduceBEq, ↓reduceIte, reduceCtorEq]; done))
    | ((with_reducible refine Ok_tail (spec_JoinName_j4_ok _ _ _) ?_); first | rfl | (simp only [SSA, RS, c_spec_JoinName, Nat.reduceAdd, Nat.reduceSub, Nat.reduceMul, Nat.reduceLeDiff, Nat.reduceLT, Nat.reduceEqDiff, Nat.reduceBEq, ↓reduceIte, reduceCtorEq]; done) | (simp only [SSA, RS, c_spec_JoinName, Nat.reduceAdd, Nat.reduceSub, Nat.reduceMul, Nat.reduceLeDiff, Nat.reduceLT, Nat.reduceEqDiff, Nat.reduceBEq, ↓reduceIte, reduceCtorEq]; rfl))
    | ((first | with_reducible refine Ok_if (fun h => ?_) (fun h => ?_) | with_reducible refine Ok_prim (p := catS _ _) fun a h => ?_) <;> simp only [SSA, RS, *, Nat.reduceAdd, Nat.reduceSub, Nat.reduceMul, Nat.reduceLeDiff, Nat.reduceLT, Nat.reduceEqDiff, Nat.reduceBEq, ↓reduceIte, reduceCtorEq])

def e_spec_IsSign (r : Bool) : Res := ⟨[.t (.v (.bool r))], []⟩
def c_spec_IsSign : Cx := ⟨1, [0], [.tmp 2]⟩
theorem spec_IsSign_ok : ∀ (n : Int), Ok (spec_IsSign n) e_spec_IsSign (dn FTA n_spec_IsSign [.t (.v (.int .i64 n))]) := by
  intro n
  rw [den_ev FTA (fn := k_spec_IsSign) rfl (xOf_none rfl rfl _) (Nat.le_of_ble_eq_true rfl)]
  have g0 := spec_l1In_ok; try simp only [SSA, RS, Nat.reduceAdd, Nat.reduceSub, Nat.reduceMul, Nat.reduceLeDiff, Nat.reduceLT, Nat.reduceEqDiff, Nat.reduceBEq, ↓reduceIte, reduceCtorEq] at g0
  simp only [SSA, RS, c_spec_IsSign, k_spec_IsSign, spec_IsSign, e_spec_l1In, Nat.reduceAdd, Nat.reduceSub, Nat.reduceMul, Nat.reduceLeDiff, Nat.reduceLT, Nat.reduceEqDiff, Nat.reduceBEq, ↓reduceIte, reduceCtorEq]
  repeat' first
    | with_reducible exact Ok_none
    | ((with_reducible refine Ok_ret ?_); first | rfl | (simp only [SSA, RS, e_spec_IsSign, Nat.reduceAdd, Nat.reduceSub, Nat.reduceMul, Nat.reduceLeDiff, Nat.reduceLT, Nat.reduceEqDiff, Nat.reduceBEq, ↓reduceIte, reduceCtorEq]; done))
    | ((first | with_reducible refine Ok_if (fun h => ?_) (fun h => ?_) | with_reducible refine Ok_call (g0 _ _ _) fun v => ?_ | refine Ok_call (g0 _ _ _) fun v => ?_) <;> simp only [SSA, RS, *, e_spec_l1In, Nat.reduceAdd, Nat.reduceSub, Nat.reduceMul, Nat.reduceLeDiff, Nat.reduceLT, Nat.reduceEqDiff, Nat.reduceBEq, ↓reduceIte, reduceCtorEq])

def e_spec_l1Signs (r : Bool) : Res := ⟨[.t (.v (.bool r))], []⟩
def c_spec_l1Signs : Cx := ⟨1, [0], [.tmp 2]⟩
theorem spec_l1Signs_l6_ok' (s : ByteArray) : ∀ (at1 : Int), Ok (spec_l1Signs_l6 s at1) e_spec_l1Signs (ev FTA c_spec_l1Signs (.loop k_spec_l1Signs_l6) [.lv 0, .th k_spec_l1Signs_r2] (putS (List.replicate 29 .dead) [(0, .t (.v (.string s))), (3, .t (.v (.int .i64 at1)))]) (putR (List.replicate 29 []) [])) := by
  unfold Ok
  refine spec_l1Signs_l6.partial_correctness s _ ?_
  intro F ih at1
  show Ok _ _ _
  have ih : ∀ (at1 : Int), Ok (F at1) _ _ := ih
  rw [ev_loop]
  have g0 := spec_SignAt_ok; try simp only [SSA, RS, Nat.reduceAdd, Nat.reduceSub, Nat.reduceMul, Nat.reduceLeDiff, Nat.reduceLT, Nat.reduceEqDiff, Nat.reduceBEq, ↓reduceIte, reduceCtorEq] at g0
  have g1 := spec_IsSign_ok; try simp only [SSA, RS, Nat.reduceAdd, Nat.reduceSub, Nat.reduceMul, Nat.reduceLeDiff, Nat.reduceLT, Nat.reduceEqDiff, Nat.reduceBEq, ↓reduceIte, reduceCtorEq] at g1
  simp only [SSA, RS, c_spec_l1Signs, k_spec_l1Signs_l6, k_spec_l1Signs_r2, e_spec_IsSign, e_spec_SignAt, Nat.reduceAdd, Nat.reduceSub, Nat.reduceMul, Nat.reduceLeDiff, Nat.reduceLT, Nat.reduceEqDiff, Nat.reduceBEq, ↓reduceIte, reduceCtorEq]
  repeat' first
    | with_reducible exact Ok_none
    | ((with_reducible refine Ok_ret ?_); first | rfl | (simp only [SSA, RS, e_spec_l1Signs, Nat.reduceAdd, Nat.reduceSub, Nat.reduceMul, Nat.reduceLeDiff, Nat.reduceLT, Nat.reduceEqDiff, Nat.reduceBEq, ↓reduceIte, reduceCtorEq]; done))
    | ((with_reducible refine Ok_tail (ih _) ?_); first | rfl | (simp only [SSA, RS, c_spec_l1Signs, Nat.reduceAdd, Nat.reduceSub, Nat.reduceMul, Nat.reduceLeDiff, Nat.reduceLT, Nat.reduceEqDiff, Nat.reduceBEq, ↓reduceIte, reduceCtorEq]; done) | (simp only [SSA, RS, c_spec_l1Signs, Nat.reduceAdd, Nat.reduceSub, Nat.reduceMul, Nat.reduceLeDiff, Nat.reduceLT, Nat.reduceEqDiff, Nat.reduceBEq, ↓reduceIte, reduceCtorEq]; rfl))
    | ((first | with_reducible refine Ok_if (fun h => ?_) (fun h => ?_) | with_reducible refine Ok_call (g0 _ _) fun v => ?_ | with_reducible refine Ok_call (g1 _) fun v => ?_ | refine Ok_call (g0 _ _) fun v => ?_ | refine Ok_call (g1 _) fun v => ?_) <;> simp only [SSA, RS, *, k_spec_l1Signs_r2, e_spec_IsSign, e_spec_SignAt, Nat.reduceAdd, Nat.reduceSub, Nat.reduceMul, Nat.reduceLeDiff, Nat.reduceLT, Nat.reduceEqDiff, Nat.reduceBEq, ↓reduceIte, reduceCtorEq])
theorem spec_l1Signs_l6_ok (s : ByteArray) (at1 : Int) : Ok (spec_l1Signs_l6 s at1) e_spec_l1Signs (ev FTA c_spec_l1Signs (.loop k_spec_l1Signs_l6) [.lv 0, .th k_spec_l1Signs_r2] (putS (List.replicate 29 .dead) [(0, .t (.v (.string s))), (3, .t (.v (.int .i64 at1)))]) (putR (List.replicate 29 []) [])) := spec_l1Signs_l6_ok' s at1

theorem spec_l1Signs_ok : ∀ (s : ByteArray), Ok (spec_l1Signs s) e_spec_l1Signs (dn FTA n_spec_l1Signs [.t (.v (.string s))]) := by
  intro s
  rw [den_ev FTA (fn := k_spec_l1Signs) rfl (xOf_none rfl rfl _) (Nat.le_of_ble_eq_true rfl)]
  simp only [SSA, RS, c_spec_l1Signs, k_spec_l1Signs, spec_l1Signs, Nat.reduceAdd, Nat.reduceSub, Nat.reduceMul, Nat.reduceLeDiff, Nat.reduceLT, Nat.reduceEqDiff, Nat.reduceBEq, ↓reduceIte, reduceCtorEq]
  repeat' first
    | with_reducible exact Ok_none
    | ((with_reducible refine Ok_ret ?_); first | rfl | (simp only [SSA, RS, e_spec_l1Signs, Nat.reduceAdd, Nat.reduceSub, Nat.reduceMul, Nat.reduceLeDiff, Nat.reduceLT, Nat.reduceEqDiff, Nat.reduceBEq, ↓reduceIte, reduceCtorEq]; done))
    | ((with_reducible refine Ok_tail (spec_l1Signs_l6_ok _ _) ?_); first | rfl | (simp only [SSA, RS, c_spec_l1Signs, Nat.reduceAdd, Nat.reduceSub, Nat.reduceMul, Nat.reduceLeDiff, Nat.reduceLT, Nat.reduceEqDiff, Nat.reduceBEq, ↓reduceIte, reduceCtorEq]; done) | (simp only [SSA, RS, c_spec_l1Signs, Nat.reduceAdd, Nat.reduceSub, Nat.reduceMul, Nat.reduceLeDiff, Nat.reduceLT, Nat.reduceEqDiff, Nat.reduceBEq, ↓reduceIte, reduceCtorEq]; rfl))

def e_spec_TextOk (r : Bool) : Res := ⟨[.t (.v (.bool r))], []⟩
def c_spec_TextOk : Cx := ⟨1, [0], [.tmp 2]⟩
theorem spec_TextOk_ok : ∀ (s : ByteArray), Ok (spec_TextOk s) e_spec_TextOk (dn FTA n_spec_TextOk [.t (.v (.string s))]) := by
  intro s
  rw [den_ev FTA (fn := k_spec_TextOk) rfl (xOf_none rfl rfl _) (Nat.le_of_ble_eq_true rfl)]
  have g0 := spec_l1Signs_ok; try simp only [SSA, RS, Nat.reduceAdd, Nat.reduceSub, Nat.reduceMul, Nat.reduceLeDiff, Nat.reduceLT, Nat.reduceEqDiff, Nat.reduceBEq, ↓reduceIte, reduceCtorEq] at g0
  simp only [SSA, RS, c_spec_TextOk, k_spec_TextOk, spec_TextOk, e_spec_l1Signs, Nat.reduceAdd, Nat.reduceSub, Nat.reduceMul, Nat.reduceLeDiff, Nat.reduceLT, Nat.reduceEqDiff, Nat.reduceBEq, ↓reduceIte, reduceCtorEq]
  repeat' first
    | with_reducible exact Ok_none
    | ((with_reducible refine Ok_ret ?_); first | rfl | (simp only [SSA, RS, e_spec_TextOk, Nat.reduceAdd, Nat.reduceSub, Nat.reduceMul, Nat.reduceLeDiff, Nat.reduceLT, Nat.reduceEqDiff, Nat.reduceBEq, ↓reduceIte, reduceCtorEq]; done))
    | ((first | with_reducible refine Ok_if (fun h => ?_) (fun h => ?_) | with_reducible refine Ok_call (g0 _) fun v => ?_ | refine Ok_call (g0 _) fun v => ?_) <;> simp only [SSA, RS, *, e_spec_l1Signs, Nat.reduceAdd, Nat.reduceSub, Nat.reduceMul, Nat.reduceLeDiff, Nat.reduceLT, Nat.reduceEqDiff, Nat.reduceBEq, ↓reduceIte, reduceCtorEq])

def e_spec_l5Has (r : Bool) : Res := ⟨[.t (.v (.bool r))], []⟩
def c_spec_l5Has : Cx := ⟨2, [0, 0], [.tmp 4]⟩
theorem spec_l5Has_l6_ok' (s : ByteArray) (t : ByteArray) : ∀ (i : Int), Ok (spec_l5Has_l6 s t i) e_spec_l5Has (ev FTA c_spec_l5Has (.loop k_spec_l5Has_l6) [.lv 0, .th k_spec_l5Has_r2] (putS (List.replicate 24 .dead) [(0, .t (.v (.string s))), (1, .t (.v (.string t))), (5, .t (.v (.int .i64 i)))]) (putR (List.replicate 24 []) [])) := by
  unfold Ok
  refine spec_l5Has_l6.partial_correctness s t _ ?_
  intro F ih i
  show Ok _ _ _
  have ih : ∀ (i : Int), Ok (F i) _ _ := ih
  rw [ev_loop]
  simp only [SSA, RS, c_spec_l5Has, k_spec_l5Has_l6, k_spec_l5Has_r2, Nat.reduceAdd, Nat.reduceSub, Nat.reduceMul, Nat.reduceLeDiff, Nat.reduceLT, Nat.reduceEqDiff, Nat.reduceBEq, ↓reduceIte, reduceCtorEq]
  repeat' first
    | with_reducible exact Ok_none
    | ((with_reducible refine Ok_ret ?_); first | rfl | (simp only [SSA, RS, e_spec_l5Has, Nat.reduceAdd, Nat.reduceSub, Nat.reduceMul, Nat.reduceLeDiff, Nat.reduceLT, Nat.reduceEqDiff, Nat.reduceBEq, ↓reduceIte, reduceCtorEq]; done))
    | ((with_reducible refine Ok_tail (ih _) ?_); first | rfl | (simp only [SSA, RS, c_spec_l5Has, Nat.reduceAdd, Nat.reduceSub, Nat.reduceMul, Nat.reduceLeDiff, Nat.reduceLT, Nat.reduceEqDiff, Nat.reduceBEq, ↓reduceIte, reduceCtorEq]; done) | (simp only [SSA, RS, c_spec_l5Has, Nat.reduceAdd, Nat.reduceSub, Nat.reduceMul, Nat.reduceLeDiff, Nat.reduceLT, Nat.reduceEqDiff, Nat.reduceBEq, ↓reduceIte, reduceCtorEq]; rfl))
    | ((first | with_reducible refine Ok_if (fun h => ?_) (fun h => ?_) | with_reducible refine Ok_prim (p := subS _ _ _) fun a h => ?_) <;> simp only [SSA, RS, *, k_spec_l5Has_r2, Nat.reduceAdd, Nat.reduceSub, Nat.reduceMul, Nat.reduceLeDiff, Nat.reduceLT, Nat.reduceEqDiff, Nat.reduceBEq, ↓reduceIte, reduceCtorEq])
theorem spec_l5Has_l6_ok (s : ByteArray) (t : ByteArray) (i : Int) : Ok (spec_l5Has_l6 s t i) e_spec_l5Has (ev FTA c_spec_l5Has (.loop k_spec_l5Has_l6) [.lv 0, .th k_spec_l5Has_r2] (putS (List.replicate 24 .dead) [(0, .t (.v (.string s))), (1, .t (.v (.string t))), (5, .t (.v (.int .i64 i)))]) (putR (List.replicate 24 []) [])) := spec_l5Has_l6_ok' s t i

theorem spec_l5Has_ok : ∀ (s : ByteArray) (t : ByteArray), Ok (spec_l5Has s t) e_spec_l5Has (dn FTA n_spec_l5Has [.t (.v (.string s)), .t (.v (.string t))]) := by
  intro s t
  rw [den_ev FTA (fn := k_spec_l5Has) rfl (xOf_none rfl rfl _) (Nat.le_of_ble_eq_true rfl)]
  simp only [SSA, RS, c_spec_l5Has, k_spec_l5Has, spec_l5Has, Nat.reduceAdd, Nat.reduceSub, Nat.reduceMul, Nat.reduceLeDiff, Nat.reduceLT, Nat.reduceEqDiff, Nat.reduceBEq, ↓reduceIte, reduceCtorEq]
  repeat' first
    | with_reducible exact Ok_none
    | ((with_reducible refine Ok_ret ?_); first | rfl | (simp only [SSA, RS, e_spec_l5Has, Nat.reduceAdd, Nat.reduceSub, Nat.reduceMul, Nat.reduceLeDiff, Nat.reduceLT, Nat.reduceEqDiff, Nat.reduceBEq, ↓reduceIte, reduceCtorEq]; done))
    | ((with_reducible refine Ok_tail (spec_l5Has_l6_ok _ _ _) ?_); first | rfl | (simp only [SSA, RS, c_spec_l5Has, Nat.reduceAdd, Nat.reduceSub, Nat.reduceMul, Nat.reduceLeDiff, Nat.reduceLT, Nat.reduceEqDiff, Nat.reduceBEq, ↓reduceIte, reduceCtorEq]; done) | (simp only [SSA, RS, c_spec_l5Has, Nat.reduceAdd, Nat.reduceSub, Nat.reduceMul, Nat.reduceLeDiff, Nat.reduceLT, Nat.reduceEqDiff, Nat.reduceBEq, ↓reduceIte, reduceCtorEq]; rfl))

def e_spec_l11Val (r : Bool) : Res := ⟨[.t (.v (.bool r))], []⟩
def c_spec_l11Val : Cx := ⟨1, [0], [.tmp 2]⟩
theorem spec_l11Val_ok : ∀ (s : ByteArray), Ok (spec_l11Val s) e_spec_l11Val (dn FTA n_spec_l11Val [.t (.v (.string s))]) := by
  intro s
  rw [den_ev FTA (fn := k_spec_l11Val) rfl (xOf_none rfl rfl _) (Nat.le_of_ble_eq_true rfl)]
  have g0 := spec_TextOk_ok; try simp only [SSA, RS, Nat.reduceAdd, Nat.reduceSub, Nat.reduceMul, Nat.reduceLeDiff, Nat.reduceLT, Nat.reduceEqDiff, Nat.reduceBEq, ↓reduceIte, reduceCtorEq] at g0
  have g1 := spec_l5Has_ok; try simp only [SSA, RS, Nat.reduceAdd, Nat.reduceSub, Nat.reduceMul, Nat.reduceLeDiff, Nat.reduceLT, Nat.reduceEqDiff, Nat.reduceBEq, ↓reduceIte, reduceCtorEq] at g1
  simp only [SSA, RS, c_spec_l11Val, k_spec_l11Val, spec_l11Val, e_spec_TextOk, e_spec_l5Has, Nat.reduceAdd, Nat.reduceSub, Nat.reduceMul, Nat.reduceLeDiff, Nat.reduceLT, Nat.reduceEqDiff, Nat.reduceBEq, ↓reduceIte, reduceCtorEq]
  repeat' first
    | with_reducible exact Ok_none
    | ((with_reducible refine Ok_ret ?_); first | rfl | (simp only [SSA, RS, e_spec_l11Val, Nat.reduceAdd, Nat.reduceSub, Nat.reduceMul, Nat.reduceLeDiff, Nat.reduceLT, Nat.reduceEqDiff, Nat.reduceBEq, ↓reduceIte, reduceCtorEq]; done))
    | ((first | with_reducible refine Ok_if (fun h => ?_) (fun h => ?_) | with_reducible refine Ok_call (g0 _) fun v => ?_ | with_reducible refine Ok_call (g1 _ _) fun v => ?_ | refine Ok_call (g0 _) fun v => ?_ | refine Ok_call (g1 _ _) fun v => ?_) <;> simp only [SSA, RS, *, e_spec_TextOk, e_spec_l5Has, Nat.reduceAdd, Nat.reduceSub, Nat.reduceMul, Nat.reduceLeDiff, Nat.reduceLT, Nat.reduceEqDiff, Nat.reduceBEq, ↓reduceIte, reduceCtorEq])

def e_spec_l11PredOk (r : Bool) : Res := ⟨[.t (.v (.bool r))], []⟩
def c_spec_l11PredOk : Cx := ⟨2, [0, 0], [.tmp 4]⟩
theorem spec_l11PredOk_j12_ok : ∀ (kind : Int) (p : GPred) (x : Bool), Ok (spec_l11PredOk_j12 kind p x) e_spec_l11PredOk (ev FTA c_spec_l11PredOk k_spec_l11PredOk_r12 [.lv 0, .th k_spec_l11PredOk_r2] (putS (List.replicate 74 .dead) [(1, .t (.v (.int .i64 kind))), (2, .ptr (2, 0) [] 0 0 1 0), (6, .t (.v (.int .i64 p.Kind))), (27, .t (.v (.bool x)))]) (putR (List.replicate 74 []) [(2, [.mem [[.v (.int .i64 p.Kind), .v (.int .i64 p.N), .v (.string p.Pre), .v (.string p.Local), .v (.string p.Val)]] 0 false])])) := by
  intro kind p x
  have g0 := spec_l1In_ok; try simp only [SSA, RS, Nat.reduceAdd, Nat.reduceSub, Nat.reduceMul, Nat.reduceLeDiff, Nat.reduceLT, Nat.reduceEqDiff, Nat.reduceBEq, ↓reduceIte, reduceCtorEq] at g0
  have g1 := spec_JoinName_ok; try simp only [SSA, RS, Nat.reduceAdd, Nat.reduceSub, Nat.reduceMul, Nat.reduceLeDiff, Nat.reduceLT, Nat.reduceEqDiff, Nat.reduceBEq, ↓reduceIte, reduceCtorEq] at g1
  have g2 := spec_l11Val_ok; try simp only [SSA, RS, Nat.reduceAdd, Nat.reduceSub, Nat.reduceMul, Nat.reduceLeDiff, Nat.reduceLT, Nat.reduceEqDiff, Nat.reduceBEq, ↓reduceIte, reduceCtorEq] at g2
  simp only [SSA, RS, c_spec_l11PredOk, k_spec_l11PredOk_r12, k_spec_l11PredOk_r2, spec_l11PredOk_j12, e_spec_JoinName, e_spec_l11Val, e_spec_l1In, Nat.reduceAdd, Nat.reduceSub, Nat.reduceMul, Nat.reduceLeDiff, Nat.reduceLT, Nat.reduceEqDiff, Nat.reduceBEq, ↓reduceIte, reduceCtorEq]
  repeat' first
    | with_reducible exact Ok_none
    | ((with_reducible refine Ok_ret ?_); first | rfl | (simp only [SSA, RS, e_spec_l11PredOk, Nat.reduceAdd, Nat.reduceSub, Nat.reduceMul, Nat.reduceLeDiff, Nat.reduceLT, Nat.reduceEqDiff, Nat.reduceBEq, ↓reduceIte, reduceCtorEq]; done))
    | ((first | with_reducible refine Ok_if (fun h => ?_) (fun h => ?_) | with_reducible refine Ok_call (g0 _ _ _) fun v => ?_ | with_reducible refine Ok_call (g1 _ _) fun v => ?_ | with_reducible refine Ok_call (g2 _) fun v => ?_ | refine Ok_call (g0 _ _ _) fun v => ?_ | refine Ok_call (g1 _ _) fun v => ?_ | refine Ok_call (g2 _) fun v => ?_) <;> simp only [SSA, RS, *, k_spec_l11PredOk_r2, e_spec_JoinName, e_spec_l11Val, e_spec_l1In, Nat.reduceAdd, Nat.reduceSub, Nat.reduceMul, Nat.reduceLeDiff, Nat.reduceLT, Nat.reduceEqDiff, Nat.reduceBEq, ↓reduceIte, reduceCtorEq])

theorem spec_l11PredOk_ok : ∀ (p : GPred) (kind : Int), Ok (spec_l11PredOk p kind) e_spec_l11PredOk (dn FTA n_spec_l11PredOk [.agg ((GPred.row p).map .t), .t (.v (.int .i64 kind))]) := by
  intro p kind
  rw [den_ev FTA (fn := k_spec_l11PredOk) rfl (xOf_none rfl rfl _) (Nat.le_of_ble_eq_true rfl)]
  have g0 := spec_l1In_ok; try simp only [SSA, RS, Nat.reduceAdd, Nat.reduceSub, Nat.reduceMul, Nat.reduceLeDiff, Nat.reduceLT, Nat.reduceEqDiff, Nat.reduceBEq, ↓reduceIte, reduceCtorEq] at g0
  simp only [SSA, RS, c_spec_l11PredOk, k_spec_l11PredOk, spec_l11PredOk, e_spec_l1In, Nat.reduceAdd, Nat.reduceSub, Nat.reduceMul, Nat.reduceLeDiff, Nat.reduceLT, Nat.reduceEqDiff, Nat.reduceBEq, ↓reduceIte, reduceCtorEq]
  repeat' first
    | with_reducible exact Ok_none
    | ((with_reducible refine Ok_ret ?_); first | rfl | (simp only [SSA, RS, e_spec_l11PredOk, Nat.reduceAdd, Nat.reduceSub, Nat.reduceMul, Nat.reduceLeDiff, Nat.reduceLT, Nat.reduceEqDiff, Nat.reduceBEq, ↓reduceIte, reduceCtorEq]; done))
    | ((with_reducible refine Ok_tail (spec_l11PredOk_j12_ok _ _ _) ?_); first | rfl | (simp only [SSA, RS, c_spec_l11PredOk, Nat.reduceAdd, Nat.reduceSub, Nat.reduceMul, Nat.reduceLeDiff, Nat.reduceLT, Nat.reduceEqDiff, Nat.reduceBEq, ↓reduceIte, reduceCtorEq]; done) | (simp only [SSA, RS, c_spec_l11PredOk, Nat.reduceAdd, Nat.reduceSub, Nat.reduceMul, Nat.reduceLeDiff, Nat.reduceLT, Nat.reduceEqDiff, Nat.reduceBEq, ↓reduceIte, reduceCtorEq]; rfl))
    | ((first | with_reducible refine Ok_if (fun h => ?_) (fun h => ?_) | with_reducible refine Ok_call (g0 _ _ _) fun v => ?_ | refine Ok_call (g0 _ _ _) fun v => ?_) <;> simp only [SSA, RS, *, e_spec_l1In, Nat.reduceAdd, Nat.reduceSub, Nat.reduceMul, Nat.reduceLeDiff, Nat.reduceLT, Nat.reduceEqDiff, Nat.reduceBEq, ↓reduceIte, reduceCtorEq])

def e_spec_l11StepOk (r : Bool) : Res := ⟨[.t (.v (.bool r))], []⟩
def c_spec_l11StepOk : Cx := ⟨2, [0, 0], [.tmp 4]⟩
theorem spec_l11StepOk_j45_ok : ∀ (a0 : GStp) (x5 : Bool) (xDeep : Bool), Ok (spec_l11StepOk_j45 a0 x5 xDeep) e_spec_l11StepOk (ev FTA c_spec_l11StepOk k_spec_l11StepOk_r45 [.lv 2, .th k_spec_l11StepOk_r31] (putS (List.replicate 96 .dead) [(2, .ptr (2, 0) [] 0 0 1 0), (46, .t (.v (.int .i64 a0.Kind))), (56, .t (.v (.bool x5)))]) (putR (List.replicate 96 []) [(2, [.mem [[.v (.bool xDeep), .v (.int .i64 a0.Kind), .v (.string a0.Pre), .v (.string a0.Local), .sl false (a0.Preds.map GPred.row)]] 0 false])])) := by
  intro a0 x5 xDeep
  have g0 := spec_PlainOk_ok; try simp only [SSA, RS, Nat.reduceAdd, Nat.reduceSub, Nat.reduceMul, Nat.reduceLeDiff, Nat.reduceLT, Nat.reduceEqDiff, Nat.reduceBEq, ↓reduceIte, reduceCtorEq] at g0
  simp only [SSA, RS, c_spec_l11StepOk, k_spec_l11StepOk_r45, k_spec_l11StepOk_r31, spec_l11StepOk_j45, e_spec_PlainOk, Nat.reduceAdd, Nat.reduceSub, Nat.reduceMul, Nat.reduceLeDiff, Nat.reduceLT, Nat.reduceEqDiff, Nat.reduceBEq, ↓reduceIte, reduceCtorEq]
  repeat' first
    | with_reducible exact Ok_none
    | ((with_reducible refine Ok_ret ?_); first | rfl | (simp only [SSA, RS, e_spec_l11StepOk, Nat.reduceAdd, Nat.reduceSub, Nat.reduceMul, Nat.reduceLeDiff, Nat.reduceLT, Nat.reduceEqDiff, Nat.reduceBEq, ↓reduceIte, reduceCtorEq]; done))
    | ((first | with_reducible refine Ok_if (fun h => ?_) (fun h => ?_) | with_reducible refine Ok_call (g0 _) fun v => ?_ | refine Ok_call (g0 _) fun v => ?_) <;> simp only [SSA, RS, *, k_spec_l11StepOk_r31, e_spec_PlainOk, Nat.reduceAdd, Nat.reduceSub, Nat.reduceMul, Nat.reduceLeDiff, Nat.reduceLT, Nat.reduceEqDiff, Nat.reduceBEq, ↓reduceIte, reduceCtorEq])

theorem spec_l11StepOk_j35_ok : ∀ (a0 : GStp) (x4 : Bool) (xDeep : Bool), Ok (spec_l11StepOk_j35 a0 x4 xDeep) e_spec_l11StepOk (ev FTA c_spec_l11StepOk k_spec_l11StepOk_r35 [.lv 2, .th k_spec_l11StepOk_r31] (putS (List.replicate 96 .dead) [(2, .ptr (2, 0) [] 0 0 1 0), (46, .t (.v (.int .i64 a0.Kind))), (47, .t (.v (.bool x4)))]) (putR (List.replicate 96 []) [(2, [.mem [[.v (.bool xDeep), .v (.int .i64 a0.Kind), .v (.string a0.Pre), .v (.string a0.Local), .sl false (a0.Preds.map GPred.row)]] 0 false])])) := by
  intro a0 x4 xDeep
  have g0 := spec_JoinName_ok; try simp only [SSA, RS, Nat.reduceAdd, Nat.reduceSub, Nat.reduceMul, Nat.reduceLeDiff, Nat.reduceLT, Nat.reduceEqDiff, Nat.reduceBEq, ↓reduceIte, reduceCtorEq] at g0
  simp only [SSA, RS, c_spec_l11StepOk, k_spec_l11StepOk_r35, spec_l11StepOk_j35, e_spec_JoinName, Nat.reduceAdd, Nat.reduceSub, Nat.reduceMul, Nat.reduceLeDiff, Nat.reduceLT, Nat.reduceEqDiff, Nat.reduceBEq, ↓reduceIte, reduceCtorEq]
  repeat' first
    | with_reducible exact Ok_none
    | ((with_reducible refine Ok_ret ?_); first | rfl | (simp only [SSA, RS, e_spec_l11StepOk, Nat.reduceAdd, Nat.reduceSub, Nat.reduceMul, Nat.reduceLeDiff, Nat.reduceLT, Nat.reduceEqDiff, Nat.reduceBEq, ↓reduceIte, reduceCtorEq]; done))
    | ((with_reducible refine Ok_tail (spec_l11StepOk_j45_ok _ _ _) ?_); first | rfl | (simp only [SSA, RS, c_spec_l11StepOk, Nat.reduceAdd, Nat.reduceSub, Nat.reduceMul, Nat.reduceLeDiff, Nat.reduceLT, Nat.reduceEqDiff, Nat.reduceBEq, ↓reduceIte, reduceCtorEq]; done) | (simp only [SSA, RS, c_spec_l11StepOk, Nat.reduceAdd, Nat.reduceSub, Nat.reduceMul, Nat.reduceLeDiff, Nat.reduceLT, Nat.reduceEqDiff, Nat.reduceBEq, ↓reduceIte, reduceCtorEq]; rfl))
    | ((first | with_reducible refine Ok_if (fun h => ?_) (fun h => ?_) | with_reducible refine Ok_call (g0 _ _) fun v => ?_ | refine Ok_call (g0 _ _) fun v => ?_) <;> simp only [SSA, RS, *, e_spec_JoinName, Nat.reduceAdd, Nat.reduceSub, Nat.reduceMul, Nat.reduceLeDiff, Nat.reduceLT, Nat.reduceEqDiff, Nat.reduceBEq, ↓reduceIte, reduceCtorEq])

theorem spec_l11StepOk_l14_ok' (xDeep : Bool) (a0 : GStp) : ∀ (i : Int), Ok (spec_l11StepOk_l14 i xDeep a0) e_spec_l11StepOk (ev FTA c_spec_l11StepOk (.loop k_spec_l11StepOk_l14) [.lv 0, .th k_spec_l11StepOk_r10] (putS (List.replicate 96 .dead) [(2, .ptr (2, 0) [] 0 0 1 0), (5, .t (.v (.int .i64 i)))]) (putR (List.replicate 96 []) [(2, [.mem [[.v (.bool xDeep), .v (.int .i64 a0.Kind), .v (.string a0.Pre), .v (.string a0.Local), .sl false (a0.Preds.map GPred.row)]] 0 false])])) := by
  unfold Ok
  refine spec_l11StepOk_l14.partial_correctness xDeep a0 _ ?_
  intro F ih i
  show Ok _ _ _
  have ih : ∀ (i : Int), Ok (F i) _ _ := ih
  rw [ev_loop]
  have g0 := spec_l11PredOk_ok; try simp only [SSA, RS, Nat.reduceAdd, Nat.reduceSub, Nat.reduceMul, Nat.reduceLeDiff, Nat.reduceLT, Nat.reduceEqDiff, Nat.reduceBEq, ↓reduceIte, reduceCtorEq] at g0
  simp only [SSA, RS, c_spec_l11StepOk, k_spec_l11StepOk_l14, k_spec_l11StepOk_r10, e_spec_l11PredOk, Nat.reduceAdd, Nat.reduceSub, Nat.reduceMul, Nat.reduceLeDiff, Nat.reduceLT, Nat.reduceEqDiff, Nat.reduceBEq, ↓reduceIte, reduceCtorEq]
  repeat' first
    | with_reducible exact Ok_none
    | ((with_reducible refine Ok_ret ?_); first | rfl | (simp only [SSA, RS, e_spec_l11StepOk, Nat.reduceAdd, Nat.reduceSub, Nat.reduceMul, Nat.reduceLeDiff, Nat.reduceLT, Nat.reduceEqDiff, Nat.reduceBEq, ↓reduceIte, reduceCtorEq]; done))
    | ((with_reducible refine Ok_tail (ih _) ?_); first | rfl | (simp only [SSA, RS, c_spec_l11StepOk, Nat.reduceAdd, Nat.reduceSub, Nat.reduceMul, Nat.reduceLeDiff, Nat.reduceLT, Nat.reduceEqDiff, Nat.reduceBEq, ↓reduceIte, reduceCtorEq]; done) | (simp only [SSA, RS, c_spec_l11StepOk, Nat.reduceAdd, Nat.reduceSub, Nat.reduceMul, Nat.reduceLeDiff, Nat.reduceLT, Nat.reduceEqDiff, Nat.reduceBEq, ↓reduceIte, reduceCtorEq]; rfl))
    | ((with_reducible refine Ok_tail (spec_l11StepOk_j35_ok _ _ _) ?_); first | rfl | (simp only [SSA, RS, c_spec_l11StepOk, Nat.reduceAdd, Nat.reduceSub, Nat.reduceMul, Nat.reduceLeDiff, Nat.reduceLT, Nat.reduceEqDiff, Nat.reduceBEq, ↓reduceIte, reduceCtorEq]; done) | (simp only [SSA, RS, c_spec_l11StepOk, Nat.reduceAdd, Nat.reduceSub, Nat.reduceMul, Nat.reduceLeDiff, Nat.reduceLT, Nat.reduceEqDiff, Nat.reduceBEq, ↓reduceIte, reduceCtorEq]; rfl))
    | ((first | with_reducible refine Ok_if (fun h => ?_) (fun h => ?_) | with_reducible refine Ok_get fun a h => ?_ | with_reducible refine Ok_call (g0 _ _) fun v => ?_ | refine Ok_call (g0 _ _) fun v => ?_) <;> simp only [SSA, RS, *, k_spec_l11StepOk_r10, e_spec_l11PredOk, Nat.reduceAdd, Nat.reduceSub, Nat.reduceMul, Nat.reduceLeDiff, Nat.reduceLT, Nat.reduceEqDiff, Nat.reduceBEq, ↓reduceIte, reduceCtorEq])
theorem spec_l11StepOk_l14_ok (i : Int) (xDeep : Bool) (a0 : GStp) : Ok (spec_l11StepOk_l14 i xDeep a0) e_spec_l11StepOk (ev FTA c_spec_l11StepOk (.loop k_spec_l11StepOk_l14) [.lv 0, .th k_spec_l11StepOk_r10] (putS (List.replicate 96 .dead) [(2, .ptr (2, 0) [] 0 0 1 0), (5, .t (.v (.int .i64 i)))]) (putR (List.replicate 96 []) [(2, [.mem [[.v (.bool xDeep), .v (.int .i64 a0.Kind), .v (.string a0.Pre), .v (.string a0.Local), .sl false (a0.Preds.map GPred.row)]] 0 false])])) := spec_l11StepOk_l14_ok' xDeep a0 i

theorem spec_l11StepOk_j2_ok : ∀ (xDeep : Bool) (a0 : GStp), Ok (spec_l11StepOk_j2 xDeep a0) e_spec_l11StepOk (ev FTA c_spec_l11StepOk k_spec_l11StepOk_r2 [] (putS (List.replicate 96 .dead) [(2, .ptr (2, 0) [] 0 0 1 0)]) (putR (List.replicate 96 []) [(2, [.mem [[.v (.bool xDeep), .v (.int .i64 a0.Kind), .v (.string a0.Pre), .v (.string a0.Local), .sl false (a0.Preds.map GPred.row)]] 0 false])])) := by
  intro xDeep a0
  simp only [SSA, RS, c_spec_l11StepOk, k_spec_l11StepOk_r2, spec_l11StepOk_j2, Nat.reduceAdd, Nat.reduceSub, Nat.reduceMul, Nat.reduceLeDiff, Nat.reduceLT, Nat.reduceEqDiff, Nat.reduceBEq, ↓reduceIte, reduceCtorEq]
  repeat' first
    | with_reducible exact Ok_none
    | ((with_reducible refine Ok_ret ?_); first | rfl | (simp only [SSA, RS, e_spec_l11StepOk, Nat.reduceAdd, Nat.reduceSub, Nat.reduceMul, Nat.reduceLeDiff, Nat.reduceLT, Nat.reduceEqDiff, Nat.reduceBEq, ↓reduceIte, reduceCtorEq]; done))
    | ((with_reducible refine Ok_tail (spec_l11StepOk_l14_ok _ _ _) ?_); first | rfl | (simp only [SSA, RS, c_spec_l11StepOk, Nat.reduceAdd, Nat.reduceSub, Nat.reduceMul, Nat.reduceLeDiff, Nat.reduceLT, Nat.reduceEqDiff, Nat.reduceBEq, ↓reduceIte, reduceCtorEq]; done) | (simp only [SSA, RS, c_spec_l11StepOk, Nat.reduceAdd, Nat.reduceSub, Nat.reduceMul, Nat.reduceLeDiff, Nat.reduceLT, Nat.reduceEqDiff, Nat.reduceBEq, ↓reduceIte, reduceCtorEq]; rfl))

theorem spec_l11StepOk_ok : ∀ (a0 : GStp) (last : Bool), Ok (spec_l11StepOk a0 last) e_spec_l11StepOk (dn FTA n_spec_l11StepOk [.agg (((GStp.row false) a0).map .t), .t (.v (.bool last))]) := by
  intro a0 last
  rw [den_ev FTA (fn := k_spec_l11StepOk) rfl (xOf_none rfl rfl _) (Nat.le_of_ble_eq_true rfl)]
  simp only [SSA, RS, c_spec_l11StepOk, k_spec_l11StepOk, spec_l11StepOk, Nat.reduceAdd, Nat.reduceSub, Nat.reduceMul, Nat.reduceLeDiff, Nat.reduceLT, Nat.reduceEqDiff, Nat.reduceBEq, ↓reduceIte, reduceCtorEq]
  repeat' first
    | with_reducible exact Ok_none
    | ((with_reducible refine Ok_ret ?_); first | rfl | (simp only [SSA, RS, e_spec_l11StepOk, Nat.reduceAdd, Nat.reduceSub, Nat.reduceMul, Nat.reduceLeDiff, Nat.reduceLT, Nat.reduceEqDiff, Nat.reduceBEq, ↓reduceIte, reduceCtorEq]; done))
    | ((with_reducible refine Ok_tail (spec_l11StepOk_j2_ok _ _) ?_); first | rfl | (simp only [SSA, RS, c_spec_l11StepOk, Nat.reduceAdd, Nat.reduceSub, Nat.reduceMul, Nat.reduceLeDiff, Nat.reduceLT, Nat.reduceEqDiff, Nat.reduceBEq, ↓reduceIte, reduceCtorEq]; done) | (simp only [SSA, RS, c_spec_l11StepOk, Nat.reduceAdd, Nat.reduceSub, Nat.reduceMul, Nat.reduceLeDiff, Nat.reduceLT, Nat.reduceEqDiff, Nat.reduceBEq, ↓reduceIte, reduceCtorEq]; rfl))
    | ((first | with_reducible refine Ok_if (fun h => ?_) (fun h => ?_)) <;> simp only [SSA, RS, *, Nat.reduceAdd, Nat.reduceSub, Nat.reduceMul, Nat.reduceLeDiff, Nat.reduceLT, Nat.reduceEqDiff, Nat.reduceBEq, ↓reduceIte, reduceCtorEq])

def e_spec_SelOk (r : Bool) : Res := ⟨[.t (.v (.bool r))], []⟩
def c_spec_SelOk : Cx := ⟨1, [0], [.tmp 2]⟩
theorem spec_SelOk_l6_ok' (s : GSel) : ∀ (i : Int), Ok (spec_SelOk_l6 i s) e_spec_SelOk (ev FTA c_spec_SelOk (.loop k_spec_SelOk_l6) [.lv 0, .th k_spec_SelOk_r2] (putS (List.replicate 44 .dead) [(1, .ptr (1, 0) [] 0 0 1 0), (3, .t (.v (.int .i64 i)))]) (putR (List.replicate 44 []) [(1, [.mem [[.v (.string s.Id), .sl false (s.Steps.map (GStp.row false))]] 0 false])])) := by
  unfold Ok
  refine spec_SelOk_l6.partial_correctness s _ ?_
  intro F ih i
  show Ok _ _ _
  have ih : ∀ (i : Int), Ok (F i) _ _ := ih
  rw [ev_loop]
  have g0 := spec_l11StepOk_ok; try simp only [SSA, RS, Nat.reduceAdd, Nat.reduceSub, Nat.reduceMul, Nat.reduceLeDiff, Nat.reduceLT, Nat.reduceEqDiff, Nat.reduceBEq, ↓reduceIte, reduceCtorEq] at g0
  have g1 := spec_l11Val_ok; try simp only [SSA, RS, Nat.reduceAdd, Nat.reduceSub, Nat.reduceMul, Nat.reduceLeDiff, Nat.reduceLT, Nat.reduceEqDiff, Nat.reduceBEq, ↓reduceIte, reduceCtorEq] at g1
  simp only [SSA, RS, c_spec_SelOk, k_spec_SelOk_l6, k_spec_SelOk_r2, e_spec_l11StepOk, e_spec_l11Val, Nat.reduceAdd, Nat.reduceSub, Nat.reduceMul, Nat.reduceLeDiff, Nat.reduceLT, Nat.reduceEqDiff, Nat.reduceBEq, ↓reduceIte, reduceCtorEq]
  repeat' first
    | with_reducible exact Ok_none
    | ((with_reducible refine Ok_ret ?_); first | rfl | (simp only [SSA, RS, e_spec_SelOk, Nat.reduceAdd, Nat.reduceSub, Nat.reduceMul, Nat.reduceLeDiff, Nat.reduceLT, Nat.reduceEqDiff, Nat.reduceBEq, ↓reduceIte, reduceCtorEq]; done))
    | ((with_reducible refine Ok_tail (ih _) ?_); first | rfl | (simp only [SSA, RS, c_spec_SelOk, Nat.reduceAdd, Nat.reduceSub, Nat.reduceMul, Nat.reduceLeDiff, Nat.reduceLT, Nat.reduceEqDiff, Nat.reduceBEq, ↓reduceIte, reduceCtorEq]; done) | (simp only [SSA, RS, c_spec_SelOk, Nat.reduceAdd, Nat.reduceSub, Nat.reduceMul, Nat.reduceLeDiff, Nat.reduceLT, Nat.reduceEqDiff, Nat.reduceBEq, ↓reduceIte, reduceCtorEq]; rfl))
    | ((first | with_reducible refine Ok_if (fun h => ?_) (fun h => ?_) | with_reducible refine Ok_get fun a h => ?_ | with_reducible refine Ok_call (g0 _ _) fun v => ?_ | with_reducible refine Ok_call (g1 _) fun v => ?_ | refine Ok_call (g0 _ _) fun v => ?_ | refine Ok_call (g1 _) fun v => ?_) <;> simp only [SSA, RS, *, k_spec_SelOk_r2, e_spec_l11StepOk, e_spec_l11Val, Nat.reduceAdd, Nat.reduceSub, Nat.reduceMul, Nat.reduceLeDiff, Nat.reduceLT, Nat.reduceEqDiff, Nat.reduceBEq, ↓reduceIte, reduceCtorEq])
theorem spec_SelOk_l6_ok (i : Int) (s : GSel) : Ok (spec_SelOk_l6 i s) e_spec_SelOk (ev FTA c_spec_SelOk (.loop k_spec_SelOk_l6) [.lv 0, .th k_spec_SelOk_r2] (putS (List.replicate 44 .dead) [(1, .ptr (1, 0) [] 0 0 1 0), (3, .t (.v (.int .i64 i)))]) (putR (List.replicate 44 []) [(1, [.mem [[.v (.string s.Id), .sl false (s.Steps.map (GStp.row false))]] 0 false])])) := spec_SelOk_l6_ok' s i

theorem spec_SelOk_ok : ∀ (s : GSel), Ok (spec_SelOk s) e_spec_SelOk (dn FTA n_spec_SelOk [.agg (((GSel.row false) s).map .t)]) := by
  intro s
  rw [den_ev FTA (fn := k_spec_SelOk) rfl (xOf_none rfl rfl _) (Nat.le_of_ble_eq_true rfl)]
  simp only [SSA, RS, c_spec_SelOk, k_spec_SelOk, spec_SelOk, Nat.reduceAdd, Nat.reduceSub, Nat.reduceMul, Nat.reduceLeDiff, Nat.reduceLT, Nat.reduceEqDiff, Nat.reduceBEq, ↓reduceIte, reduceCtorEq]
  repeat' first
    | with_reducible exact Ok_none
    | ((with_reducible refine Ok_ret ?_); first | rfl | (simp only [SSA, RS, e_spec_SelOk, Nat.reduceAdd, Nat.reduceSub, Nat.reduceMul, Nat.reduceLeDiff, Nat.reduceLT, Nat.reduceEqDiff, Nat.reduceBEq, ↓reduceIte, reduceCtorEq]; done))
    | ((with_reducible refine Ok_tail (spec_SelOk_l6_ok _ _) ?_); first | rfl | (simp only [SSA, RS, c_spec_SelOk, Nat.reduceAdd, Nat.reduceSub, Nat.reduceMul, Nat.reduceLeDiff, Nat.reduceLT, Nat.reduceEqDiff, Nat.reduceBEq, ↓reduceIte, reduceCtorEq]; done) | (simp only [SSA, RS, c_spec_SelOk, Nat.reduceAdd, Nat.reduceSub, Nat.reduceMul, Nat.reduceLeDiff, Nat.reduceLT, Nat.reduceEqDiff, Nat.reduceBEq, ↓reduceIte, reduceCtorEq]; rfl))

def e_spec_l11Quote (r : ByteArray) : Res := ⟨[.t (.v (.string r))], []⟩
def c_spec_l11Quote : Cx := ⟨1, [0], [.tmp 2]⟩
theorem spec_l11Quote_ok : ∀ (s : ByteArray), Ok (spec_l11Quote s) e_spec_l11Quote (dn FTA n_spec_l11Quote [.t (.v (.string s))]) := by
  intro s
  rw [den_ev FTA (fn := k_spec_l11Quote) rfl (xOf_none rfl rfl _) (Nat.le_of_ble_eq_true rfl)]
  have g0 := spec_l5Has_ok; try simp only [SSA, RS, Nat.reduceAdd, Nat.reduceSub, Nat.reduceMul, Nat.reduceLeDiff, Nat.reduceLT, Nat.reduceEqDiff, Nat.reduceBEq, ↓reduceIte, reduceCtorEq] at g0
  simp only [SSA, RS, c_spec_l11Quote, k_spec_l11Quote, spec_l11Quote, e_spec_l5Has, Nat.reduceAdd, Nat.reduceSub, Nat.reduceMul, Nat.reduceLeDiff, Nat.reduceLT, Nat.reduceEqDiff, Nat.reduceBEq, ↓reduceIte, reduceCtorEq]
  repeat' first
    | with_reducible exact Ok_none
    | ((with_reducible refine Ok_ret ?_); first | rfl | (simp only [SSA, RS, e_spec_l11Quote, Nat.reduceAdd, Nat.reduceSub, Nat.reduceMul, Nat.reduceLeDiff, Nat.reduceLT, Nat.reduceEqDiff, Nat.reduceBEq, ↓reduceIte, reduceCtorEq]; done))
    | ((first | with_reducible refine Ok_if (fun h => ?_) (fun h => ?_) | with_reducible refine Ok_call (g0 _ _) fun v => ?_ | with_reducible refine Ok_prim (p := catS _ _) fun a h => ?_ | refine Ok_call (g0 _ _) fun v => ?_) <;> simp only [SSA, RS, *, e_spec_l5Has, Nat.reduceAdd, Nat.reduceSub, Nat.reduceMul, Nat.reduceLeDiff, Nat.reduceLT, Nat.reduceEqDiff, Nat.reduceBEq, ↓reduceIte, reduceCtorEq])

def e_spec_l11Num (r : ByteArray) : Res := ⟨[.t (.v (.string r))], []⟩
def c_spec_l11Num : Cx := ⟨1, [0], [.tmp 2]⟩
theorem spec_l11Num_l8_ok' : ∀ (s : ByteArray) (x3 : Int), Ok (spec_l11Num_l8 s x3) e_spec_l11Num (ev FTA c_spec_l11Num (.loop k_spec_l11Num_l8) [.lv 0, .th k_spec_l11Num_r4] (putS (List.replicate 19 .dead) [(3, .t (.v (.string s))), (4, .t (.v (.int .i64 x3)))]) (putR (List.replicate 19 []) [])) := by
  unfold Ok
  refine spec_l11Num_l8.partial_correctness _ ?_
  intro F ih s x3
  show Ok _ _ _
  have ih : ∀ (s : ByteArray) (x3 : Int), Ok (F s x3) _ _ := ih
  rw [ev_loop]
  simp only [SSA, RS, c_spec_l11Num, k_spec_l11Num_l8, k_spec_l11Num_r4, Nat.reduceAdd, Nat.reduceSub, Nat.reduceMul, Nat.reduceLeDiff, Nat.reduceLT, Nat.reduceEqDiff, Nat.reduceBEq, ↓reduceIte, reduceCtorEq]
  repeat' first
    | with_reducible exact Ok_none
    | ((with_reducible refine Ok_ret ?_); first | rfl | (simp only [SSA, RS, e_spec_l11Num, Nat.reduceAdd, Nat.reduceSub, Nat.reduceMul, Nat.reduceLeDiff, Nat.reduceLT, Nat.reduceEqDiff, Nat.reduceBEq, ↓reduceIte, reduceCtorEq]; done))
    | ((with_reducible refine Ok_tail (ih _ _) ?_); first | rfl | (simp only [SSA, RS, c_spec_l11Num, Nat.reduceAdd, Nat.reduceSub, Nat.reduceMul, Nat.reduceLeDiff, Nat.reduceLT, Nat.reduceEqDiff, Nat.reduceBEq, ↓reduceIte, reduceCtorEq]; done) | (simp only [SSA, RS, c_spec_l11Num, Nat.reduceAdd, Nat.reduceSub, Nat.reduceMul, Nat.reduceLeDiff, Nat.reduceLT, Nat.reduceEqDiff, Nat.reduceBEq, ↓reduceIte, reduceCtorEq]; rfl))
    | ((first | with_reducible refine Ok_if (fun h => ?_) (fun h => ?_) | with_reducible refine Ok_prim (p := catS _ _) fun a h => ?_ | with_reducible refine Ok_prim (p := quoI _ _) fun a h => ?_ | with_reducible refine Ok_prim (p := remI _ _) fun a h => ?_) <;> simp only [SSA, RS, *, k_spec_l11Num_r4, Nat.reduceAdd, Nat.reduceSub, Nat.reduceMul, Nat.reduceLeDiff, Nat.reduceLT, Nat.reduceEqDiff, Nat.reduceBEq, ↓reduceIte, reduceCtorEq])
theorem spec_l11Num_l8_ok (s : ByteArray) (x3 : Int) : Ok (spec_l11Num_l8 s x3) e_spec_l11Num (ev FTA c_spec_l11Num (.loop k_spec_l11Num_l8) [.lv 0, .th k_spec_l11Num_r4] (putS (List.replicate 19 .dead) [(3, .t (.v (.string s))), (4, .t (.v (.int .i64 x3)))]) (putR (List.replicate 19 []) [])) := spec_l11Num_l8_ok' s x3

theorem spec_l11Num_ok : ∀ (n : Int), Ok (spec_l11Num n) e_spec_l11Num (dn FTA n_spec_l11Num [.t (.v (.int .i64 n))]) := by
  intro n
  rw [den_ev FTA (fn := k_spec_l11Num) rfl (xOf_none rfl rfl _) (Nat.le_of_ble_eq_true rfl)]
  simp only [SSA, RS, c_spec_l11Num, k_spec_l11Num, spec_l11Num, Nat.reduceAdd, Nat.reduceSub, Nat.reduceMul, Nat.reduceLeDiff, Nat.reduceLT, Nat.reduceEqDiff, Nat.reduceBEq, ↓reduceIte, reduceCtorEq]
  repeat' first
    | with_reducible exact Ok_none
    | ((with_reducible refine Ok_ret ?_); first | rfl | (simp only [SSA, RS, e_spec_l11Num, Nat.reduceAdd, Nat.reduceSub, Nat.reduceMul, Nat.reduceLeDiff, Nat.reduceLT, Nat.reduceEqDiff, Nat.reduceBEq, ↓reduceIte, reduceCtorEq]; done))
    | ((with_reducible refine Ok_tail (spec_l11Num_l8_ok _ _) ?_); first | rfl | (simp only [SSA, RS, c_spec_l11Num, Nat.reduceAdd, Nat.reduceSub, Nat.reduceMul, Nat.reduceLeDiff, Nat.reduceLT, Nat.reduceEqDiff, Nat.reduceBEq, ↓reduceIte, reduceCtorEq]; done) | (simp only [SSA, RS, c_spec_l11Num, Nat.reduceAdd, Nat.reduceSub, Nat.reduceMul, Nat.reduceLeDiff, Nat.reduceLT, Nat.reduceEqDiff, Nat.reduceBEq, ↓reduceIte, reduceCtorEq]; rfl))

def e_spec_l11Pred (r : ByteArray) : Res := ⟨[.t (.v (.string r))], []⟩
def c_spec_l11Pred : Cx := ⟨1, [0], [.tmp 2]⟩
theorem spec_l11Pred_ok : ∀ (p : GPred), Ok (spec_l11Pred p) e_spec_l11Pred (dn FTA n_spec_l11Pred [.agg ((GPred.row p).map .t)]) := by
  intro p
  rw [den_ev FTA (fn := k_spec_l11Pred) rfl (xOf_none rfl rfl _) (Nat.le_of_ble_eq_true rfl)]
  have g0 := spec_l11Num_ok; try simp only [SSA, RS, Nat.reduceAdd, Nat.reduceSub, Nat.reduceMul, Nat.reduceLeDiff, Nat.reduceLT, Nat.reduceEqDiff, Nat.reduceBEq, ↓reduceIte, reduceCtorEq] at g0
  have g1 := spec_JoinName_ok; try simp only [SSA, RS, Nat.reduceAdd, Nat.reduceSub, Nat.reduceMul, Nat.reduceLeDiff, Nat.reduceLT, Nat.reduceEqDiff, Nat.reduceBEq, ↓reduceIte, reduceCtorEq] at g1
  have g2 := spec_l11Quote_ok; try simp only [SSA, RS, Nat.reduceAdd, Nat.reduceSub, Nat.reduceMul, Nat.reduceLeDiff, Nat.reduceLT, Nat.reduceEqDiff, Nat.reduceBEq, ↓reduceIte, reduceCtorEq] at g2
  simp only [SSA, RS, c_spec_l11Pred, k_spec_l11Pred, spec_l11Pred, e_spec_JoinName, e_spec_l11Num, e_spec_l11Quote, Nat.reduceAdd, Nat.reduceSub, Nat.reduceMul, Nat.reduceLeDiff, Nat.reduceLT, Nat.reduceEqDiff, Nat.reduceBEq, ↓reduceIte, reduceCtorEq]
  repeat' first
    | with_reducible exact Ok_none
    | ((with_reducible refine Ok_ret ?_); first | rfl | (simp only [SSA, RS, e_spec_l11Pred, Nat.reduceAdd, Nat.reduceSub, Nat.reduceMul, Nat.reduceLeDiff, Nat.reduceLT, Nat.reduceEqDiff, Nat.reduceBEq, ↓reduceIte, reduceCtorEq]; done))
    | ((first | with_reducible refine Ok_if (fun h => ?_) (fun h => ?_) | with_reducible refine Ok_call (g0 _) fun v => ?_ | with_reducible refine Ok_call (g1 _ _) fun v => ?_ | with_reducible refine Ok_call (g2 _) fun v => ?_ | with_reducible refine Ok_prim (p := catS _ _) fun a h => ?_ | refine Ok_call (g0 _) fun v => ?_ | refine Ok_call (g1 _ _) fun v => ?_ | refine Ok_call (g2 _) fun v => ?_) <;> simp only [SSA, RS, *, e_spec_JoinName, e_spec_l11Num, e_spec_l11Quote, Nat.reduceAdd, Nat.reduceSub, Nat.reduceMul, Nat.reduceLeDiff, Nat.reduceLT, Nat.reduceEqDiff, Nat.reduceBEq, ↓reduceIte, reduceCtorEq])

def e_spec_l11Step (r : ByteArray) : Res := ⟨[.t (.v (.string r))], []⟩
def c_spec_l11Step : Cx := ⟨1, [0], [.tmp 2]⟩
theorem spec_l11Step_l43_ok' (a0 : GStp) : ∀ (s1 : ByteArray) (i : Int), Ok (spec_l11Step_l43 s1 i a0) e_spec_l11Step (ev FTA c_spec_l11Step (.loop k_spec_l11Step_l43) [.lv 1, .th k_spec_l11Step_r39] (putS (List.replicate 56 .dead) [(1, .ptr (1, 0) [] 0 0 1 0), (3, .t (.v (.string s1))), (4, .t (.v (.int .i64 i)))]) (putR (List.replicate 56 []) [(1, [.mem [[.v (.bool a0.Deep), .v (.int .i64 a0.Kind), .v (.string a0.Pre), .v (.string a0.Local), .sl false (a0.Preds.map GPred.row)]] 0 false])])) := by
  unfold Ok
  refine spec_l11Step_l43.partial_correctness a0 _ ?_
  intro F ih s1 i
  show Ok _ _ _
  have ih : ∀ (s1 : ByteArray) (i : Int), Ok (F s1 i) _ _ := ih
  rw [ev_loop]
  have g0 := spec_l11Pred_ok; try simp only [SSA, RS, Nat.reduceAdd, Nat.reduceSub, Nat.reduceMul, Nat.reduceLeDiff, Nat.reduceLT, Nat.reduceEqDiff, Nat.reduceBEq, ↓reduceIte, reduceCtorEq] at g0
  simp only [SSA, RS, c_spec_l11Step, k_spec_l11Step_l43, k_spec_l11Step_r39, e_spec_l11Pred, Nat.reduceAdd, Nat.reduceSub, Nat.reduceMul, Nat.reduceLeDiff, Nat.reduceLT, Nat.reduceEqDiff, Nat.reduceBEq, ↓reduceIte, reduceCtorEq]
  repeat' first
    | with_reducible exact Ok_none
    | ((with_reducible refine Ok_ret ?_); first | rfl | (simp only [SSA, RS, e_spec_l11Step, Nat.reduceAdd, Nat.reduceSub, Nat.reduceMul, Nat.reduceLeDiff, Nat.reduceLT, Nat.reduceEqDiff, Nat.reduceBEq, ↓reduceIte, reduceCtorEq]; done))
    | ((with_reducible refine Ok_tail (ih _ _) ?_); first | rfl | (simp only [SSA, RS, c_spec_l11Step, Nat.reduceAdd, Nat.reduceSub, Nat.reduceMul, Nat.reduceLeDiff, Nat.reduceLT, Nat.reduceEqDiff, Nat.reduceBEq, ↓reduceIte, reduceCtorEq]; done) | (simp only [SSA, RS, c_spec_l11Step, Nat.reduceAdd, Nat.reduceSub, Nat.reduceMul, Nat.reduceLeDiff, Nat.reduceLT, Nat.reduceEqDiff, Nat.reduceBEq, ↓reduceIte, reduceCtorEq]; rfl))
    | ((first | with_reducible refine Ok_if (fun h => ?_) (fun h => ?_) | with_reducible refine Ok_get fun a h => ?_ | with_reducible refine Ok_call (g0 _) fun v => ?_ | with_reducible refine Ok_prim (p := catS _ _) fun a h => ?_ | refine Ok_call (g0 _) fun v => ?_) <;> simp only [SSA, RS, *, k_spec_l11Step_r39, e_spec_l11Pred, Nat.reduceAdd, Nat.reduceSub, Nat.reduceMul, Nat.reduceLeDiff, Nat.reduceLT, Nat.reduceEqDiff, Nat.reduceBEq, ↓reduceIte, reduceCtorEq])
theorem spec_l11Step_l43_ok (s1 : ByteArray) (i : Int) (a0 : GStp) : Ok (spec_l11Step_l43 s1 i a0) e_spec_l11Step (ev FTA c_spec_l11Step (.loop k_spec_l11Step_l43) [.lv 1, .th k_spec_l11Step_r39] (putS (List.replicate 56 .dead) [(1, .ptr (1, 0) [] 0 0 1 0), (3, .t (.v (.string s1))), (4, .t (.v (.int .i64 i)))]) (putR (List.replicate 56 []) [(1, [.mem [[.v (.bool a0.Deep), .v (.int .i64 a0.Kind), .v (.string a0.Pre), .v (.string a0.Local), .sl false (a0.Preds.map GPred.row)]] 0 false])])) := spec_l11Step_l43_ok' a0 s1 i

theorem spec_l11Step_j4_ok : ∀ (s : ByteArray) (a0 : GStp), Ok (spec_l11Step_j4 s a0) e_spec_l11Step (ev FTA c_spec_l11Step k_spec_l11Step_r4 [] (putS (List.replicate 56 .dead) [(1, .ptr (1, 0) [] 0 0 1 0), (3, .t (.v (.string s)))]) (putR (List.replicate 56 []) [(1, [.mem [[.v (.bool a0.Deep), .v (.int .i64 a0.Kind), .v (.string a0.Pre), .v (.string a0.Local), .sl false (a0.Preds.map GPred.row)]] 0 false])])) := by
  intro s a0
  simp only [SSA, RS, c_spec_l11Step, k_spec_l11Step_r4, spec_l11Step_j4, Nat.reduceAdd, Nat.reduceSub, Nat.reduceMul, Nat.reduceLeDiff, Nat.reduceLT, Nat.reduceEqDiff, Nat.reduceBEq, ↓reduceIte, reduceCtorEq]
  repeat' first
    | with_reducible exact Ok_none
    | ((with_reducible refine Ok_ret ?_); first | rfl | (simp only [SSA, RS, e_spec_l11Step, Nat.reduceAdd, Nat.reduceSub, Nat.reduceMul, Nat.reduceLeDiff, Nat.reduceLT, Nat.reduceEqDiff, Nat.reduceBEq, ↓reduceIte, reduceCtorEq]; done))
    | ((with_reducible refine Ok_tail (spec_l11Step_l43_ok _ _ _) ?_); first | rfl | (simp only [SSA, RS, c_spec_l11Step, Nat.reduceAdd, Nat.reduceSub, Nat.reduceMul, Nat.reduceLeDiff, Nat.reduceLT, Nat.reduceEqDiff, Nat.reduceBEq, ↓reduceIte, reduceCtorEq]; done) | (simp only [SSA, RS, c_spec_l11Step, Nat.reduceAdd, Nat.reduceSub, Nat.reduceMul, Nat.reduceLeDiff, Nat.reduceLT, Nat.reduceEqDiff, Nat.reduceBEq, ↓reduceIte, reduceCtorEq]; rfl))

theorem spec_l11Step_ok : ∀ (a0 : GStp), Ok (spec_l11Step a0) e_spec_l11Step (dn FTA n_spec_l11Step [.agg (((GStp.row false) a0).map .t)]) := by
  intro a0
  rw [den_ev FTA (fn := k_spec_l11Step) rfl (xOf_none rfl rfl _) (Nat.le_of_ble_eq_true rfl)]
  have g0 := spec_JoinName_ok; try simp only [SSA, RS, Nat.reduceAdd, Nat.reduceSub, Nat.reduceMul, Nat.reduceLeDiff, Nat.reduceLT, Nat.reduceEqDiff, Nat.reduceBEq, ↓reduceIte, reduceCtorEq] at g0
  simp only [SSA, RS, c_spec_l11Step, k_spec_l11Step, spec_l11Step, e_spec_JoinName, Nat.reduceAdd, Nat.reduceSub, Nat.reduceMul, Nat.reduceLeDiff, Nat.reduceLT, Nat.reduceEqDiff, Nat.reduceBEq, ↓reduceIte, reduceCtorEq]
  repeat' first
    | with_reducible exact Ok_none
    | ((with_reducible refine Ok_ret ?_); first | rfl | (simp only [SSA, RS, e_spec_l11Step, Nat.reduceAdd, Nat.reduceSub, Nat.reduceMul, Nat.reduceLeDiff, Nat.reduceLT, Nat.reduceEqDiff, Nat.reduceBEq, ↓reduceIte, reduceCtorEq]; done))
    | ((with_reducible refine Ok_tail (spec_l11Step_j4_ok _ _) ?_); first | rfl | (simp only [SSA, RS, c_spec_l11Step, Nat.reduceAdd, Nat.reduceSub, Nat.reduceMul, Nat.reduceLeDiff, Nat.reduceLT, Nat.reduceEqDiff, Nat.reduceBEq, ↓reduceIte, reduceCtorEq]; done) | (simp only [SSA, RS, c_spec_l11Step, Nat.reduceAdd, Nat.reduceSub, Nat.reduceMul, Nat.reduceLeDiff, Nat.reduceLT, Nat.reduceEqDiff, Nat.reduceBEq, ↓reduceIte, reduceCtorEq]; rfl))
    | ((first | with_reducible refine Ok_if (fun h => ?_) (fun h => ?_) | with_reducible refine Ok_call (g0 _ _) fun v => ?_ | with_reducible refine Ok_prim (p := catS _ _) fun a h => ?_ | refine Ok_call (g0 _ _) fun v => ?_) <;> simp only [SSA, RS, *, e_spec_JoinName, Nat.reduceAdd, Nat.reduceSub, Nat.reduceMul, Nat.reduceLeDiff, Nat.reduceLT, Nat.reduceEqDiff, Nat.reduceBEq, ↓reduceIte, reduceCtorEq])

def e_spec_SelText (r : ByteArray) : Res := ⟨[.t (.v (.string r))], []⟩
def c_spec_SelText : Cx := ⟨1, [0], [.tmp 2]⟩
theorem spec_SelText_l22_ok' (s : GSel) : ∀ (out1 : ByteArray) (i : Int), Ok (spec_SelText_l22 out1 i s) e_spec_SelText (ev FTA c_spec_SelText (.loop k_spec_SelText_l22) [.lv 0, .th k_spec_SelText_r18] (putS (List.replicate 52 .dead) [(1, .ptr (1, 0) [] 0 0 1 0), (3, .t (.v (.string out1))), (4, .t (.v (.int .i64 i)))]) (putR (List.replicate 52 []) [(1, [.mem [[.v (.string s.Id), .sl false (s.Steps.map (GStp.row false))]] 0 false])])) := by
  unfold Ok
  refine spec_SelText_l22.partial_correctness s _ ?_
  intro F ih out1 i
  show Ok _ _ _
  have ih : ∀ (out1 : ByteArray) (i : Int), Ok (F out1 i) _ _ := ih
  rw [ev_loop]
  have g0 := spec_l11Step_ok; try simp only [SSA, RS, Nat.reduceAdd, Nat.reduceSub, Nat.reduceMul, Nat.reduceLeDiff, Nat.reduceLT, Nat.reduceEqDiff, Nat.reduceBEq, ↓reduceIte, reduceCtorEq] at g0
  simp only [SSA, RS, c_spec_SelText, k_spec_SelText_l22, k_spec_SelText_r18, e_spec_l11Step, Nat.reduceAdd, Nat.reduceSub, Nat.reduceMul, Nat.reduceLeDiff, Nat.reduceLT, Nat.reduceEqDiff, Nat.reduceBEq, ↓reduceIte, reduceCtorEq]
  repeat' first
    | with_reducible exact Ok_none
    | ((with_reducible refine Ok_ret ?_); first | rfl | (simp only [SSA, RS, e_spec_SelText, Nat.reduceAdd, Nat.reduceSub, Nat.reduceMul, Nat.reduceLeDiff, Nat.reduceLT, Nat.reduceEqDiff, Nat.reduceBEq, ↓reduceIte, reduceCtorEq]; done))
    | ((with_reducible refine Ok_tail (ih _ _) ?_); first | rfl | (simp only [SSA, RS, c_spec_SelText, Nat.reduceAdd, Nat.reduceSub, Nat.reduceMul, Nat.reduceLeDiff, Nat.reduceLT, Nat.reduceEqDiff, Nat.reduceBEq, ↓reduceIte, reduceCtorEq]; done) | (simp only [SSA, RS, c_spec_SelText, Nat.reduceAdd, Nat.reduceSub, Nat.reduceMul, Nat.reduceLeDiff, Nat.reduceLT, Nat.reduceEqDiff, Nat.reduceBEq, ↓reduceIte, reduceCtorEq]; rfl))
    | ((first | with_reducible refine Ok_if (fun h => ?_) (fun h => ?_) | with_reducible refine Ok_get fun a h => ?_ | with_reducible refine Ok_call (g0 _) fun v => ?_ | with_reducible refine Ok_prim (p := catS _ _) fun a h => ?_ | refine Ok_call (g0 _) fun v => ?_) <;> simp only [SSA, RS, *, k_spec_SelText_r18, e_spec_l11Step, Nat.reduceAdd, Nat.reduceSub, Nat.reduceMul, Nat.reduceLeDiff, Nat.reduceLT, Nat.reduceEqDiff, Nat.reduceBEq, ↓reduceIte, reduceCtorEq])
theorem spec_SelText_l22_ok (out1 : ByteArray) (i : Int) (s : GSel) : Ok (spec_SelText_l22 out1 i s) e_spec_SelText (ev FTA c_spec_SelText (.loop k_spec_SelText_l22) [.lv 0, .th k_spec_SelText_r18] (putS (List.replicate 52 .dead) [(1, .ptr (1, 0) [] 0 0 1 0), (3, .t (.v (.string out1))), (4, .t (.v (.int .i64 i)))]) (putR (List.replicate 52 []) [(1, [.mem [[.v (.string s.Id), .sl false (s.Steps.map (GStp.row false))]] 0 false])])) := spec_SelText_l22_ok' s out1 i

theorem spec_SelText_j12_ok : ∀ (out : ByteArray) (s : GSel), Ok (spec_SelText_j12 out s) e_spec_SelText (ev FTA c_spec_SelText k_spec_SelText_r12 [] (putS (List.replicate 52 .dead) [(1, .ptr (1, 0) [] 0 0 1 0), (3, .t (.v (.string out)))]) (putR (List.replicate 52 []) [(1, [.mem [[.v (.string s.Id), .sl false (s.Steps.map (GStp.row false))]] 0 false])])) := by
  intro out s
  simp only [SSA, RS, c_spec_SelText, k_spec_SelText_r12, spec_SelText_j12, Nat.reduceAdd, Nat.reduceSub, Nat.reduceMul, Nat.reduceLeDiff, Nat.reduceLT, Nat.reduceEqDiff, Nat.reduceBEq, ↓reduceIte, reduceCtorEq]
  repeat' first
    | with_reducible exact Ok_none
    | ((with_reducible refine Ok_ret ?_); first | rfl | (simp only [SSA, RS, e_spec_SelText, Nat.reduceAdd, Nat.reduceSub, Nat.reduceMul, Nat.reduceLeDiff, Nat.reduceLT, Nat.reduceEqDiff, Nat.reduceBEq, ↓reduceIte, reduceCtorEq]; done))
    | ((with_reducible refine Ok_tail (spec_SelText_l22_ok _ _ _) ?_); first | rfl | (simp only [SSA, RS, c_spec_SelText, Nat.reduceAdd, Nat.reduceSub, Nat.reduceMul, Nat.reduceLeDiff, Nat.reduceLT, Nat.reduceEqDiff, Nat.reduceBEq, ↓reduceIte, reduceCtorEq]; done) | (simp only [SSA, RS, c_spec_SelText, Nat.reduceAdd, Nat.reduceSub, Nat.reduceMul, Nat.reduceLeDiff, Nat.reduceLT, Nat.reduceEqDiff, Nat.reduceBEq, ↓reduceIte, reduceCtorEq]; rfl))

theorem spec_SelText_ok : ∀ (s : GSel), Ok (spec_SelText s) e_spec_SelText (dn FTA n_spec_SelText [.agg (((GSel.row false) s).map .t)]) := by
  intro s
  rw [den_ev FTA (fn := k_spec_SelText) rfl (xOf_none rfl rfl _) (Nat.le_of_ble_eq_true rfl)]
  have g0 := spec_SelOk_ok; try simp only [SSA, RS, Nat.reduceAdd, Nat.reduceSub, Nat.reduceMul, Nat.reduceLeDiff, Nat.reduceLT, Nat.reduceEqDiff, Nat.reduceBEq, ↓reduceIte, reduceCtorEq] at g0
  have g1 := spec_l11Quote_ok; try simp only [SSA, RS, Nat.reduceAdd, Nat.reduceSub, Nat.reduceMul, Nat.reduceLeDiff, Nat.reduceLT, Nat.reduceEqDiff, Nat.reduceBEq, ↓reduceIte, reduceCtorEq] at g1
  simp only [SSA, RS, c_spec_SelText, k_spec_SelText, spec_SelText, e_spec_SelOk, e_spec_l11Quote, Nat.reduceAdd, Nat.reduceSub, Nat.reduceMul, Nat.reduceLeDiff, Nat.reduceLT, Nat.reduceEqDiff, Nat.reduceBEq, ↓reduceIte, reduceCtorEq]
  repeat' first
    | with_reducible exact Ok_none
    | ((with_reducible refine Ok_ret ?_); first | rfl | (simp only [SSA, RS, e_spec_SelText, Nat.reduceAdd, Nat.reduceSub, Nat.reduceMul, Nat.reduceLeDiff, Nat.reduceLT, Nat.reduceEqDiff, Nat.reduceBEq, ↓reduceIte, reduceCtorEq]; done))
    | ((with_reducible refine Ok_tail (spec_SelText_j12_ok _ _) ?_); first | rfl | (simp only [SSA, RS, c_spec_SelText, Nat.reduceAdd, Nat.reduceSub, Nat.reduceMul, Nat.reduceLeDiff, Nat.reduceLT, Nat.reduceEqDiff, Nat.reduceBEq, ↓reduceIte, reduceCtorEq]; done) | (simp only [SSA, RS, c_spec_SelText, Nat.reduceAdd, Nat.reduceSub, Nat.reduceMul, Nat.reduceLeDiff, Nat.reduceLT, Nat.reduceEqDiff, Nat.reduceBEq, ↓reduceIte, reduceCtorEq]; rfl))
    | ((first | with_reducible refine Ok_if (fun h => ?_) (fun h => ?_) | with_reducible refine Ok_call (g0 _) fun v => ?_ | with_reducible refine Ok_call (g1 _) fun v => ?_ | with_reducible refine Ok_prim (p := catS _ _) fun a h => ?_ | refine Ok_call (g0 _) fun v => ?_ | refine Ok_call (g1 _) fun v => ?_) <;> simp only [SSA, RS, *, e_spec_SelOk, e_spec_l11Quote, Nat.reduceAdd, Nat.reduceSub, Nat.reduceMul, Nat.reduceLeDiff, Nat.reduceLT, Nat.reduceEqDiff, Nat.reduceBEq, ↓reduceIte, reduceCtorEq])

def e_impl_in (r : Bool) : Res := ⟨[.t (.v (.bool r))], []⟩
def c_impl_in : Cx := ⟨3, [0, 0, 0], [.tmp 6]⟩
theorem impl_in_ok : ∀ (n : Int) (lo : Int) (hi : Int), Ok (impl_in n lo hi) e_impl_in (dn FTA n_impl_in [.t (.v (.int .i64 n)), .t (.v (.int .i64 lo)), .t (.v (.int .i64 hi))]) := by
  intro n lo hi
  rw [den_ev FTA (fn := k_impl_in) rfl (xOf_none rfl rfl _) (Nat.le_of_ble_eq_true rfl)]
  simp only [SSA, RS, c_impl_in, k_impl_in, impl_in, Nat.reduceAdd, Nat.reduceSub, Nat.reduceMul, Nat.reduceLeDiff, Nat.reduceLT, Nat.reduceEqDiff, Nat.reduceBEq, ↓reduceIte, reduceCtorEq]
  repeat' first
    | with_reducible exact Ok_none
    | ((with_reducible refine Ok_ret ?_); first | rfl | (simp only [SSA, RS, e_impl_in, Nat.reduceAdd, Nat.reduceSub, Nat.reduceMul, Nat.reduceLeDiff, Nat.reduceLT, Nat.reduceEqDiff, Nat.reduceBEq, ↓reduceIte, reduceCtorEq]; done))
    | ((first | with_reducible refine Ok_if (fun h => ?_) (fun h => ?_)) <;> simp only [SSA, RS, *, Nat.reduceAdd, Nat.reduceSub, Nat.reduceMul, Nat.reduceLeDiff, Nat.reduceLT, Nat.reduceEqDiff, Nat.reduceBEq, ↓reduceIte, reduceCtorEq])

def e_unicode_utf8_DecodeRuneInString (r : Int × Int) : Res := ⟨[.t (.v (.int .i32 r.1)), .t (.v (.int .i64 r.2))], []⟩
def c_unicode_utf8_DecodeRuneInString : Cx := ⟨1, [0], [.tmp 2, .tmp 3]⟩
theorem unicode_utf8_DecodeRuneInString_ok : ∀ (s : ByteArray), Ok (unicode_utf8_DecodeRuneInString s) e_unicode_utf8_DecodeRuneInString (dn FTA n_unicode_utf8_DecodeRuneInString [.t (.v (.string s))]) := by
  intro s r hr
  exact den_ext FTA.ft (xOf FTA) (x_decode_ok s (e := e_unicode_utf8_DecodeRuneInString) (fun _ => rfl) hr)

def e_impl_SignAt (r : Int × Int × Bool) : Res := ⟨[.t (.v (.int .i64 r.1)), .t (.v (.int .i64 r.2.1)), .t (.v (.bool r.2.2))], []⟩
def c_impl_SignAt : Cx := ⟨2, [0, 0], [.tmp 4, .tmp 5, .tmp 6]⟩
theorem impl_SignAt_ok : ∀ (s : ByteArray) (at1 : Int), Ok (impl_SignAt s at1) e_impl_SignAt (dn FTA n_impl_SignAt [.t (.v (.string s)), .t (.v (.int .i64 at1))]) := by
  intro s at1
  rw [den_ev FTA (fn := k_impl_SignAt) rfl (xOf_none rfl rfl _) (Nat.le_of_ble_eq_true rfl)]
  have g0 := impl_in_ok; try simp only [SSA, RS, Nat.reduceAdd, Nat.reduceSub, Nat.reduceMul, Nat.reduceLeDiff, Nat.reduceLT, Nat.reduceEqDiff, Nat.reduceBEq, ↓reduceIte, reduceCtorEq] at g0
  have g1 := unicode_utf8_DecodeRuneInString_ok; try simp only [SSA, RS, Nat.reduceAdd, Nat.reduceSub, Nat.reduceMul, Nat.reduceLeDiff, Nat.reduceLT, Nat.reduceEqDiff, Nat.reduceBEq, ↓reduceIte, reduceCtorEq] at g1
  simp only [SSA, RS, c_impl_SignAt, k_impl_SignAt, impl_SignAt, e_impl_in, e_unicode_utf8_DecodeRuneInString, Nat.reduceAdd, Nat.reduceSub, Nat.reduceMul, Nat.reduceLeDiff, Nat.reduceLT, Nat.reduceEqDiff, Nat.reduceBEq, ↓reduceIte, reduceCtorEq]
  repeat' first
    | with_reducible exact Ok_none
    | ((with_reducible refine Ok_ret ?_); first | rfl | (simp only [SSA, RS, e_impl_SignAt, Nat.reduceAdd, Nat.reduceSub, Nat.reduceMul, Nat.reduceLeDiff, Nat.reduceLT, Nat.reduceEqDiff, Nat.reduceBEq, ↓reduceIte, reduceCtorEq]; done))
    | ((first | with_reducible refine Ok_if (fun h => ?_) (fun h => ?_) | with_reducible refine Ok_call (g0 _ _ _) fun v => ?_ | with_reducible refine Ok_call (g1 _) fun v => ?_ | with_reducible refine Ok_prim (p := subS _ _ _) fun a h => ?_ | refine Ok_call (g0 _ _ _) fun v => ?_ | refine Ok_call (g1 _) fun v => ?_) <;> simp only [SSA, RS, *, e_impl_in, e_unicode_utf8_DecodeRuneInString, Nat.reduceAdd, Nat.reduceSub, Nat.reduceMul, Nat.reduceLeDiff, Nat.reduceLT, Nat.reduceEqDiff, Nat.reduceBEq, ↓reduceIte, reduceCtorEq])

def e_impl_inAny_1 (r : Bool × Int) : Res := ⟨[.t (.v (.bool r.1))], [some [[.v (.int .i64 r.2)]]]⟩
def c_impl_inAny_1 : Cx := ⟨2, [0, 1], [.tmp 3]⟩
theorem impl_inAny_1_ok : ∀ (r : GArr2Int) (a1 : Int), Ok (impl_inAny_1 r a1) e_impl_inAny_1 (dn FTA n_impl_inAny_1 [.agg ((GArr2Int.row r).map .t), .lp [.v (.int .i64 a1)] 0]) := by
  intro r a1
  rw [den_ev FTA (fn := k_impl_inAny_1) rfl (xOf_none rfl rfl _) (Nat.le_of_ble_eq_true rfl)]
  have g0 := impl_in_ok; try simp only [SSA, RS, Nat.reduceAdd, Nat.reduceSub, Nat.reduceMul, Nat.reduceLeDiff, Nat.reduceLT, Nat.reduceEqDiff, Nat.reduceBEq, ↓reduceIte, reduceCtorEq] at g0
  simp only [SSA, RS, c_impl_inAny_1, k_impl_inAny_1, impl_inAny_1, e_impl_in, Nat.reduceAdd, Nat.reduceSub, Nat.reduceMul, Nat.reduceLeDiff, Nat.reduceLT, Nat.reduceEqDiff, Nat.reduceBEq, ↓reduceIte, reduceCtorEq]
  repeat' first
    | with_reducible exact Ok_none
    | ((with_reducible refine Ok_ret ?_); first | rfl | (simp only [SSA, RS, e_impl_inAny_1, Nat.reduceAdd, Nat.reduceSub, Nat.reduceMul, Nat.reduceLeDiff, Nat.reduceLT, Nat.reduceEqDiff, Nat.reduceBEq, ↓reduceIte, reduceCtorEq]; done))
    | ((first | with_reducible refine Ok_call (g0 _ _ _) fun v => ?_ | refine Ok_call (g0 _ _ _) fun v => ?_) <;> simp only [SSA, RS, *, e_impl_in, Nat.reduceAdd, Nat.reduceSub, Nat.reduceMul, Nat.reduceLeDiff, Nat.reduceLT, Nat.reduceEqDiff, Nat.reduceBEq, ↓reduceIte, reduceCtorEq])

def e_slices_IndexFunc_A2int_inAny_1 (r : Int × Int) : Res := ⟨[.t (.v (.int .i64 r.1))], [some [[.v (.int .i64 r.2)]]]⟩
def c_slices_IndexFunc_A2int_inAny_1 : Cx := ⟨2, [0, 1], [.tmp 4]⟩
theorem slices_IndexFunc_A2int_inAny_1_l6_ok' (s : List GArr2Int) : ∀ (x1 : Int) (f : Int), Ok (slices_IndexFunc_A2int_inAny_1_l6 s x1 f) e_slices_IndexFunc_A2int_inAny_1 (ev FTA c_slices_IndexFunc_A2int_inAny_1 (.loop k_slices_IndexFunc_A2int_l6) [.lv 0, .th k_slices_IndexFunc_A2int_r2] (putS (List.replicate 19 .dead) [(0, .t (.sl false (s.map GArr2Int.row))), (1, .fn n_impl_inAny_1 [.ptr (1, 0) [] 0 0 1 0]), (7, .t (.v (.int .i64 (lenL s)))), (8, .t (.v (.int .i64 x1)))]) (putR (List.replicate 19 []) [(1, [.mem [[.v (.int .i64 f)]] 0 true])])) := by
  unfold Ok
  refine slices_IndexFunc_A2int_inAny_1_l6.partial_correctness s _ ?_
  intro F ih x1 f
  show Ok _ _ _
  have ih : ∀ (x1 : Int) (f : Int), Ok (F x1 f) _ _ := ih
  rw [ev_loop]
  have g0 := impl_inAny_1_ok; try simp only [SSA, RS, Nat.reduceAdd, Nat.reduceSub, Nat.reduceMul, Nat.reduceLeDiff, Nat.reduceLT, Nat.reduceEqDiff, Nat.reduceBEq, ↓reduceIte, reduceCtorEq] at g0
  simp only [SSA, RS, c_slices_IndexFunc_A2int_inAny_1, k_slices_IndexFunc_A2int_l6, k_slices_IndexFunc_A2int_r2, e_impl_inAny_1, Nat.reduceAdd, Nat.reduceSub, Nat.reduceMul, Nat.reduceLeDiff, Nat.reduceLT, Nat.reduceEqDiff, Nat.reduceBEq, ↓reduceIte, reduceCtorEq]
  repeat' first
    | with_reducible exact Ok_none
    | ((with_reducible refine Ok_ret ?_); first | rfl | (simp only [SSA, RS, e_slices_IndexFunc_A2int_inAny_1, Nat.reduceAdd, Nat.reduceSub, Nat.reduceMul, Nat.reduceLeDiff, Nat.reduceLT, Nat.reduceEqDiff, Nat.reduceBEq, ↓reduceIte, reduceCtorEq]; done))
    | ((with_reducible refine Ok_tail (ih _ _) ?_); first | rfl | (simp only [SSA, RS, c_slices_IndexFunc_A2int_inAny_1, Nat.reduceAdd, Nat.reduceSub, Nat.reduceMul, Nat.reduceLeDiff, Nat.reduceLT, Nat.reduceEqDiff, Nat.reduceBEq, ↓reduceIte, reduceCtorEq]; done) | (simp only [SSA, RS, c_slices_IndexFunc_A2int_inAny_1, Nat.reduceAdd, Nat.reduceSub, Nat.reduceMul, Nat.reduceLeDiff, Nat.reduceLT, Nat.reduceEqDiff, Nat.reduceBEq, ↓reduceIte, reduceCtorEq]; rfl))
    | ((first | with_reducible refine Ok_if (fun h => ?_) (fun h => ?_) | with_reducible refine Ok_get fun a h => ?_ | with_reducible refine Ok_call (g0 _ _) fun v => ?_ | refine Ok_call (g0 _ _) fun v => ?_) <;> simp only [SSA, RS, *, k_slices_IndexFunc_A2int_r2, e_impl_inAny_1, Nat.reduceAdd, Nat.reduceSub, Nat.reduceMul, Nat.reduceLeDiff, Nat.reduceLT, Nat.reduceEqDiff, Nat.reduceBEq, ↓reduceIte, reduceCtorEq])
theorem slices_IndexFunc_A2int_inAny_1_l6_ok (s : List GArr2Int) (x1 : Int) (f : Int) : Ok (slices_IndexFunc_A2int_inAny_1_l6 s x1 f) e_slices_IndexFunc_A2int_inAny_1 (ev FTA c_slices_IndexFunc_A2int_inAny_1 (.loop k_slices_IndexFunc_A2int_l6) [.lv 0, .th k_slices_IndexFunc_A2int_r2] (putS (List.replicate 19 .dead) [(0, .t (.sl false (s.map GArr2Int.row))), (1, .fn n_impl_inAny_1 [.ptr (1, 0) [] 0 0 1 0]), (7, .t (.v (.int .i64 (lenL s)))), (8, .t (.v (.int .i64 x1)))]) (putR (List.replicate 19 []) [(1, [.mem [[.v (.int .i64 f)]] 0 true])])) := slices_IndexFunc_A2int_inAny_1_l6_ok' s x1 f

theorem slices_IndexFunc_A2int_inAny_1_ok : ∀ (s : List GArr2Int) (fc0 : Int), Ok (slices_IndexFunc_A2int_inAny_1 s fc0) e_slices_IndexFunc_A2int_inAny_1 (dn FTA n_slices_IndexFunc_A2int [.t (.sl false (s.map GArr2Int.row)), .fn n_impl_inAny_1 [.lp [.v (.int .i64 fc0)] 0]]) := by
  intro s fc0
  rw [den_ev FTA (fn := k_slices_IndexFunc_A2int) rfl (xOf_none rfl rfl _) (Nat.le_of_ble_eq_true rfl)]
  simp only [SSA, RS, c_slices_IndexFunc_A2int_inAny_1, k_slices_IndexFunc_A2int, slices_IndexFunc_A2int_inAny_1, Nat.reduceAdd, Nat.reduceSub, Nat.reduceMul, Nat.reduceLeDiff, Nat.reduceLT, Nat.reduceEqDiff, Nat.reduceBEq, ↓reduceIte, reduceCtorEq]
  repeat' first
    | with_reducible exact Ok_none
    | ((with_reducible refine Ok_ret ?_); first | rfl | (simp only [SSA, RS, e_slices_IndexFunc_A2int_inAny_1, Nat.reduceAdd, Nat.reduceSub, Nat.reduceMul, Nat.reduceLeDiff, Nat.reduceLT, Nat.reduceEqDiff, Nat.reduceBEq, ↓reduceIte, reduceCtorEq]; done))
    | ((with_reducible refine Ok_tail (slices_IndexFunc_A2int_inAny_1_l6_ok _ _ _) ?_); first | rfl | (simp only [SSA, RS, c_slices_IndexFunc_A2int_inAny_1, Nat.reduceAdd, Nat.reduceSub, Nat.reduceMul, Nat.reduceLeDiff, Nat.reduceLT, Nat.reduceEqDiff, Nat.reduceBEq, ↓reduceIte, reduceCtorEq]; done) | (simp only [SSA, RS, c_slices_IndexFunc_A2int_inAny_1, Nat.reduceAdd, Nat.reduceSub, Nat.reduceMul, Nat.reduceLeDiff, Nat.reduceLT, Nat.reduceEqDiff, Nat.reduceBEq, ↓reduceIte, reduceCtorEq]; rfl))

def e_slices_ContainsFunc_A2int_inAny_1 (r : Bool × Int) : Res := ⟨[.t (.v (.bool r.1))], [some [[.v (.int .i64 r.2)]]]⟩
def c_slices_ContainsFunc_A2int_inAny_1 : Cx := ⟨2, [0, 1], [.tmp 4]⟩
theorem slices_ContainsFunc_A2int_inAny_1_ok : ∀ (s : List GArr2Int) (fc0 : Int), Ok (slices_ContainsFunc_A2int_inAny_1 s fc0) e_slices_ContainsFunc_A2int_inAny_1 (dn FTA n_slices_ContainsFunc_A2int [.t (.sl false (s.map GArr2Int.row)), .fn n_impl_inAny_1 [.lp [.v (.int .i64 fc0)] 0]]) := by
  intro s fc0
  rw [den_ev FTA (fn := k_slices_ContainsFunc_A2int) rfl (xOf_none rfl rfl _) (Nat.le_of_ble_eq_true rfl)]
  have g0 := slices_IndexFunc_A2int_inAny_1_ok; try simp only [SSA, RS, Nat.reduceAdd, Nat.reduceSub, Nat.reduceMul, Nat.reduceLeDiff, Nat.reduceLT, Nat.reduceEqDiff, Nat.reduceBEq, ↓reduceIte, reduceCtorEq] at g0
  simp only [SSA, RS, c_slices_ContainsFunc_A2int_inAny_1, k_slices_ContainsFunc_A2int, slices_ContainsFunc_A2int_inAny_1, e_slices_IndexFunc_A2int_inAny_1, Nat.reduceAdd, Nat.reduceSub, Nat.reduceMul, Nat.reduceLeDiff, Nat.reduceLT, Nat.reduceEqDiff, Nat.reduceBEq, ↓reduceIte, reduceCtorEq]
  repeat' first
    | with_reducible exact Ok_none
    | ((with_reducible refine Ok_ret ?_); first | rfl | (simp only [SSA, RS, e_slices_ContainsFunc_A2int_inAny_1, Nat.reduceAdd, Nat.reduceSub, Nat.reduceMul, Nat.reduceLeDiff, Nat.reduceLT, Nat.reduceEqDiff, Nat.reduceBEq, ↓reduceIte, reduceCtorEq]; done))
    | ((first | with_reducible refine Ok_call (g0 _ _) fun v => ?_ | refine Ok_call (g0 _ _) fun v => ?_) <;> simp only [SSA, RS, *, e_slices_IndexFunc_A2int_inAny_1, Nat.reduceAdd, Nat.reduceSub, Nat.reduceMul, Nat.reduceLeDiff, Nat.reduceLT, Nat.reduceEqDiff, Nat.reduceBEq, ↓reduceIte, reduceCtorEq])

def e_impl_inAny (r : Bool) : Res := ⟨[.t (.v (.bool r))], []⟩
def c_impl_inAny : Cx := ⟨2, [0, 0], [.tmp 4]⟩
theorem impl_inAny_ok : ∀ (n : Int) (ranges : List GArr2Int), Ok (impl_inAny n ranges) e_impl_inAny (dn FTA n_impl_inAny [.t (.v (.int .i64 n)), .t (.sl false (ranges.map GArr2Int.row))]) := by
  intro n ranges
  rw [den_ev FTA (fn := k_impl_inAny) rfl (xOf_none rfl rfl _) (Nat.le_of_ble_eq_true rfl)]
  have g0 := slices_ContainsFunc_A2int_inAny_1_ok; try simp only [SSA, RS, Nat.reduceAdd, Nat.reduceSub, Nat.reduceMul, Nat.reduceLeDiff, Nat.reduceLT, Nat.reduceEqDiff, Nat.reduceBEq, ↓reduceIte, reduceCtorEq] at g0
  simp only [SSA, RS, c_impl_inAny, k_impl_inAny, impl_inAny, e_slices_ContainsFunc_A2int_inAny_1, Nat.reduceAdd, Nat.reduceSub, Nat.reduceMul, Nat.reduceLeDiff, Nat.reduceLT, Nat.reduceEqDiff, Nat.reduceBEq, ↓reduceIte, reduceCtorEq]
  repeat' first
    | with_reducible exact Ok_none
    | ((with_reducible refine Ok_ret ?_); first | rfl | (simp only [SSA, RS, e_impl_inAny, Nat.reduceAdd, Nat.reduceSub, Nat.reduceMul, Nat.reduceLeDiff, Nat.reduceLT, Nat.reduceEqDiff, Nat.reduceBEq, ↓reduceIte, reduceCtorEq]; done))
    | ((first | with_reducible refine Ok_call (g0 _ _) fun v => ?_ | refine Ok_call (g0 _ _) fun v => ?_) <;> simp only [SSA, RS, *, e_slices_ContainsFunc_A2int_inAny_1, Nat.reduceAdd, Nat.reduceSub, Nat.reduceMul, Nat.reduceLeDiff, Nat.reduceLT, Nat.reduceEqDiff, Nat.reduceBEq, ↓reduceIte, reduceCtorEq])

def e_impl_IsStart (r : Bool) : Res := ⟨[.t (.v (.bool r))], []⟩
def c_impl_IsStart : Cx := ⟨1, [0], [.tmp 2]⟩
theorem impl_IsStart_ok : ∀ (n : Int), Ok (impl_IsStart n) e_impl_IsStart (dn FTA n_impl_IsStart [.t (.v (.int .i64 n))]) := by
  intro n
  rw [den_ev FTA (fn := k_impl_IsStart) rfl (xOf_none rfl rfl _) (Nat.le_of_ble_eq_true rfl)]
  have g0 := impl_inAny_ok; try simp only [SSA, RS, Nat.reduceAdd, Nat.reduceSub, Nat.reduceMul, Nat.reduceLeDiff, Nat.reduceLT, Nat.reduceEqDiff, Nat.reduceBEq, ↓reduceIte, reduceCtorEq] at g0
  simp only [SSA, RS, c_impl_IsStart, k_impl_IsStart, impl_IsStart, e_impl_inAny, Nat.reduceAdd, Nat.reduceSub, Nat.reduceMul, Nat.reduceLeDiff, Nat.reduceLT, Nat.reduceEqDiff, Nat.reduceBEq, ↓reduceIte, reduceCtorEq]
  repeat' first
    | with_reducible exact Ok_none
    | ((with_reducible refine Ok_ret ?_); first | rfl | (simp only [SSA, RS, e_impl_IsStart, Nat.reduceAdd, Nat.reduceSub, Nat.reduceMul, Nat.reduceLeDiff, Nat.reduceLT, Nat.reduceEqDiff, Nat.reduceBEq, ↓reduceIte, reduceCtorEq]; done))
    | ((first | with_reducible refine Ok_call (g0 _ _) fun v => ?_ | refine Ok_call (g0 _ _) fun v => ?_) <;> simp only [SSA, RS, *, e_impl_inAny, Nat.reduceAdd, Nat.reduceSub, Nat.reduceMul, Nat.reduceLeDiff, Nat.reduceLT, Nat.reduceEqDiff, Nat.reduceBEq, ↓reduceIte, reduceCtorEq])

def e_impl_IsPart (r : Bool) : Res := ⟨[.t (.v (.bool r))], []⟩
def c_impl_IsPart : Cx := ⟨1, [0], [.tmp 2]⟩
theorem impl_IsPart_ok : ∀ (n : Int), Ok (impl_IsPart n) e_impl_IsPart (dn FTA n_impl_IsPart [.t (.v (.int .i64 n))]) := by
  intro n
  rw [den_ev FTA (fn := k_impl_IsPart) rfl (xOf_none rfl rfl _) (Nat.le_of_ble_eq_true rfl)]
  have g0 := impl_IsStart_ok; try simp only [SSA, RS, Nat.reduceAdd, Nat.reduceSub, Nat.reduceMul, Nat.reduceLeDiff, Nat.reduceLT, Nat.reduceEqDiff, Nat.reduceBEq, ↓reduceIte, reduceCtorEq] at g0
  have g1 := impl_inAny_ok; try simp only [SSA, RS, Nat.reduceAdd, Nat.reduceSub, Nat.reduceMul, Nat.reduceLeDiff, Nat.reduceLT, Nat.reduceEqDiff, Nat.reduceBEq, ↓reduceIte, reduceCtorEq] at g1
  simp only [SSA, RS, c_impl_IsPart, k_impl_IsPart, impl_IsPart, e_impl_IsStart, e_impl_inAny, Nat.reduceAdd, Nat.reduceSub, Nat.reduceMul, Nat.reduceLeDiff, Nat.reduceLT, Nat.reduceEqDiff, Nat.reduceBEq, ↓reduceIte, reduceCtorEq]
  repeat' first
    | with_reducible exact Ok_none
    | ((with_reducible refine Ok_ret ?_); first | rfl | (simp only [SSA, RS, e_impl_IsPart, Nat.reduceAdd, Nat.reduceSub, Nat.reduceMul, Nat.reduceLeDiff, Nat.reduceLT, Nat.reduceEqDiff, Nat.reduceBEq, ↓reduceIte, reduceCtorEq]; done))
    | ((first | with_reducible refine Ok_if (fun h => ?_) (fun h => ?_) | with_reducible refine Ok_call (g0 _) fun v => ?_ | with_reducible refine Ok_call (g1 _ _) fun v => ?_ | refine Ok_call (g0 _) fun v => ?_ | refine Ok_call (g1 _ _) fun v => ?_) <;> simp only [SSA, RS, *, e_impl_IsStart, e_impl_inAny, Nat.reduceAdd, Nat.reduceSub, Nat.reduceMul, Nat.reduceLeDiff, Nat.reduceLT, Nat.reduceEqDiff, Nat.reduceBEq, ↓reduceIte, reduceCtorEq])

def e_impl_PlainOk (r : Bool) : Res := ⟨[.t (.v (.bool r))], []⟩
def c_impl_PlainOk : Cx := ⟨1, [0], [.tmp 2]⟩
theorem impl_PlainOk_l6_ok' (s : ByteArray) : ∀ (at1 : Int), Ok (impl_PlainOk_l6 s at1) e_impl_PlainOk (ev FTA c_impl_PlainOk (.loop k_impl_PlainOk_l6) [.lv 0, .th k_impl_PlainOk_r2] (putS (List.replicate 38 .dead) [(0, .t (.v (.string s))), (3, .t (.v (.int .i64 at1)))]) (putR (List.replicate 38 []) [])) := by
  unfold Ok
  refine impl_PlainOk_l6.partial_correctness s _ ?_
  intro F ih at1
  show Ok _ _ _
  have ih : ∀ (at1 : Int), Ok (F at1) _ _ := ih
  rw [ev_loop]
  have g0 := impl_SignAt_ok; try simp only [SSA, RS, Nat.reduceAdd, Nat.reduceSub, Nat.reduceMul, Nat.reduceLeDiff, Nat.reduceLT, Nat.reduceEqDiff, Nat.reduceBEq, ↓reduceIte, reduceCtorEq] at g0
  have g1 := impl_IsStart_ok; try simp only [SSA, RS, Nat.reduceAdd, Nat.reduceSub, Nat.reduceMul, Nat.reduceLeDiff, Nat.reduceLT, Nat.reduceEqDiff, Nat.reduceBEq, ↓reduceIte, reduceCtorEq] at g1
  have g2 := impl_IsPart_ok; try simp only [SSA, RS, Nat.reduceAdd, Nat.reduceSub, Nat.reduceMul, Nat.reduceLeDiff, Nat.reduceLT, Nat.reduceEqDiff, Nat.reduceBEq, ↓reduceIte, reduceCtorEq] at g2
  have g3 := impl_in_ok; try simp only [SSA, RS, Nat.reduceAdd, Nat.reduceSub, Nat.reduceMul, Nat.reduceLeDiff, Nat.reduceLT, Nat.reduceEqDiff, Nat.reduceBEq, ↓reduceIte, reduceCtorEq] at g3
  simp only [SSA, RS, c_impl_PlainOk, k_impl_PlainOk_l6, k_impl_PlainOk_r2, e_impl_IsPart, e_impl_IsStart, e_impl_SignAt, e_impl_in, Nat.reduceAdd, Nat.reduceSub, Nat.reduceMul, Nat.reduceLeDiff, Nat.reduceLT, Nat.reduceEqDiff, Nat.reduceBEq, ↓reduceIte, reduceCtorEq]
  repeat' first
    | with_reducible exact Ok_none
    | ((with_reducible refine Ok_ret ?_); first | rfl | (simp only [SSA, RS, e_impl_PlainOk, Nat.reduceAdd, Nat.reduceSub, Nat.reduceMul, Nat.reduceLeDiff, Nat.reduceLT, Nat.reduceEqDiff, Nat.reduceBEq, ↓reduceIte, reduceCtorEq]; done))
    | ((with_reducible refine Ok_tail (ih _) ?_); first | rfl | (simp only [SSA, RS, c_impl_PlainOk, Nat.reduceAdd, Nat.reduceSub, Nat.reduceMul, Nat.reduceLeDiff, Nat.reduceLT, Nat.reduceEqDiff, Nat.reduceBEq, ↓reduceIte, reduceCtorEq]; done) | (simp only [SSA, RS, c_impl_PlainOk, Nat.reduceAdd, Nat.reduceSub, Nat.reduceMul, Nat.reduceLeDiff, Nat.reduceLT, Nat.reduceEqDiff, Nat.reduceBEq, ↓reduceIte, reduceCtorEq]; rfl))
    | ((first | with_reducible refine Ok_if (fun h => ?_) (fun h => ?_) | with_reducible refine Ok_call (g0 _ _) fun v => ?_ | with_reducible refine Ok_call (g1 _) fun v => ?_ | with_reducible refine Ok_call (g2 _) fun v => ?_ | with_reducible refine Ok_call (g3 _ _ _) fun v => ?_ | refine Ok_call (g0 _ _) fun v => ?_ | refine Ok_call (g1 _) fun v => ?_ | refine Ok_call (g2 _) fun v => ?_ | refine Ok_call (g3 _ _ _) fun v => ?_) <;> simp only [SSA, RS, *, k_impl_PlainOk_r2, e_impl_IsPart, e_impl_IsStart, e_impl_SignAt, e_impl_in, Nat.reduceAdd, Nat.reduceSub, Nat.reduceMul, Nat.reduceLeDiff, Nat.reduceLT, Nat.reduceEqDiff, Nat.reduceBEq, ↓reduceIte, reduceCtorEq])
theorem impl_PlainOk_l6_ok (s : ByteArray) (at1 : Int) : Ok (impl_PlainOk_l6 s at1) e_impl_PlainOk (ev FTA c_impl_PlainOk (.loop k_impl_PlainOk_l6) [.lv 0, .th k_impl_PlainOk_r2] (putS (List.replicate 38 .dead) [(0, .t (.v (.string s))), (3, .t (.v (.int .i64 at1)))]) (putR (List.replicate 38 []) [])) := impl_PlainOk_l6_ok' s at1

theorem impl_PlainOk_ok : ∀ (s : ByteArray), Ok (impl_PlainOk s) e_impl_PlainOk (dn FTA n_impl_PlainOk [.t (.v (.string s))]) := by
  intro s
  rw [den_ev FTA (fn := k_impl_PlainOk) rfl (xOf_none rfl rfl _) (Nat.le_of_ble_eq_true rfl)]
  simp only [SSA, RS, c_impl_PlainOk, k_impl_PlainOk, impl_PlainOk, Nat.reduceAdd, Nat.reduceSub, Nat.reduceMul, Nat.reduceLeDiff, Nat.reduceLT, Nat.reduceEqDiff, Nat.reduceBEq, ↓reduceIte, reduceCtorEq]
  repeat' first
    | with_reducible exact Ok_none
    | ((with_reducible refine Ok_ret ?_); first | rfl | (simp only [SSA, RS, e_impl_PlainOk, Nat.reduceAdd, Nat.reduceSub, Nat.reduceMul, Nat.reduceLeDiff, Nat.reduceLT, Nat.reduceEqDiff, Nat.reduceBEq, ↓reduceIte, reduceCtorEq]; done))
    | ((with_reducible refine Ok_tail (impl_PlainOk_l6_ok _ _) ?_); first | rfl | (simp only [SSA, RS, c_impl_PlainOk, Nat.reduceAdd, Nat.reduceSub, Nat.reduceMul, Nat.reduceLeDiff, Nat.reduceLT, Nat.reduceEqDiff, Nat.reduceBEq, ↓reduceIte, reduceCtorEq]; done) | (simp only [SSA, RS, c_impl_PlainOk, Nat.reduceAdd, Nat.reduceSub, Nat.reduceMul, Nat.reduceLeDiff, Nat.reduceLT, Nat.reduceEqDiff, Nat.reduceBEq, ↓reduceIte, reduceCtorEq]; rfl))

def e_impl_nameOk (r : Bool) : Res := ⟨[.t (.v (.bool r))], []⟩
def c_impl_nameOk : Cx := ⟨2, [0, 0], [.tmp 4]⟩
theorem impl_nameOk_ok : ∀ (pre : ByteArray) (local1 : ByteArray), Ok (impl_nameOk pre local1) e_impl_nameOk (dn FTA n_impl_nameOk [.t (.v (.string pre)), .t (.v (.string local1))]) := by
  intro pre local1
  rw [den_ev FTA (fn := k_impl_nameOk) rfl (xOf_none rfl rfl _) (Nat.le_of_ble_eq_true rfl)]
  have g0 := impl_PlainOk_ok; try simp only [SSA, RS, Nat.reduceAdd, Nat.reduceSub, Nat.reduceMul, Nat.reduceLeDiff, Nat.reduceLT, Nat.reduceEqDiff, Nat.reduceBEq, ↓reduceIte, reduceCtorEq] at g0
  simp only [SSA, RS, c_impl_nameOk, k_impl_nameOk, impl_nameOk, e_impl_PlainOk, Nat.reduceAdd, Nat.reduceSub, Nat.reduceMul, Nat.reduceLeDiff, Nat.reduceLT, Nat.reduceEqDiff, Nat.reduceBEq, ↓reduceIte, reduceCtorEq]
  repeat' first
    | with_reducible exact Ok_none
    | ((with_reducible refine Ok_ret ?_); first | rfl | (simp only [SSA, RS, e_impl_nameOk, Nat.reduceAdd, Nat.reduceSub, Nat.reduceMul, Nat.reduceLeDiff, Nat.reduceLT, Nat.reduceEqDiff, Nat.reduceBEq, ↓reduceIte, reduceCtorEq]; done))
    | ((first | with_reducible refine Ok_if (fun h => ?_) (fun h => ?_) | with_reducible refine Ok_call (g0 _) fun v => ?_ | refine Ok_call (g0 _) fun v => ?_) <;> simp only [SSA, RS, *, e_impl_PlainOk, Nat.reduceAdd, Nat.reduceSub, Nat.reduceMul, Nat.reduceLeDiff, Nat.reduceLT, Nat.reduceEqDiff, Nat.reduceBEq, ↓reduceIte, reduceCtorEq])

def e_impl_IsSign (r : Bool) : Res := ⟨[.t (.v (.bool r))], []⟩
def c_impl_IsSign : Cx := ⟨1, [0], [.tmp 2]⟩
theorem impl_IsSign_ok : ∀ (n : Int), Ok (impl_IsSign n) e_impl_IsSign (dn FTA n_impl_IsSign [.t (.v (.int .i64 n))]) := by
  intro n
  rw [den_ev FTA (fn := k_impl_IsSign) rfl (xOf_none rfl rfl _) (Nat.le_of_ble_eq_true rfl)]
  have g0 := impl_inAny_ok; try simp only [SSA, RS, Nat.reduceAdd, Nat.reduceSub, Nat.reduceMul, Nat.reduceLeDiff, Nat.reduceLT, Nat.reduceEqDiff, Nat.reduceBEq, ↓reduceIte, reduceCtorEq] at g0
  simp only [SSA, RS, c_impl_IsSign, k_impl_IsSign, impl_IsSign, e_impl_inAny, Nat.reduceAdd, Nat.reduceSub, Nat.reduceMul, Nat.reduceLeDiff, Nat.reduceLT, Nat.reduceEqDiff, Nat.reduceBEq, ↓reduceIte, reduceCtorEq]
  repeat' first
    | with_reducible exact Ok_none
    | ((with_reducible refine Ok_ret ?_); first | rfl | (simp only [SSA, RS, e_impl_IsSign, Nat.reduceAdd, Nat.reduceSub, Nat.reduceMul, Nat.reduceLeDiff, Nat.reduceLT, Nat.reduceEqDiff, Nat.reduceBEq, ↓reduceIte, reduceCtorEq]; done))
    | ((first | with_reducible refine Ok_call (g0 _ _) fun v => ?_ | refine Ok_call (g0 _ _) fun v => ?_) <;> simp only [SSA, RS, *, e_impl_inAny, Nat.reduceAdd, Nat.reduceSub, Nat.reduceMul, Nat.reduceLeDiff, Nat.reduceLT, Nat.reduceEqDiff, Nat.reduceBEq, ↓reduceIte, reduceCtorEq])

def e_impl_signsOk (r : Bool) : Res := ⟨[.t (.v (.bool r))], []⟩
def c_impl_signsOk : Cx := ⟨1, [0], [.tmp 2]⟩
theorem impl_signsOk_l6_ok' (s : ByteArray) : ∀ (at1 : Int), Ok (impl_signsOk_l6 s at1) e_impl_signsOk (ev FTA c_impl_signsOk (.loop k_impl_signsOk_l6) [.lv 0, .th k_impl_signsOk_r2] (putS (List.replicate 26 .dead) [(0, .t (.v (.string s))), (3, .t (.v (.int .i64 at1)))]) (putR (List.replicate 26 []) [])) := by
  unfold Ok
  refine impl_signsOk_l6.partial_correctness s _ ?_
  intro F ih at1
  show Ok _ _ _
  have ih : ∀ (at1 : Int), Ok (F at1) _ _ := ih
  rw [ev_loop]
  have g0 := impl_SignAt_ok; try simp only [SSA, RS, Nat.reduceAdd, Nat.reduceSub, Nat.reduceMul, Nat.reduceLeDiff, Nat.reduceLT, Nat.reduceEqDiff, Nat.reduceBEq, ↓reduceIte, reduceCtorEq] at g0
  have g1 := impl_IsSign_ok; try simp only [SSA, RS, Nat.reduceAdd, Nat.reduceSub, Nat.reduceMul, Nat.reduceLeDiff, Nat.reduceLT, Nat.reduceEqDiff, Nat.reduceBEq, ↓reduceIte, reduceCtorEq] at g1
  simp only [SSA, RS, c_impl_signsOk, k_impl_signsOk_l6, k_impl_signsOk_r2, e_impl_IsSign, e_impl_SignAt, Nat.reduceAdd, Nat.reduceSub, Nat.reduceMul, Nat.reduceLeDiff, Nat.reduceLT, Nat.reduceEqDiff, Nat.reduceBEq, ↓reduceIte, reduceCtorEq]
  repeat' first
    | with_reducible exact Ok_none
    | ((with_reducible refine Ok_ret ?_); first | rfl | (simp only [SSA, RS, e_impl_signsOk, Nat.reduceAdd, Nat.reduceSub, Nat.reduceMul, Nat.reduceLeDiff, Nat.reduceLT, Nat.reduceEqDiff, Nat.reduceBEq, ↓reduceIte, reduceCtorEq]; done))
    | ((with_reducible refine Ok_tail (ih _) ?_); first | rfl | (simp only [SSA, RS, c_impl_signsOk, Nat.reduceAdd, Nat.reduceSub, Nat.reduceMul, Nat.reduceLeDiff, Nat.reduceLT, Nat.reduceEqDiff, Nat.reduceBEq, ↓reduceIte, reduceCtorEq]; done) | (simp only [SSA, RS, c_impl_signsOk, Nat.reduceAdd, Nat.reduceSub, Nat.reduceMul, Nat.reduceLeDiff, Nat.reduceLT, Nat.reduceEqDiff, Nat.reduceBEq, ↓reduceIte, reduceCtorEq]; rfl))
    | ((first | with_reducible refine Ok_if (fun h => ?_) (fun h => ?_) | with_reducible refine Ok_call (g0 _ _) fun v => ?_ | with_reducible refine Ok_call (g1 _) fun v => ?_ | refine Ok_call (g0 _ _) fun v => ?_ | refine Ok_call (g1 _) fun v => ?_) <;> simp only [SSA, RS, *, k_impl_signsOk_r2, e_impl_IsSign, e_impl_SignAt, Nat.reduceAdd, Nat.reduceSub, Nat.reduceMul, Nat.reduceLeDiff, Nat.reduceLT, Nat.reduceEqDiff, Nat.reduceBEq, ↓reduceIte, reduceCtorEq])
theorem impl_signsOk_l6_ok (s : ByteArray) (at1 : Int) : Ok (impl_signsOk_l6 s at1) e_impl_signsOk (ev FTA c_impl_signsOk (.loop k_impl_signsOk_l6) [.lv 0, .th k_impl_signsOk_r2] (putS (List.replicate 26 .dead) [(0, .t (.v (.string s))), (3, .t (.v (.int .i64 at1)))]) (putR (List.replicate 26 []) [])) := impl_signsOk_l6_ok' s at1

theorem impl_signsOk_ok : ∀ (s : ByteArray), Ok (impl_signsOk s) e_impl_signsOk (dn FTA n_impl_signsOk [.t (.v (.string s))]) := by
  intro s
  rw [den_ev FTA (fn := k_impl_signsOk) rfl (xOf_none rfl rfl _) (Nat.le_of_ble_eq_true rfl)]
  simp only [SSA, RS, c_impl_signsOk, k_impl_signsOk, impl_signsOk, Nat.reduceAdd, Nat.reduceSub, Nat.reduceMul, Nat.reduceLeDiff, Nat.reduceLT, Nat.reduceEqDiff, Nat.reduceBEq, ↓reduceIte, reduceCtorEq]
  repeat' first
    | with_reducible exact Ok_none
    | ((with_reducible refine Ok_ret ?_); first | rfl | (simp only [SSA, RS, e_impl_signsOk, Nat.reduceAdd, Nat.reduceSub, Nat.reduceMul, Nat.reduceLeDiff, Nat.reduceLT, Nat.reduceEqDiff, Nat.reduceBEq, ↓reduceIte, reduceCtorEq]; done))
    | ((with_reducible refine Ok_tail (impl_signsOk_l6_ok _ _) ?_); first | rfl | (simp only [SSA, RS, c_impl_signsOk, Nat.reduceAdd, Nat.reduceSub, Nat.reduceMul, Nat.reduceLeDiff, Nat.reduceLT, Nat.reduceEqDiff, Nat.reduceBEq, ↓reduceIte, reduceCtorEq]; done) | (simp only [SSA, RS, c_impl_signsOk, Nat.reduceAdd, Nat.reduceSub, Nat.reduceMul, Nat.reduceLeDiff, Nat.reduceLT, Nat.reduceEqDiff, Nat.reduceBEq, ↓reduceIte, reduceCtorEq]; rfl))

def e_impl_TextOk (r : Bool) : Res := ⟨[.t (.v (.bool r))], []⟩
def c_impl_TextOk : Cx := ⟨1, [0], [.tmp 2]⟩
theorem impl_TextOk_ok : ∀ (s : ByteArray), Ok (impl_TextOk s) e_impl_TextOk (dn FTA n_impl_TextOk [.t (.v (.string s))]) := by
  intro s
  rw [den_ev FTA (fn := k_impl_TextOk) rfl (xOf_none rfl rfl _) (Nat.le_of_ble_eq_true rfl)]
  have g0 := impl_signsOk_ok; try simp only [SSA, RS, Nat.reduceAdd, Nat.reduceSub, Nat.reduceMul, Nat.reduceLeDiff, Nat.reduceLT, Nat.reduceEqDiff, Nat.reduceBEq, ↓reduceIte, reduceCtorEq] at g0
  simp only [SSA, RS, c_impl_TextOk, k_impl_TextOk, impl_TextOk, e_impl_signsOk, Nat.reduceAdd, Nat.reduceSub, Nat.reduceMul, Nat.reduceLeDiff, Nat.reduceLT, Nat.reduceEqDiff, Nat.reduceBEq, ↓reduceIte, reduceCtorEq]
  repeat' first
    | with_reducible exact Ok_none
    | ((with_reducible refine Ok_ret ?_); first | rfl | (simp only [SSA, RS, e_impl_TextOk, Nat.reduceAdd, Nat.reduceSub, Nat.reduceMul, Nat.reduceLeDiff, Nat.reduceLT, Nat.reduceEqDiff, Nat.reduceBEq, ↓reduceIte, reduceCtorEq]; done))
    | ((first | with_reducible refine Ok_if (fun h => ?_) (fun h => ?_) | with_reducible refine Ok_call (g0 _) fun v => ?_ | refine Ok_call (g0 _) fun v => ?_) <;> simp only [SSA, RS, *, e_impl_signsOk, Nat.reduceAdd, Nat.reduceSub, Nat.reduceMul, Nat.reduceLeDiff, Nat.reduceLT, Nat.reduceEqDiff, Nat.reduceBEq, ↓reduceIte, reduceCtorEq])

def e_strings_Contains (r : Bool) : Res := ⟨[.t (.v (.bool r))], []⟩
def c_strings_Contains : Cx := ⟨2, [0, 0], [.tmp 4]⟩
theorem strings_Contains_ok : ∀ (s : ByteArray) (t : ByteArray), Ok (strings_Contains s t) e_strings_Contains (dn FTA n_strings_Contains [.t (.v (.string s)), .t (.v (.string t))]) := by
  intro s t r hr
  exact den_ext FTA.ft (xOf FTA) (x_contains1_ok s t (e := e_strings_Contains) (fun _ => rfl) hr)

def e_impl_valOk (r : Bool) : Res := ⟨[.t (.v (.bool r))], []⟩
def c_impl_valOk : Cx := ⟨1, [0], [.tmp 2]⟩
theorem impl_valOk_ok : ∀ (s : ByteArray), Ok (impl_valOk s) e_impl_valOk (dn FTA n_impl_valOk [.t (.v (.string s))]) := by
  intro s
  rw [den_ev FTA (fn := k_impl_valOk) rfl (xOf_none rfl rfl _) (Nat.le_of_ble_eq_true rfl)]
  have g0 := impl_TextOk_ok; try simp only [SSA, RS, Nat.reduceAdd, Nat.reduceSub, Nat.reduceMul, Nat.reduceLeDiff, Nat.reduceLT, Nat.reduceEqDiff, Nat.reduceBEq, ↓reduceIte, reduceCtorEq] at g0
  have g1 := strings_Contains_ok; try simp only [SSA, RS, Nat.reduceAdd, Nat.reduceSub, Nat.reduceMul, Nat.reduceLeDiff, Nat.reduceLT, Nat.reduceEqDiff, Nat.reduceBEq, ↓reduceIte, reduceCtorEq] at g1
  simp only [SSA, RS, c_impl_valOk, k_impl_valOk, impl_valOk, e_impl_TextOk, e_strings_Contains, Nat.reduceAdd, Nat.reduceSub, Nat.reduceMul, Nat.reduceLeDiff, Nat.reduceLT, Nat.reduceEqDiff, Nat.reduceBEq, ↓reduceIte, reduceCtorEq]
  repeat' first
    | with_reducible exact Ok_none
    | ((with_reducible refine Ok_ret ?_); first | rfl | (simp only [SSA, RS, e_impl_valOk, Nat.reduceAdd, Nat.reduceSub, Nat.reduceMul, Nat.reduceLeDiff, Nat.reduceLT, Nat.reduceEqDiff, Nat.reduceBEq, ↓reduceIte, reduceCtorEq]; done))
    | ((first | with_reducible refine Ok_if (fun h => ?_) (fun h => ?_) | with_reducible refine Ok_call (g0 _) fun v => ?_ | with_reducible refine Ok_call (g1 _ _) fun v => ?_ | refine Ok_call (g0 _) fun v => ?_ | refine Ok_call (g1 _ _) fun v => ?_) <;> simp only [SSA, RS, *, e_impl_TextOk, e_strings_Contains, Nat.reduceAdd, Nat.reduceSub, Nat.reduceMul, Nat.reduceLeDiff, Nat.reduceLT, Nat.reduceEqDiff, Nat.reduceBEq, ↓reduceIte, reduceCtorEq])

def e_impl_predOk (r : Bool) : Res := ⟨[.t (.v (.bool r))], []⟩
def c_impl_predOk : Cx := ⟨2, [0, 0], [.tmp 4]⟩
theorem impl_predOk_j16_ok : ∀ (named : Bool) (element : Bool) (p : GPred) (x : Bool), Ok (impl_predOk_j16 named element p x) e_impl_predOk (ev FTA c_impl_predOk k_impl_predOk_r16 [.lv 0, .th k_impl_predOk_r6] (putS (List.replicate 75 .dead) [(2, .ptr (2, 0) [] 0 0 1 0), (5, .t (.v (.bool named))), (6, .t (.v (.bool element))), (22, .t (.v (.int .i64 p.Kind))), (37, .t (.v (.bool x)))]) (putR (List.replicate 75 []) [(2, [.mem [[.v (.int .i64 p.Kind), .v (.int .i64 p.N), .v (.string p.Pre), .v (.string p.Local), .v (.string p.Val)]] 0 false])])) := by
  intro named element p x
  have g0 := impl_nameOk_ok; try simp only [SSA, RS, Nat.reduceAdd, Nat.reduceSub, Nat.reduceMul, Nat.reduceLeDiff, Nat.reduceLT, Nat.reduceEqDiff, Nat.reduceBEq, ↓reduceIte, reduceCtorEq] at g0
  have g1 := impl_valOk_ok; try simp only [SSA, RS, Nat.reduceAdd, Nat.reduceSub, Nat.reduceMul, Nat.reduceLeDiff, Nat.reduceLT, Nat.reduceEqDiff, Nat.reduceBEq, ↓reduceIte, reduceCtorEq] at g1
  simp only [SSA, RS, c_impl_predOk, k_impl_predOk_r16, k_impl_predOk_r6, impl_predOk_j16, e_impl_nameOk, e_impl_valOk, Nat.reduceAdd, Nat.reduceSub, Nat.reduceMul, Nat.reduceLeDiff, Nat.reduceLT, Nat.reduceEqDiff, Nat.reduceBEq, ↓reduceIte, reduceCtorEq]
  repeat' first
    | with_reducible exact Ok_none
    | ((with_reducible refine Ok_ret ?_); first | rfl | (simp only [SSA, RS, e_impl_predOk, Nat.reduceAdd, Nat.reduceSub, Nat.reduceMul, Nat.reduceLeDiff, Nat.reduceLT, Nat.reduceEqDiff, Nat.reduceBEq, ↓reduceIte, reduceCtorEq]; done))
    | ((first | with_reducible refine Ok_if (fun h => ?_) (fun h => ?_) | with_reducible refine Ok_call (g0 _ _) fun v => ?_ | with_reducible refine Ok_call (g1 _) fun v => ?_ | refine Ok_call (g0 _ _) fun v => ?_ | refine Ok_call (g1 _) fun v => ?_) <;> simp only [SSA, RS, *, k_impl_predOk_r6, e_impl_nameOk, e_impl_valOk, Nat.reduceAdd, Nat.reduceSub, Nat.reduceMul, Nat.reduceLeDiff, Nat.reduceLT, Nat.reduceEqDiff, Nat.reduceBEq, ↓reduceIte, reduceCtorEq])

theorem impl_predOk_j4_ok : ∀ (named : Bool) (element : Bool) (p : GPred), Ok (impl_predOk_j4 named element p) e_impl_predOk (ev FTA c_impl_predOk k_impl_predOk_r4 [] (putS (List.replicate 75 .dead) [(2, .ptr (2, 0) [] 0 0 1 0), (5, .t (.v (.bool named))), (6, .t (.v (.bool element)))]) (putR (List.replicate 75 []) [(2, [.mem [[.v (.int .i64 p.Kind), .v (.int .i64 p.N), .v (.string p.Pre), .v (.string p.Local), .v (.string p.Val)]] 0 false])])) := by
  intro named element p
  have g0 := impl_in_ok; try simp only [SSA, RS, Nat.reduceAdd, Nat.reduceSub, Nat.reduceMul, Nat.reduceLeDiff, Nat.reduceLT, Nat.reduceEqDiff, Nat.reduceBEq, ↓reduceIte, reduceCtorEq] at g0
  simp only [SSA, RS, c_impl_predOk, k_impl_predOk_r4, impl_predOk_j4, e_impl_in, Nat.reduceAdd, Nat.reduceSub, Nat.reduceMul, Nat.reduceLeDiff, Nat.reduceLT, Nat.reduceEqDiff, Nat.reduceBEq, ↓reduceIte, reduceCtorEq]
  repeat' first
    | with_reducible exact Ok_none
    | ((with_reducible refine Ok_ret ?_); first | rfl | (simp only [SSA, RS, e_impl_predOk, Nat.reduceAdd, Nat.reduceSub, Nat.reduceMul, Nat.reduceLeDiff, Nat.reduceLT, Nat.reduceEqDiff, Nat.reduceBEq, ↓reduceIte, reduceCtorEq]; done))
    | ((with_reducible refine Ok_tail (impl_predOk_j16_ok _ _ _ _) ?_); first | rfl | (simp only [SSA, RS, c_impl_predOk, Nat.reduceAdd, Nat.reduceSub, Nat.reduceMul, Nat.reduceLeDiff, Nat.reduceLT, Nat.reduceEqDiff, Nat.reduceBEq, ↓reduceIte, reduceCtorEq]; done) | (simp only [SSA, RS, c_impl_predOk, Nat.reduceAdd, Nat.reduceSub, Nat.reduceMul, Nat.reduceLeDiff, Nat.reduceLT, Nat.reduceEqDiff, Nat.reduceBEq, ↓reduceIte, reduceCtorEq]; rfl))
    | ((first | with_reducible refine Ok_if (fun h => ?_) (fun h => ?_) | with_reducible refine Ok_call (g0 _ _ _) fun v => ?_ | refine Ok_call (g0 _ _ _) fun v => ?_) <;> simp only [SSA, RS, *, e_impl_in, Nat.reduceAdd, Nat.reduceSub, Nat.reduceMul, Nat.reduceLeDiff, Nat.reduceLT, Nat.reduceEqDiff, Nat.reduceBEq, ↓reduceIte, reduceCtorEq])

theorem impl_predOk_j2_ok : ∀ (kind : Int) (named : Bool) (p : GPred), Ok (impl_predOk_j2 kind named p) e_impl_predOk (ev FTA c_impl_predOk k_impl_predOk_r2 [] (putS (List.replicate 75 .dead) [(1, .t (.v (.int .i64 kind))), (2, .ptr (2, 0) [] 0 0 1 0), (5, .t (.v (.bool named)))]) (putR (List.replicate 75 []) [(2, [.mem [[.v (.int .i64 p.Kind), .v (.int .i64 p.N), .v (.string p.Pre), .v (.string p.Local), .v (.string p.Val)]] 0 false])])) := by
  intro kind named p
  simp only [SSA, RS, c_impl_predOk, k_impl_predOk_r2, impl_predOk_j2, Nat.reduceAdd, Nat.reduceSub, Nat.reduceMul, Nat.reduceLeDiff, Nat.reduceLT, Nat.reduceEqDiff, Nat.reduceBEq, ↓reduceIte, reduceCtorEq]
  repeat' first
    | with_reducible exact Ok_none
    | ((with_reducible refine Ok_ret ?_); first | rfl | (simp only [SSA, RS, e_impl_predOk, Nat.reduceAdd, Nat.reduceSub, Nat.reduceMul, Nat.reduceLeDiff, Nat.reduceLT, Nat.reduceEqDiff, Nat.reduceBEq, ↓reduceIte, reduceCtorEq]; done))
    | ((with_reducible refine Ok_tail (impl_predOk_j4_ok _ _ _) ?_); first | rfl | (simp only [SSA, RS, c_impl_predOk, Nat.reduceAdd, Nat.reduceSub, Nat.reduceMul, Nat.reduceLeDiff, Nat.reduceLT, Nat.reduceEqDiff, Nat.reduceBEq, ↓reduceIte, reduceCtorEq]; done) | (simp only [SSA, RS, c_impl_predOk, Nat.reduceAdd, Nat.reduceSub, Nat.reduceMul, Nat.reduceLeDiff, Nat.reduceLT, Nat.reduceEqDiff, Nat.reduceBEq, ↓reduceIte, reduceCtorEq]; rfl))
    | ((first | with_reducible refine Ok_if (fun h => ?_) (fun h => ?_)) <;> simp only [SSA, RS, *, Nat.reduceAdd, Nat.reduceSub, Nat.reduceMul, Nat.reduceLeDiff, Nat.reduceLT, Nat.reduceEqDiff, Nat.reduceBEq, ↓reduceIte, reduceCtorEq])

theorem impl_predOk_ok : ∀ (p : GPred) (kind : Int), Ok (impl_predOk p kind) e_impl_predOk (dn FTA n_impl_predOk [.agg ((GPred.row p).map .t), .t (.v (.int .i64 kind))]) := by
  intro p kind
  rw [den_ev FTA (fn := k_impl_predOk) rfl (xOf_none rfl rfl _) (Nat.le_of_ble_eq_true rfl)]
  simp only [SSA, RS, c_impl_predOk, k_impl_predOk, impl_predOk, Nat.reduceAdd, Nat.reduceSub, Nat.reduceMul, Nat.reduceLeDiff, Nat.reduceLT, Nat.reduceEqDiff, Nat.reduceBEq, ↓reduceIte, reduceCtorEq]
  repeat' first
    | with_reducible exact Ok_none
    | ((with_reducible refine Ok_ret ?_); first | rfl | (simp only [SSA, RS, e_impl_predOk, Nat.reduceAdd, Nat.reduceSub, Nat.reduceMul, Nat.reduceLeDiff, Nat.reduceLT, Nat.reduceEqDiff, Nat.reduceBEq, ↓reduceIte, reduceCtorEq]; done))
    | ((with_reducible refine Ok_tail (impl_predOk_j2_ok _ _ _) ?_); first | rfl | (simp only [SSA, RS, c_impl_predOk, Nat.reduceAdd, Nat.reduceSub, Nat.reduceMul, Nat.reduceLeDiff, Nat.reduceLT, Nat.reduceEqDiff, Nat.reduceBEq, ↓reduceIte, reduceCtorEq]; done) | (simp only [SSA, RS, c_impl_predOk, Nat.reduceAdd, Nat.reduceSub, Nat.reduceMul, Nat.reduceLeDiff, Nat.reduceLT, Nat.reduceEqDiff, Nat.reduceBEq, ↓reduceIte, reduceCtorEq]; rfl))
    | ((first | with_reducible refine Ok_if (fun h => ?_) (fun h => ?_)) <;> simp only [SSA, RS, *, Nat.reduceAdd, Nat.reduceSub, Nat.reduceMul, Nat.reduceLeDiff, Nat.reduceLT, Nat.reduceEqDiff, Nat.reduceBEq, ↓reduceIte, reduceCtorEq])

def e_impl_stepOk_1 (r : Bool × GStp) : Res := ⟨[.t (.v (.bool r.1))], [some [[.v (.bool r.2.Deep), .v (.int .i64 r.2.Kind), .v (.string r.2.Pre), .v (.string r.2.Local), .sl false (r.2.Preds.map GPred.row)]]]⟩
def c_impl_stepOk_1 : Cx := ⟨2, [0, 1], [.tmp 3]⟩
theorem impl_stepOk_1_ok : ∀ (p : GPred) (a1 : GStp), Ok (impl_stepOk_1 p a1) e_impl_stepOk_1 (dn FTA n_impl_stepOk_1 [.agg ((GPred.row p).map .t), .lp [.v (.bool a1.Deep), .v (.int .i64 a1.Kind), .v (.string a1.Pre), .v (.string a1.Local), .sl false (a1.Preds.map GPred.row)] 0]) := by
  intro p a1
  rw [den_ev FTA (fn := k_impl_stepOk_1) rfl (xOf_none rfl rfl _) (Nat.le_of_ble_eq_true rfl)]
  have g0 := impl_predOk_ok; try simp only [SSA, RS, Nat.reduceAdd, Nat.reduceSub, Nat.reduceMul, Nat.reduceLeDiff, Nat.reduceLT, Nat.reduceEqDiff, Nat.reduceBEq, ↓reduceIte, reduceCtorEq] at g0
  simp only [SSA, RS, c_impl_stepOk_1, k_impl_stepOk_1, impl_stepOk_1, e_impl_predOk, Nat.reduceAdd, Nat.reduceSub, Nat.reduceMul, Nat.reduceLeDiff, Nat.reduceLT, Nat.reduceEqDiff, Nat.reduceBEq, ↓reduceIte, reduceCtorEq]
  repeat' first
    | with_reducible exact Ok_none
    | ((with_reducible refine Ok_ret ?_); first | rfl | (simp only [SSA, RS, e_impl_stepOk_1, Nat.reduceAdd, Nat.reduceSub, Nat.reduceMul, Nat.reduceLeDiff, Nat.reduceLT, Nat.reduceEqDiff, Nat.reduceBEq, ↓reduceIte, reduceCtorEq]; done))
    | ((first | with_reducible refine Ok_call (g0 _ _) fun v => ?_ | refine Ok_call (g0 _ _) fun v => ?_) <;> simp only [SSA, RS, *, e_impl_predOk, Nat.reduceAdd, Nat.reduceSub, Nat.reduceMul, Nat.reduceLeDiff, Nat.reduceLT, Nat.reduceEqDiff, Nat.reduceBEq, ↓reduceIte, reduceCtorEq])

def e_slices_IndexFunc_Pred_stepOk_1 (r : Int × GStp) : Res := ⟨[.t (.v (.int .i64 r.1))], [some [[.v (.bool r.2.Deep), .v (.int .i64 r.2.Kind), .v (.string r.2.Pre), .v (.string r.2.Local), .sl false (r.2.Preds.map GPred.row)]]]⟩
def c_slices_IndexFunc_Pred_stepOk_1 : Cx := ⟨2, [0, 1], [.tmp 4]⟩
theorem slices_IndexFunc_Pred_stepOk_1_l6_ok' (s : List GPred) : ∀ (x1 : Int) (f : GStp), Ok (slices_IndexFunc_Pred_stepOk_1_l6 s x1 f) e_slices_IndexFunc_Pred_stepOk_1 (ev FTA c_slices_IndexFunc_Pred_stepOk_1 (.loop k_slices_IndexFunc_Pred_l6) [.lv 0, .th k_slices_IndexFunc_Pred_r2] (putS (List.replicate 19 .dead) [(0, .t (.sl false (s.map GPred.row))), (1, .fn n_impl_stepOk_1 [.ptr (1, 0) [] 0 0 1 0]), (7, .t (.v (.int .i64 (lenL s)))), (8, .t (.v (.int .i64 x1)))]) (putR (List.replicate 19 []) [(1, [.mem [[.v (.bool f.Deep), .v (.int .i64 f.Kind), .v (.string f.Pre), .v (.string f.Local), .sl false (f.Preds.map GPred.row)]] 0 true])])) := by
  unfold Ok
  refine slices_IndexFunc_Pred_stepOk_1_l6.partial_correctness s _ ?_
  intro F ih x1 f
  show Ok _ _ _
  have ih : ∀ (x1 : Int) (f : GStp), Ok (F x1 f) _ _ := ih
  rw [ev_loop]
  have g0 := impl_stepOk_1_ok; try simp only [SSA, RS, Nat.reduceAdd, Nat.reduceSub, Nat.reduceMul, Nat.reduceLeDiff, Nat.reduceLT, Nat.reduceEqDiff, Nat.reduceBEq, ↓reduceIte, reduceCtorEq] at g0
  simp only [SSA, RS, c_slices_IndexFunc_Pred_stepOk_1, k_slices_IndexFunc_Pred_l6, k_slices_IndexFunc_Pred_r2, e_impl_stepOk_1, Nat.reduceAdd, Nat.reduceSub, Nat.reduceMul, Nat.reduceLeDiff, Nat.reduceLT, Nat.reduceEqDiff, Nat.reduceBEq, ↓reduceIte, reduceCtorEq]
  repeat' first
    | with_reducible exact Ok_none
    | ((with_reducible refine Ok_ret ?_); first | rfl | (simp only [SSA, RS, e_slices_IndexFunc_Pred_stepOk_1, Nat.reduceAdd, Nat.reduceSub, Nat.reduceMul, Nat.reduceLeDiff, Nat.reduceLT, Nat.reduceEqDiff, Nat.reduceBEq, ↓reduceIte, reduceCtorEq]; done))
    | ((with_reducible refine Ok_tail (ih _ _) ?_); first | rfl | (simp only [SSA, RS, c_slices_IndexFunc_Pred_stepOk_1, Nat.reduceAdd, Nat.reduceSub, Nat.reduceMul, Nat.reduceLeDiff, Nat.reduceLT, Nat.reduceEqDiff, Nat.reduceBEq, ↓reduceIte, reduceCtorEq]; done) | (simp only [SSA, RS, c_slices_IndexFunc_Pred_stepOk_1, Nat.reduceAdd, Nat.reduceSub, Nat.reduceMul, Nat.reduceLeDiff, Nat.reduceLT, Nat.reduceEqDiff, Nat.reduceBEq, ↓reduceIte, reduceCtorEq]; rfl))
    | ((first | with_reducible refine Ok_if (fun h => ?_) (fun h => ?_) | with_reducible refine Ok_get fun a h => ?_ | with_reducible refine Ok_call (g0 _ _) fun v => ?_ | refine Ok_call (g0 _ _) fun v => ?_) <;> simp only [SSA, RS, *, k_slices_IndexFunc_Pred_r2, e_impl_stepOk_1, Nat.reduceAdd, Nat.reduceSub, Nat.reduceMul, Nat.reduceLeDiff, Nat.reduceLT, Nat.reduceEqDiff, Nat.reduceBEq, ↓reduceIte, reduceCtorEq])
theorem slices_IndexFunc_Pred_stepOk_1_l6_ok (s : List GPred) (x1 : Int) (f : GStp) : Ok (slices_IndexFunc_Pred_stepOk_1_l6 s x1 f) e_slices_IndexFunc_Pred_stepOk_1 (ev FTA c_slices_IndexFunc_Pred_stepOk_1 (.loop k_slices_IndexFunc_Pred_l6) [.lv 0, .th k_slices_IndexFunc_Pred_r2] (putS (List.replicate 19 .dead) [(0, .t (.sl false (s.map GPred.row))), (1, .fn n_impl_stepOk_1 [.ptr (1, 0) [] 0 0 1 0]), (7, .t (.v (.int .i64 (lenL s)))), (8, .t (.v (.int .i64 x1)))]) (putR (List.replicate 19 []) [(1, [.mem [[.v (.bool f.Deep), .v (.int .i64 f.Kind), .v (.string f.Pre), .v (.string f.Local), .sl false (f.Preds.map GPred.row)]] 0 true])])) := slices_IndexFunc_Pred_stepOk_1_l6_ok' s x1 f

theorem slices_IndexFunc_Pred_stepOk_1_ok : ∀ (s : List GPred) (fc0 : GStp), Ok (slices_IndexFunc_Pred_stepOk_1 s fc0) e_slices_IndexFunc_Pred_stepOk_1 (dn FTA n_slices_IndexFunc_Pred [.t (.sl false (s.map GPred.row)), .fn n_impl_stepOk_1 [.lp [.v (.bool fc0.Deep), .v (.int .i64 fc0.Kind), .v (.string fc0.Pre), .v (.string fc0.Local), .sl false (fc0.Preds.map GPred.row)] 0]]) := by
  intro s fc0
  rw [den_ev FTA (fn := k_slices_IndexFunc_Pred) rfl (xOf_none rfl rfl _) (Nat.le_of_ble_eq_true rfl)]
  simp only [SSA, RS, c_slices_IndexFunc_Pred_stepOk_1, k_slices_IndexFunc_Pred, slices_IndexFunc_Pred_stepOk_1, Nat.reduceAdd, Nat.reduceSub, Nat.reduceMul, Nat.reduceLeDiff, Nat.reduceLT, Nat.reduceEqDiff, Nat.reduceBEq, ↓reduceIte, reduceCtorEq]
  repeat' first
    | with_reducible exact Ok_none
    | ((with_reducible refine Ok_ret ?_); first | rfl | (simp only [SSA, RS, e_slices_IndexFunc_Pred_stepOk_1, Nat.reduceAdd, Nat.reduceSub, Nat.reduceMul, Nat.reduceLeDiff, Nat.reduceLT, Nat.reduceEqDiff, Nat.reduceBEq, ↓reduceIte, reduceCtorEq]; done))
    | ((with_reducible refine Ok_tail (slices_IndexFunc_Pred_stepOk_1_l6_ok _ _ _) ?_); first | rfl | (simp only [SSA, RS, c_slices_IndexFunc_Pred_stepOk_1, Nat.reduceAdd, Nat.reduceSub, Nat.reduceMul, Nat.reduceLeDiff, Nat.reduceLT, Nat.reduceEqDiff, Nat.reduceBEq, ↓reduceIte, reduceCtorEq]; done) | (simp only [SSA, RS, c_slices_IndexFunc_Pred_stepOk_1, Nat.reduceAdd, Nat.reduceSub, Nat.reduceMul, Nat.reduceLeDiff, Nat.reduceLT, Nat.reduceEqDiff, Nat.reduceBEq, ↓reduceIte, reduceCtorEq]; rfl))

def e_slices_ContainsFunc_Pred_stepOk_1 (r : Bool × GStp) : Res := ⟨[.t (.v (.bool r.1))], [some [[.v (.bool r.2.Deep), .v (.int .i64 r.2.Kind), .v (.string r.2.Pre), .v (.string r.2.Local), .sl false (r.2.Preds.map GPred.row)]]]⟩
def c_slices_ContainsFunc_Pred_stepOk_1 : Cx := ⟨2, [0, 1], [.tmp 4]⟩
theorem slices_ContainsFunc_Pred_stepOk_1_ok : ∀ (s : List GPred) (fc0 : GStp), Ok (slices_ContainsFunc_Pred_stepOk_1 s fc0) e_slices_ContainsFunc_Pred_stepOk_1 (dn FTA n_slices_ContainsFunc_Pred [.t (.sl false (s.map GPred.row)), .fn n_impl_stepOk_1 [.lp [.v (.bool fc0.Deep), .v (.int .i64 fc0.Kind), .v (.string fc0.Pre), .v (.string fc0.Local), .sl false (fc0.Preds.map GPred.row)] 0]]) := by
  intro s fc0
  rw [den_ev FTA (fn := k_slices_ContainsFunc_Pred) rfl (xOf_none rfl rfl _) (Nat.le_of_ble_eq_true rfl)]
  have g0 := slices_IndexFunc_Pred_stepOk_1_ok; try simp only [SSA, RS, Nat.reduceAdd, Nat.reduceSub, Nat.reduceMul, Nat.reduceLeDiff, Nat.reduceLT, Nat.reduceEqDiff, Nat.reduceBEq, ↓reduceIte, reduceCtorEq] at g0
  simp only [SSA, RS, c_slices_ContainsFunc_Pred_stepOk_1, k_slices_ContainsFunc_Pred, slices_ContainsFunc_Pred_stepOk_1, e_slices_IndexFunc_Pred_stepOk_1, Nat.reduceAdd, Nat.reduceSub, Nat.reduceMul, Nat.reduceLeDiff, Nat.reduceLT, Nat.reduceEqDiff, Nat.reduceBEq, ↓reduceIte, reduceCtorEq]
  repeat' first
    | with_reducible exact Ok_none
    | ((with_reducible refine Ok_ret ?_); first | rfl | (simp only [SSA, RS, e_slices_ContainsFunc_Pred_stepOk_1, Nat.reduceAdd, Nat.reduceSub, Nat.reduceMul, Nat.reduceLeDiff, Nat.reduceLT, Nat.reduceEqDiff, Nat.reduceBEq, ↓reduceIte, reduceCtorEq]; done))
    | ((first | with_reducible refine Ok_call (g0 _ _) fun v => ?_ | refine Ok_call (g0 _ _) fun v => ?_) <;> simp only [SSA, RS, *, e_slices_IndexFunc_Pred_stepOk_1, Nat.reduceAdd, Nat.reduceSub, Nat.reduceMul, Nat.reduceLeDiff, Nat.reduceLT, Nat.reduceEqDiff, Nat.reduceBEq, ↓reduceIte, reduceCtorEq])

def e_impl_stepOk (r : Bool) : Res := ⟨[.t (.v (.bool r))], []⟩
def c_impl_stepOk : Cx := ⟨2, [0, 0], [.tmp 4]⟩
theorem impl_stepOk_j22_ok : ∀ (end1 : Bool) (r : Bool × GStp) (x : Bool) (sDeep : Bool), Ok (impl_stepOk_j22 end1 r x sDeep) e_impl_stepOk (ev FTA c_impl_stepOk k_impl_stepOk_r22 [.lv 0, .th k_impl_stepOk_r12] (putS (List.replicate 87 .dead) [(2, .ptr (2, 0) [] 0 0 1 0), (5, .t (.v (.bool end1))), (29, .t (.v (.int .i64 r.2.Kind))), (37, .t (.v (.bool x)))]) (putR (List.replicate 87 []) [(2, [.mem [[.v (.bool sDeep), .v (.int .i64 r.2.Kind), .v (.string r.2.Pre), .v (.string r.2.Local), .sl false (r.2.Preds.map GPred.row)]] 0 false])])) := by
  intro end1 r x sDeep
  have g0 := impl_PlainOk_ok; try simp only [SSA, RS, Nat.reduceAdd, Nat.reduceSub, Nat.reduceMul, Nat.reduceLeDiff, Nat.reduceLT, Nat.reduceEqDiff, Nat.reduceBEq, ↓reduceIte, reduceCtorEq] at g0
  have g1 := impl_nameOk_ok; try simp only [SSA, RS, Nat.reduceAdd, Nat.reduceSub, Nat.reduceMul, Nat.reduceLeDiff, Nat.reduceLT, Nat.reduceEqDiff, Nat.reduceBEq, ↓reduceIte, reduceCtorEq] at g1
  simp only [SSA, RS, c_impl_stepOk, k_impl_stepOk_r22, k_impl_stepOk_r12, impl_stepOk_j22, e_impl_PlainOk, e_impl_nameOk, Nat.reduceAdd, Nat.reduceSub, Nat.reduceMul, Nat.reduceLeDiff, Nat.reduceLT, Nat.reduceEqDiff, Nat.reduceBEq, ↓reduceIte, reduceCtorEq]
  repeat' first
    | with_reducible exact Ok_none
    | ((with_reducible refine Ok_ret ?_); first | rfl | (simp only [SSA, RS, e_impl_stepOk, Nat.reduceAdd, Nat.reduceSub, Nat.reduceMul, Nat.reduceLeDiff, Nat.reduceLT, Nat.reduceEqDiff, Nat.reduceBEq, ↓reduceIte, reduceCtorEq]; done))
    | ((first | with_reducible refine Ok_if (fun h => ?_) (fun h => ?_) | with_reducible refine Ok_call (g0 _) fun v => ?_ | with_reducible refine Ok_call (g1 _ _) fun v => ?_ | refine Ok_call (g0 _) fun v => ?_ | refine Ok_call (g1 _ _) fun v => ?_) <;> simp only [SSA, RS, *, k_impl_stepOk_r12, e_impl_PlainOk, e_impl_nameOk, Nat.reduceAdd, Nat.reduceSub, Nat.reduceMul, Nat.reduceLeDiff, Nat.reduceLT, Nat.reduceEqDiff, Nat.reduceBEq, ↓reduceIte, reduceCtorEq])

theorem impl_stepOk_j10_ok : ∀ (end1 : Bool) (sDeep : Bool) (r : Bool × GStp), Ok (impl_stepOk_j10 end1 sDeep r) e_impl_stepOk (ev FTA c_impl_stepOk k_impl_stepOk_r10 [] (putS (List.replicate 87 .dead) [(2, .ptr (2, 0) [] 0 0 1 0), (5, .t (.v (.bool end1)))]) (putR (List.replicate 87 []) [(2, [.mem [[.v (.bool sDeep), .v (.int .i64 r.2.Kind), .v (.string r.2.Pre), .v (.string r.2.Local), .sl false (r.2.Preds.map GPred.row)]] 0 false])])) := by
  intro end1 sDeep r
  have g0 := impl_nameOk_ok; try simp only [SSA, RS, Nat.reduceAdd, Nat.reduceSub, Nat.reduceMul, Nat.reduceLeDiff, Nat.reduceLT, Nat.reduceEqDiff, Nat.reduceBEq, ↓reduceIte, reduceCtorEq] at g0
  simp only [SSA, RS, c_impl_stepOk, k_impl_stepOk_r10, impl_stepOk_j10, e_impl_nameOk, Nat.reduceAdd, Nat.reduceSub, Nat.reduceMul, Nat.reduceLeDiff, Nat.reduceLT, Nat.reduceEqDiff, Nat.reduceBEq, ↓reduceIte, reduceCtorEq]
  repeat' first
    | with_reducible exact Ok_none
    | ((with_reducible refine Ok_ret ?_); first | rfl | (simp only [SSA, RS, e_impl_stepOk, Nat.reduceAdd, Nat.reduceSub, Nat.reduceMul, Nat.reduceLeDiff, Nat.reduceLT, Nat.reduceEqDiff, Nat.reduceBEq, ↓reduceIte, reduceCtorEq]; done))
    | ((with_reducible refine Ok_tail (impl_stepOk_j22_ok _ _ _ _) ?_); first | rfl | (simp only [SSA, RS, c_impl_stepOk, Nat.reduceAdd, Nat.reduceSub, Nat.reduceMul, Nat.reduceLeDiff, Nat.reduceLT, Nat.reduceEqDiff, Nat.reduceBEq, ↓reduceIte, reduceCtorEq]; done) | (simp only [SSA, RS, c_impl_stepOk, Nat.reduceAdd, Nat.reduceSub, Nat.reduceMul, Nat.reduceLeDiff, Nat.reduceLT, Nat.reduceEqDiff, Nat.reduceBEq, ↓reduceIte, reduceCtorEq]; rfl))
    | ((first | with_reducible refine Ok_if (fun h => ?_) (fun h => ?_) | with_reducible refine Ok_call (g0 _ _) fun v => ?_ | refine Ok_call (g0 _ _) fun v => ?_) <;> simp only [SSA, RS, *, e_impl_nameOk, Nat.reduceAdd, Nat.reduceSub, Nat.reduceMul, Nat.reduceLeDiff, Nat.reduceLT, Nat.reduceEqDiff, Nat.reduceBEq, ↓reduceIte, reduceCtorEq])

theorem impl_stepOk_ok : ∀ (s : GStp) (last : Bool), Ok (impl_stepOk s last) e_impl_stepOk (dn FTA n_impl_stepOk [.agg (((GStp.row false) s).map .t), .t (.v (.bool last))]) := by
  intro s last
  rw [den_ev FTA (fn := k_impl_stepOk) rfl (xOf_none rfl rfl _) (Nat.le_of_ble_eq_true rfl)]
  have g0 := slices_ContainsFunc_Pred_stepOk_1_ok; try simp only [SSA, RS, Nat.reduceAdd, Nat.reduceSub, Nat.reduceMul, Nat.reduceLeDiff, Nat.reduceLT, Nat.reduceEqDiff, Nat.reduceBEq, ↓reduceIte, reduceCtorEq] at g0
  simp only [SSA, RS, c_impl_stepOk, k_impl_stepOk, impl_stepOk, e_slices_ContainsFunc_Pred_stepOk_1, Nat.reduceAdd, Nat.reduceSub, Nat.reduceMul, Nat.reduceLeDiff, Nat.reduceLT, Nat.reduceEqDiff, Nat.reduceBEq, ↓reduceIte, reduceCtorEq]
  repeat' first
    | with_reducible exact Ok_none
    | ((with_reducible refine Ok_ret ?_); first | rfl | (simp only [SSA, RS, e_impl_stepOk, Nat.reduceAdd, Nat.reduceSub, Nat.reduceMul, Nat.reduceLeDiff, Nat.reduceLT, Nat.reduceEqDiff, Nat.reduceBEq, ↓reduceIte, reduceCtorEq]; done))
    | ((with_reducible refine Ok_tail (impl_stepOk_j10_ok _ _ _) ?_); first | rfl | (simp only [SSA, RS, c_impl_stepOk, Nat.reduceAdd, Nat.reduceSub, Nat.reduceMul, Nat.reduceLeDiff, Nat.reduceLT, Nat.reduceEqDiff, Nat.reduceBEq, ↓reduceIte, reduceCtorEq]; done) | (simp only [SSA, RS, c_impl_stepOk, Nat.reduceAdd, Nat.reduceSub, Nat.reduceMul, Nat.reduceLeDiff, Nat.reduceLT, Nat.reduceEqDiff, Nat.reduceBEq, ↓reduceIte, reduceCtorEq]; rfl))
    | ((first | with_reducible refine Ok_if (fun h => ?_) (fun h => ?_) | with_reducible refine Ok_call (g0 _ _) fun v => ?_ | refine Ok_call (g0 _ _) fun v => ?_) <;> simp only [SSA, RS, *, e_slices_ContainsFunc_Pred_stepOk_1, Nat.reduceAdd, Nat.reduceSub, Nat.reduceMul, Nat.reduceLeDiff, Nat.reduceLT, Nat.reduceEqDiff, Nat.reduceBEq, ↓reduceIte, reduceCtorEq])

def e_impl_SelOk (r : Bool) : Res := ⟨[.t (.v (.bool r))], []⟩
def c_impl_SelOk : Cx := ⟨1, [0], [.tmp 2]⟩
theorem impl_SelOk_l8_ok' (s : GSel) : ∀ (x1 : Int), Ok (impl_SelOk_l8 s x1) e_impl_SelOk (ev FTA c_impl_SelOk (.loop k_impl_SelOk_l8) [.lv 0, .th k_impl_SelOk_r4] (putS (List.replicate 41 .dead) [(1, .ptr (1, 0) [] 0 0 1 0), (3, .t (.v (.int .i64 (lenL s.Steps)))), (10, .t (.sl false (s.Steps.map (GStp.row false)))), (11, .t (.v (.int .i64 (lenL s.Steps)))), (12, .t (.v (.int .i64 x1)))]) (putR (List.replicate 41 []) [(1, [.mem [[.v (.string s.Id), .sl false (s.Steps.map (GStp.row false))]] 0 false])])) := by
  unfold Ok
  refine impl_SelOk_l8.partial_correctness s _ ?_
  intro F ih x1
  show Ok _ _ _
  have ih : ∀ (x1 : Int), Ok (F x1) _ _ := ih
  rw [ev_loop]
  have g0 := impl_stepOk_ok; try simp only [SSA, RS, Nat.reduceAdd, Nat.reduceSub, Nat.reduceMul, Nat.reduceLeDiff, Nat.reduceLT, Nat.reduceEqDiff, Nat.reduceBEq, ↓reduceIte, reduceCtorEq] at g0
  have g1 := impl_valOk_ok; try simp only [SSA, RS, Nat.reduceAdd, Nat.reduceSub, Nat.reduceMul, Nat.reduceLeDiff, Nat.reduceLT, Nat.reduceEqDiff, Nat.reduceBEq, ↓reduceIte, reduceCtorEq] at g1
  simp only [SSA, RS, c_impl_SelOk, k_impl_SelOk_l8, k_impl_SelOk_r4, e_impl_stepOk, e_impl_valOk, Nat.reduceAdd, Nat.reduceSub, Nat.reduceMul, Nat.reduceLeDiff, Nat.reduceLT, Nat.reduceEqDiff, Nat.reduceBEq, ↓reduceIte, reduceCtorEq]
  repeat' first
    | with_reducible exact Ok_none
    | ((with_reducible refine Ok_ret ?_); first | rfl | (simp only [SSA, RS, e_impl_SelOk, Nat.reduceAdd, Nat.reduceSub, Nat.reduceMul, Nat.reduceLeDiff, Nat.reduceLT, Nat.reduceEqDiff, Nat.reduceBEq, ↓reduceIte, reduceCtorEq]; done))
    | ((with_reducible refine Ok_tail (ih _) ?_); first | rfl | (simp only [SSA, RS, c_impl_SelOk, Nat.reduceAdd, Nat.reduceSub, Nat.reduceMul, Nat.reduceLeDiff, Nat.reduceLT, Nat.reduceEqDiff, Nat.reduceBEq, ↓reduceIte, reduceCtorEq]; done) | (simp only [SSA, RS, c_impl_SelOk, Nat.reduceAdd, Nat.reduceSub, Nat.reduceMul, Nat.reduceLeDiff, Nat.reduceLT, Nat.reduceEqDiff, Nat.reduceBEq, ↓reduceIte, reduceCtorEq]; rfl))
    | ((first | with_reducible refine Ok_if (fun h => ?_) (fun h => ?_) | with_reducible refine Ok_get fun a h => ?_ | with_reducible refine Ok_call (g0 _ _) fun v => ?_ | with_reducible refine Ok_call (g1 _) fun v => ?_ | refine Ok_call (g0 _ _) fun v => ?_ | refine Ok_call (g1 _) fun v => ?_) <;> simp only [SSA, RS, *, k_impl_SelOk_r4, e_impl_stepOk, e_impl_valOk, Nat.reduceAdd, Nat.reduceSub, Nat.reduceMul, Nat.reduceLeDiff, Nat.reduceLT, Nat.reduceEqDiff, Nat.reduceBEq, ↓reduceIte, reduceCtorEq])
theorem impl_SelOk_l8_ok (s : GSel) (x1 : Int) : Ok (impl_SelOk_l8 s x1) e_impl_SelOk (ev FTA c_impl_SelOk (.loop k_impl_SelOk_l8) [.lv 0, .th k_impl_SelOk_r4] (putS (List.replicate 41 .dead) [(1, .ptr (1, 0) [] 0 0 1 0), (3, .t (.v (.int .i64 (lenL s.Steps)))), (10, .t (.sl false (s.Steps.map (GStp.row false)))), (11, .t (.v (.int .i64 (lenL s.Steps)))), (12, .t (.v (.int .i64 x1)))]) (putR (List.replicate 41 []) [(1, [.mem [[.v (.string s.Id), .sl false (s.Steps.map (GStp.row false))]] 0 false])])) := impl_SelOk_l8_ok' s x1

theorem impl_SelOk_ok : ∀ (s : GSel), Ok (impl_SelOk s) e_impl_SelOk (dn FTA n_impl_SelOk [.agg (((GSel.row false) s).map .t)]) := by
  intro s
  rw [den_ev FTA (fn := k_impl_SelOk) rfl (xOf_none rfl rfl _) (Nat.le_of_ble_eq_true rfl)]
  simp only [SSA, RS, c_impl_SelOk, k_impl_SelOk, impl_SelOk, Nat.reduceAdd, Nat.reduceSub, Nat.reduceMul, Nat.reduceLeDiff, Nat.reduceLT, Nat.reduceEqDiff, Nat.reduceBEq, ↓reduceIte, reduceCtorEq]
  repeat' first
    | with_reducible exact Ok_none
    | ((with_reducible refine Ok_ret ?_); first | rfl | (simp only [SSA, RS, e_impl_SelOk, Nat.reduceAdd, Nat.reduceSub, Nat.reduceMul, Nat.reduceLeDiff, Nat.reduceLT, Nat.reduceEqDiff, Nat.reduceBEq, ↓reduceIte, reduceCtorEq]; done))
    | ((with_reducible refine Ok_tail (impl_SelOk_l8_ok _ _) ?_); first | rfl | (simp only [SSA, RS, c_impl_SelOk, Nat.reduceAdd, Nat.reduceSub, Nat.reduceMul, Nat.reduceLeDiff, Nat.reduceLT, Nat.reduceEqDiff, Nat.reduceBEq, ↓reduceIte, reduceCtorEq]; done) | (simp only [SSA, RS, c_impl_SelOk, Nat.reduceAdd, Nat.reduceSub, Nat.reduceMul, Nat.reduceLeDiff, Nat.reduceLT, Nat.reduceEqDiff, Nat.reduceBEq, ↓reduceIte, reduceCtorEq]; rfl))

def e_impl_quotedVal (r : ByteArray) : Res := ⟨[.t (.v (.string r))], []⟩
def c_impl_quotedVal : Cx := ⟨1, [0], [.tmp 2]⟩
theorem impl_quotedVal_ok : ∀ (s : ByteArray), Ok (impl_quotedVal s) e_impl_quotedVal (dn FTA n_impl_quotedVal [.t (.v (.string s))]) := by
  intro s
  rw [den_ev FTA (fn := k_impl_quotedVal) rfl (xOf_none rfl rfl _) (Nat.le_of_ble_eq_true rfl)]
  have g0 := strings_Contains_ok; try simp only [SSA, RS, Nat.reduceAdd, Nat.reduceSub, Nat.reduceMul, Nat.reduceLeDiff, Nat.reduceLT, Nat.reduceEqDiff, Nat.reduceBEq, ↓reduceIte, reduceCtorEq] at g0
  simp only [SSA, RS, c_impl_quotedVal, k_impl_quotedVal, impl_quotedVal, e_strings_Contains, Nat.reduceAdd, Nat.reduceSub, Nat.reduceMul, Nat.reduceLeDiff, Nat.reduceLT, Nat.reduceEqDiff, Nat.reduceBEq, ↓reduceIte, reduceCtorEq]
  repeat' first
    | with_reducible exact Ok_none
    | ((with_reducible refine Ok_ret ?_); first | rfl | (simp only [SSA, RS, e_impl_quotedVal, Nat.reduceAdd, Nat.reduceSub, Nat.reduceMul, Nat.reduceLeDiff, Nat.reduceLT, Nat.reduceEqDiff, Nat.reduceBEq, ↓reduceIte, reduceCtorEq]; done))
    | ((first | with_reducible refine Ok_if (fun h => ?_) (fun h => ?_) | with_reducible refine Ok_call (g0 _ _) fun v => ?_ | with_reducible refine Ok_prim (p := catS _ _) fun a h => ?_ | refine Ok_call (g0 _ _) fun v => ?_) <;> simp only [SSA, RS, *, e_strings_Contains, Nat.reduceAdd, Nat.reduceSub, Nat.reduceMul, Nat.reduceLeDiff, Nat.reduceLT, Nat.reduceEqDiff, Nat.reduceBEq, ↓reduceIte, reduceCtorEq])

def e_strings_Cut (r : ByteArray × ByteArray × Bool) : Res := ⟨[.t (.v (.string r.1)), .t (.v (.string r.2.1)), .t (.v (.bool r.2.2))], []⟩
def c_strings_Cut : Cx := ⟨2, [0, 0], [.tmp 4, .tmp 5, .tmp 6]⟩
theorem strings_Cut_ok : ∀ (s : ByteArray) (t : ByteArray), Ok (strings_Cut s t) e_strings_Cut (dn FTA n_strings_Cut [.t (.v (.string s)), .t (.v (.string t))]) := by
  intro s t r hr
  exact den_ext FTA.ft (xOf FTA) (x_cut_ok s t (e := e_strings_Cut) (fun _ => rfl) hr)

def e_impl_SplitName (r : ByteArray × ByteArray × Bool) : Res := ⟨[.t (.v (.string r.1)), .t (.v (.string r.2.1)), .t (.v (.bool r.2.2))], []⟩
def c_impl_SplitName : Cx := ⟨1, [0], [.tmp 2, .tmp 3, .tmp 4]⟩
theorem impl_SplitName_ok : ∀ (s : ByteArray), Ok (impl_SplitName s) e_impl_SplitName (dn FTA n_impl_SplitName [.t (.v (.string s))]) := by
  intro s
  rw [den_ev FTA (fn := k_impl_SplitName) rfl (xOf_none rfl rfl _) (Nat.le_of_ble_eq_true rfl)]
  have g0 := impl_PlainOk_ok; try simp only [SSA, RS, Nat.reduceAdd, Nat.reduceSub, Nat.reduceMul, Nat.reduceLeDiff, Nat.reduceLT, Nat.reduceEqDiff, Nat.reduceBEq, ↓reduceIte, reduceCtorEq] at g0
  have g1 := strings_Cut_ok; try simp only [SSA, RS, Nat.reduceAdd, Nat.reduceSub, Nat.reduceMul, Nat.reduceLeDiff, Nat.reduceLT, Nat.reduceEqDiff, Nat.reduceBEq, ↓reduceIte, reduceCtorEq] at g1
  simp only [SSA, RS, c_impl_SplitName, k_impl_SplitName, impl_SplitName, e_impl_PlainOk, e_strings_Cut, Nat.reduceAdd, Nat.reduceSub, Nat.reduceMul, Nat.reduceLeDiff, Nat.reduceLT, Nat.reduceEqDiff, Nat.reduceBEq, ↓reduceIte, reduceCtorEq]
  repeat' first
    | with_reducible exact Ok_none
    | ((with_reducible refine Ok_ret ?_); first | rfl | (simp only [SSA, RS, e_impl_SplitName, Nat.reduceAdd, Nat.reduceSub, Nat.reduceMul, Nat.reduceLeDiff, Nat.reduceLT, Nat.reduceEqDiff, Nat.reduceBEq, ↓reduceIte, reduceCtorEq]; done))
    | ((first | with_reducible refine Ok_if (fun h => ?_) (fun h => ?_) | with_reducible refine Ok_call (g0 _) fun v => ?_ | with_reducible refine Ok_call (g1 _ _) fun v => ?_ | refine Ok_call (g0 _) fun v => ?_ | refine Ok_call (g1 _ _) fun v => ?_) <;> simp only [SSA, RS, *, e_impl_PlainOk, e_strings_Cut, Nat.reduceAdd, Nat.reduceSub, Nat.reduceMul, Nat.reduceLeDiff, Nat.reduceLT, Nat.reduceEqDiff, Nat.reduceBEq, ↓reduceIte, reduceCtorEq])

def e_impl_JoinName (r : ByteArray) : Res := ⟨[.t (.v (.string r))], []⟩
def c_impl_JoinName : Cx := ⟨2, [0, 0], [.tmp 4]⟩
theorem impl_JoinName_j4_ok : ∀ (pre : ByteArray) (local1 : ByteArray) (s : ByteArray), Ok (impl_JoinName_j4 pre local1 s) e_impl_JoinName (ev FTA c_impl_JoinName k_impl_JoinName_r4 [] (putS (List.replicate 35 .dead) [(0, .t (.v (.string pre))), (1, .t (.v (.string local1))), (5, .t (.v (.string s)))]) (putR (List.replicate 35 []) [])) := by
  intro pre local1 s
  have g0 := impl_SplitName_ok; try simp only [SSA, RS, Nat.reduceAdd, Nat.reduceSub, Nat.reduceMul, Nat.reduceLeDiff, Nat.reduceLT, Nat.reduceEqDiff, Nat.reduceBEq, ↓reduceIte, reduceCtorEq] at g0
  simp only [SSA, RS, c_impl_JoinName, k_impl_JoinName_r4, impl_JoinName_j4, e_impl_SplitName, Nat.reduceAdd, Nat.reduceSub, Nat.reduceMul, Nat.reduceLeDiff, Nat.reduceLT, Nat.reduceEqDiff, Nat.reduceBEq, ↓reduceIte, reduceCtorEq]
  repeat' first
    | with_reducible exact Ok_none
    | ((with_reducible refine Ok_ret ?_); first | rfl | (simp only [SSA, RS, e_impl_JoinName, Nat.reduceAdd, Nat.reduceSub, Nat.reduceMul, Nat.reduceLeDiff, Nat.reduceLT, Nat.reduceEqDiff, Nat.reduceBEq, ↓reduceIte, reduceCtorEq]; done))
    | ((first | with_reducible refine Ok_if (fun h => ?_) (fun h => ?_) | with_reducible refine Ok_call (g0 _) fun v => ?_ | refine Ok_call (g0 _) fun v => ?_) <;> simp only [SSA, RS, *, e_impl_SplitName, Nat.reduceAdd, Nat.reduceSub, Nat.reduceMul, Nat.reduceLeDiff, Nat.reduceLT, Nat.reduceEqDiff, Nat.reduceBEq, ↓reduceIte, reduceCtorEq])

theorem impl_JoinName_ok : ∀ (pre : ByteArray) (local1 : ByteArray), Ok (impl_JoinName pre local1) e_impl_JoinName (dn FTA n_impl_JoinName [.t (.v (.string pre)), .t (.v (.string local1))]) := by
  intro pre local1
  rw [den_ev FTA (fn := k_impl_JoinName) rfl (xOf_none rfl rfl _) (Nat.le_of_ble_eq_true rfl)]
  simp only [SSA, RS, c_impl_JoinName, k_impl_JoinName, impl_JoinName, Nat.reduceAdd, Nat.reduceSub, Nat.reduceMul, Nat.reduceLeDiff, Nat.reduceLT, Nat.reduceEqDiff, Nat.reduceBEq, ↓reduceIte, reduceCtorEq]
  repeat' first
    | with_reducible exact Ok_none
    | ((with_reducible refine Ok_ret ?_); first | rfl | (simp only [SSA, RS, e_impl_JoinName, Nat.reduceAdd, Nat.reduceSub, Nat.reduceMul, Nat.reduceLeDiff, Nat.reduceLT, Nat.reduceEqDiff, Nat.reduceBEq, ↓reduceIte, reduceCtorEq]; done))
    | ((with_reducible refine Ok_tail (impl_JoinName_j4_ok _ _ _) ?_); first | rfl | (simp only [SSA, RS, c_impl_JoinName, Nat.reduceAdd, Nat.reduceSub, Nat.reduceMul, Nat.reduceLeDiff, Nat.reduceLT, Nat.reduceEqDiff, Nat.reduceBEq, ↓reduceIte, reduceCtorEq]; done) | (simp only [SSA, RS, c_impl_JoinName, Nat.reduceAdd, Nat.reduceSub, Nat.reduceMul, Nat.reduceLeDiff, Nat.reduceLT, Nat.reduceEqDiff, Nat.reduceBEq, ↓reduceIte, reduceCtorEq]; rfl))
    | ((first | with_reducible refine Ok_if (fun h => ?_) (fun h => ?_) | with_reducible refine Ok_prim (p := catS _ _) fun a h => ?_) <;> simp only [SSA, RS, *, Nat.reduceAdd, Nat.reduceSub, Nat.reduceMul, Nat.reduceLeDiff, Nat.reduceLT, Nat.reduceEqDiff, Nat.reduceBEq, ↓reduceIte, reduceCtorEq])

def e_impl_stepText (r : ByteArray) : Res := ⟨[.t (.v (.string r))], []⟩
def c_impl_stepText : Cx := ⟨1, [0], [.tmp 2]⟩
theorem impl_stepText_ok : ∀ (s : GStp), Ok (impl_stepText s) e_impl_stepText (dn FTA n_impl_stepText [.agg (((GStp.row false) s).map .t)]) := by
  intro s
  rw [den_ev FTA (fn := k_impl_stepText) rfl (xOf_none rfl rfl _) (Nat.le_of_ble_eq_true rfl)]
  have g0 := impl_JoinName_ok; try simp only [SSA, RS, Nat.reduceAdd, Nat.reduceSub, Nat.reduceMul, Nat.reduceLeDiff, Nat.reduceLT, Nat.reduceEqDiff, Nat.reduceBEq, ↓reduceIte, reduceCtorEq] at g0
  simp only [SSA, RS, c_impl_stepText, k_impl_stepText, impl_stepText, e_impl_JoinName, Nat.reduceAdd, Nat.reduceSub, Nat.reduceMul, Nat.reduceLeDiff, Nat.reduceLT, Nat.reduceEqDiff, Nat.reduceBEq, ↓reduceIte, reduceCtorEq]
  repeat' first
    | with_reducible exact Ok_none
    | ((with_reducible refine Ok_ret ?_); first | rfl | (simp only [SSA, RS, e_impl_stepText, Nat.reduceAdd, Nat.reduceSub, Nat.reduceMul, Nat.reduceLeDiff, Nat.reduceLT, Nat.reduceEqDiff, Nat.reduceBEq, ↓reduceIte, reduceCtorEq]; done))
    | ((first | with_reducible refine Ok_if (fun h => ?_) (fun h => ?_) | with_reducible refine Ok_call (g0 _ _) fun v => ?_ | with_reducible refine Ok_prim (p := catS _ _) fun a h => ?_ | refine Ok_call (g0 _ _) fun v => ?_) <;> simp only [SSA, RS, *, e_impl_JoinName, Nat.reduceAdd, Nat.reduceSub, Nat.reduceMul, Nat.reduceLeDiff, Nat.reduceLT, Nat.reduceEqDiff, Nat.reduceBEq, ↓reduceIte, reduceCtorEq])

def e_strconv_Itoa (r : ByteArray) : Res := ⟨[.t (.v (.string r))], []⟩
def c_strconv_Itoa : Cx := ⟨1, [0], [.tmp 2]⟩
theorem strconv_Itoa_ok : ∀ (s : Int), Ok (strconv_Itoa s) e_strconv_Itoa (dn FTA n_strconv_Itoa [.t (.v (.int .i64 s))]) := by
  intro s r hr
  exact den_ext FTA.ft (xOf FTA) (x_itoa_ok s (e := e_strconv_Itoa) (fun _ => rfl) hr)

def e_impl_predText (r : ByteArray) : Res := ⟨[.t (.v (.string r))], []⟩
def c_impl_predText : Cx := ⟨1, [0], [.tmp 2]⟩
theorem impl_predText_ok : ∀ (p : GPred), Ok (impl_predText p) e_impl_predText (dn FTA n_impl_predText [.agg ((GPred.row p).map .t)]) := by
  intro p
  rw [den_ev FTA (fn := k_impl_predText) rfl (xOf_none rfl rfl _) (Nat.le_of_ble_eq_true rfl)]
  have g0 := strconv_Itoa_ok; try simp only [SSA, RS, Nat.reduceAdd, Nat.reduceSub, Nat.reduceMul, Nat.reduceLeDiff, Nat.reduceLT, Nat.reduceEqDiff, Nat.reduceBEq, ↓reduceIte, reduceCtorEq] at g0
  have g1 := impl_JoinName_ok; try simp only [SSA, RS, Nat.reduceAdd, Nat.reduceSub, Nat.reduceMul, Nat.reduceLeDiff, Nat.reduceLT, Nat.reduceEqDiff, Nat.reduceBEq, ↓reduceIte, reduceCtorEq] at g1
  have g2 := impl_quotedVal_ok; try simp only [SSA, RS, Nat.reduceAdd, Nat.reduceSub, Nat.reduceMul, Nat.reduceLeDiff, Nat.reduceLT, Nat.reduceEqDiff, Nat.reduceBEq, ↓reduceIte, reduceCtorEq] at g2
  simp only [SSA, RS, c_impl_predText, k_impl_predText, impl_predText, e_impl_JoinName, e_impl_quotedVal, e_strconv_Itoa, Nat.reduceAdd, Nat.reduceSub, Nat.reduceMul, Nat.reduceLeDiff, Nat.reduceLT, Nat.reduceEqDiff, Nat.reduceBEq, ↓reduceIte, reduceCtorEq]
  repeat' first
    | with_reducible exact Ok_none
    | ((with_reducible refine Ok_ret ?_); first | rfl | (simp only [SSA, RS, e_impl_predText, Nat.reduceAdd, Nat.reduceSub, Nat.reduceMul, Nat.reduceLeDiff, Nat.reduceLT, Nat.reduceEqDiff, Nat.reduceBEq, ↓reduceIte, reduceCtorEq]; done))
    | ((first | with_reducible refine Ok_if (fun h => ?_) (fun h => ?_) | with_reducible refine Ok_call (g0 _) fun v => ?_ | with_reducible refine Ok_call (g1 _ _) fun v => ?_ | with_reducible refine Ok_call (g2 _) fun v => ?_ | with_reducible refine Ok_prim (p := catS _ _) fun a h => ?_ | refine Ok_call (g0 _) fun v => ?_ | refine Ok_call (g1 _ _) fun v => ?_ | refine Ok_call (g2 _) fun v => ?_) <;> simp only [SSA, RS, *, e_impl_JoinName, e_impl_quotedVal, e_strconv_Itoa, Nat.reduceAdd, Nat.reduceSub, Nat.reduceMul, Nat.reduceLeDiff, Nat.reduceLT, Nat.reduceEqDiff, Nat.reduceBEq, ↓reduceIte, reduceCtorEq])

def e_impl_SelText (r : ByteArray) : Res := ⟨[.t (.v (.string r))], []⟩
def c_impl_SelText : Cx := ⟨1, [0], [.tmp 2]⟩
theorem G_impl_SelText_j33 (s : GSel) : (∀ (out4 : ByteArray) (x12 : Int) (xDeep1 : Bool) (x13 : GStp), Ok (impl_SelText_j33 out4 s x12 xDeep1 x13) e_impl_SelText (ev FTA c_impl_SelText k_impl_SelText_r33 [.lv 1, .th k_impl_SelText_r29, .hk [.clean []], .th (.loop k_impl_SelText_l22), .lv 0, .th k_impl_SelText_r18] (putS (List.replicate 63 .dead) [(1, .ptr (1, 0) [] 0 0 1 0), (3, .t (.v (.string out4))), (5, .ptr (5, 0) [] 0 0 1 0), (20, .t (.sl false (s.Steps.map (GStp.row false)))), (21, .t (.v (.int .i64 (lenL s.Steps)))), (22, .t (.v (.int .i64 x12)))]) (putR (List.replicate 63 []) [(1, [.mem [[.v (.string s.Id), .sl false (s.Steps.map (GStp.row false))]] 0 false]), (5, [.mem [[.v (.bool xDeep1), .v (.int .i64 x13.Kind), .v (.string x13.Pre), .v (.string x13.Local), .sl false (x13.Preds.map GPred.row)]] 0 false])]))) ∧
    (∀ (out5 : ByteArray) (x12 : Int) (x13 : GStp) (x20 : Int), Ok (impl_SelText_l49 out5 s x12 x13 x20) e_impl_SelText (ev FTA c_impl_SelText (.loop k_impl_SelText_l49) [.lv 3, .lv 1, .th k_impl_SelText_r29, .hk [.clean []], .th (.loop k_impl_SelText_l22), .lv 0, .th k_impl_SelText_r18] (putS (List.replicate 63 .dead) [(1, .ptr (1, 0) [] 0 0 1 0), (3, .t (.v (.string out5))), (20, .t (.sl false (s.Steps.map (GStp.row false)))), (21, .t (.v (.int .i64 (lenL s.Steps)))), (22, .t (.v (.int .i64 x12))), (47, .t (.sl false (x13.Preds.map GPred.row))), (48, .t (.v (.int .i64 (lenL x13.Preds)))), (49, .t (.v (.int .i64 x20)))]) (putR (List.replicate 63 []) [(1, [.mem [[.v (.string s.Id), .sl false (s.Steps.map (GStp.row false))]] 0 false])]))) ∧
    (∀ (out3 : ByteArray) (x12 : Int), Ok (impl_SelText_l22 out3 s x12) e_impl_SelText (ev FTA c_impl_SelText (.loop k_impl_SelText_l22) [.lv 0, .th k_impl_SelText_r18] (putS (List.replicate 63 .dead) [(1, .ptr (1, 0) [] 0 0 1 0), (3, .t (.v (.string out3))), (20, .t (.sl false (s.Steps.map (GStp.row false)))), (21, .t (.v (.int .i64 (lenL s.Steps)))), (22, .t (.v (.int .i64 x12)))]) (putR (List.replicate 63 []) [(1, [.mem [[.v (.string s.Id), .sl false (s.Steps.map (GStp.row false))]] 0 false])]))) := by
  unfold Ok
  refine impl_SelText_j33.mutual_partial_correctness s _ _ _ ?_ ?_ ?_ 
  · intro F1 ih1 out4 x12 xDeep1 x13
    show Ok _ _ _
    have ih1 : ∀ (out5 : ByteArray) (x12 : Int) (x13 : GStp) (x20 : Int), Ok (F1 out5 x12 x13 x20) _ _ := ih1
    have g0 := impl_stepText_ok; try simp only [SSA, RS, Nat.reduceAdd, Nat.reduceSub, Nat.reduceMul, Nat.reduceLeDiff, Nat.reduceLT, Nat.reduceEqDiff, Nat.reduceBEq, ↓reduceIte, reduceCtorEq] at g0
    simp only [SSA, RS, c_impl_SelText, k_impl_SelText_r33, e_impl_stepText, Nat.reduceAdd, Nat.reduceSub, Nat.reduceMul, Nat.reduceLeDiff, Nat.reduceLT, Nat.reduceEqDiff, Nat.reduceBEq, ↓reduceIte, reduceCtorEq]
    repeat' first
      | with_reducible exact Ok_none
      | ((with_reducible refine Ok_ret ?_); first | rfl | (simp only [SSA, RS, e_impl_SelText, Nat.reduceAdd, Nat.reduceSub, Nat.reduceMul, Nat.reduceLeDiff, Nat.reduceLT, Nat.reduceEqDiff, Nat.reduceBEq, ↓reduceIte, reduceCtorEq]; done))
      | ((with_reducible refine Ok_tail (ih1 _ _ _ _) ?_); first | rfl | (simp only [SSA, RS, c_impl_SelText, Nat.reduceAdd, Nat.reduceSub, Nat.reduceMul, Nat.reduceLeDiff, Nat.reduceLT, Nat.reduceEqDiff, Nat.reduceBEq, ↓reduceIte, reduceCtorEq]; done) | (simp only [SSA, RS, c_impl_SelText, Nat.reduceAdd, Nat.reduceSub, Nat.reduceMul, Nat.reduceLeDiff, Nat.reduceLT, Nat.reduceEqDiff, Nat.reduceBEq, ↓reduceIte, reduceCtorEq]; rfl))
      | ((first | with_reducible refine Ok_call (g0 _) fun v => ?_ | with_reducible refine Ok_prim (p := catS _ _) fun a h => ?_ | refine Ok_call (g0 _) fun v => ?_) <;> simp only [SSA, RS, *, e_impl_stepText, Nat.reduceAdd, Nat.reduceSub, Nat.reduceMul, Nat.reduceLeDiff, Nat.reduceLT, Nat.reduceEqDiff, Nat.reduceBEq, ↓reduceIte, reduceCtorEq])
  · intro F1 F2 ih1 ih2 out5 x12 x13 x20
    show Ok _ _ _
    have ih1 : ∀ (out5 : ByteArray) (x12 : Int) (x13 : GStp) (x20 : Int), Ok (F1 out5 x12 x13 x20) _ _ := ih1
    have ih2 : ∀ (out3 : ByteArray) (x12 : Int), Ok (F2 out3 x12) _ _ := ih2
    rw [ev_loop]
    have g0 := impl_predText_ok; try simp only [SSA, RS, Nat.reduceAdd, Nat.reduceSub, Nat.reduceMul, Nat.reduceLeDiff, Nat.reduceLT, Nat.reduceEqDiff, Nat.reduceBEq, ↓reduceIte, reduceCtorEq] at g0
    simp only [SSA, RS, c_impl_SelText, k_impl_SelText_l49, k_impl_SelText_r29, e_impl_predText, Nat.reduceAdd, Nat.reduceSub, Nat.reduceMul, Nat.reduceLeDiff, Nat.reduceLT, Nat.reduceEqDiff, Nat.reduceBEq, ↓reduceIte, reduceCtorEq]
    repeat' first
      | with_reducible exact Ok_none
      | ((with_reducible refine Ok_ret ?_); first | rfl | (simp only [SSA, RS, e_impl_SelText, Nat.reduceAdd, Nat.reduceSub, Nat.reduceMul, Nat.reduceLeDiff, Nat.reduceLT, Nat.reduceEqDiff, Nat.reduceBEq, ↓reduceIte, reduceCtorEq]; done))
      | ((with_reducible refine Ok_tail (ih1 _ _ _ _) ?_); first | rfl | (simp only [SSA, RS, c_impl_SelText, Nat.reduceAdd, Nat.reduceSub, Nat.reduceMul, Nat.reduceLeDiff, Nat.reduceLT, Nat.reduceEqDiff, Nat.reduceBEq, ↓reduceIte, reduceCtorEq]; done) | (simp only [SSA, RS, c_impl_SelText, Nat.reduceAdd, Nat.reduceSub, Nat.reduceMul, Nat.reduceLeDiff, Nat.reduceLT, Nat.reduceEqDiff, Nat.reduceBEq, ↓reduceIte, reduceCtorEq]; rfl))
      | ((with_reducible refine Ok_tail (ih2 _ _) ?_); first | rfl | (simp only [SSA, RS, c_impl_SelText, Nat.reduceAdd, Nat.reduceSub, Nat.reduceMul, Nat.reduceLeDiff, Nat.reduceLT, Nat.reduceEqDiff, Nat.reduceBEq, ↓reduceIte, reduceCtorEq]; done) | (simp only [SSA, RS, c_impl_SelText, Nat.reduceAdd, Nat.reduceSub, Nat.reduceMul, Nat.reduceLeDiff, Nat.reduceLT, Nat.reduceEqDiff, Nat.reduceBEq, ↓reduceIte, reduceCtorEq]; rfl))
      | ((first | with_reducible refine Ok_if (fun h => ?_) (fun h => ?_) | with_reducible refine Ok_get fun a h => ?_ | with_reducible refine Ok_call (g0 _) fun v => ?_ | with_reducible refine Ok_prim (p := catS _ _) fun a h => ?_ | refine Ok_call (g0 _) fun v => ?_) <;> simp only [SSA, RS, *, k_impl_SelText_r29, e_impl_predText, Nat.reduceAdd, Nat.reduceSub, Nat.reduceMul, Nat.reduceLeDiff, Nat.reduceLT, Nat.reduceEqDiff, Nat.reduceBEq, ↓reduceIte, reduceCtorEq])
  · intro F0 ih0 out3 x12
    show Ok _ _ _
    have ih0 : ∀ (out4 : ByteArray) (x12 : Int) (xDeep1 : Bool) (x13 : GStp), Ok (F0 out4 x12 xDeep1 x13) _ _ := ih0
    rw [ev_loop]
    simp only [SSA, RS, c_impl_SelText, k_impl_SelText_l22, k_impl_SelText_r18, Nat.reduceAdd, Nat.reduceSub, Nat.reduceMul, Nat.reduceLeDiff, Nat.reduceLT, Nat.reduceEqDiff, Nat.reduceBEq, ↓reduceIte, reduceCtorEq]
    repeat' first
      | with_reducible exact Ok_none
      | ((with_reducible refine Ok_ret ?_); first | rfl | (simp only [SSA, RS, e_impl_SelText, Nat.reduceAdd, Nat.reduceSub, Nat.reduceMul, Nat.reduceLeDiff, Nat.reduceLT, Nat.reduceEqDiff, Nat.reduceBEq, ↓reduceIte, reduceCtorEq]; done))
      | ((with_reducible refine Ok_tail (ih0 _ _ _ _) ?_); first | rfl | (simp only [SSA, RS, c_impl_SelText, Nat.reduceAdd, Nat.reduceSub, Nat.reduceMul, Nat.reduceLeDiff, Nat.reduceLT, Nat.reduceEqDiff, Nat.reduceBEq, ↓reduceIte, reduceCtorEq]; done) | (simp only [SSA, RS, c_impl_SelText, Nat.reduceAdd, Nat.reduceSub, Nat.reduceMul, Nat.reduceLeDiff, Nat.reduceLT, Nat.reduceEqDiff, Nat.reduceBEq, ↓reduceIte, reduceCtorEq]; rfl))
      | ((first | with_reducible refine Ok_if (fun h => ?_) (fun h => ?_) | with_reducible refine Ok_get fun a h => ?_ | with_reducible refine Ok_prim (p := catS _ _) fun a h => ?_) <;> simp only [SSA, RS, *, k_impl_SelText_r18, Nat.reduceAdd, Nat.reduceSub, Nat.reduceMul, Nat.reduceLeDiff, Nat.reduceLT, Nat.reduceEqDiff, Nat.reduceBEq, ↓reduceIte, reduceCtorEq])
theorem impl_SelText_j33_ok (out4 : ByteArray) (s : GSel) (x12 : Int) (xDeep1 : Bool) (x13 : GStp) : Ok (impl_SelText_j33 out4 s x12 xDeep1 x13) e_impl_SelText (ev FTA c_impl_SelText k_impl_SelText_r33 [.lv 1, .th k_impl_SelText_r29, .hk [.clean []], .th (.loop k_impl_SelText_l22), .lv 0, .th k_impl_SelText_r18] (putS (List.replicate 63 .dead) [(1, .ptr (1, 0) [] 0 0 1 0), (3, .t (.v (.string out4))), (5, .ptr (5, 0) [] 0 0 1 0), (20, .t (.sl false (s.Steps.map (GStp.row false)))), (21, .t (.v (.int .i64 (lenL s.Steps)))), (22, .t (.v (.int .i64 x12)))]) (putR (List.replicate 63 []) [(1, [.mem [[.v (.string s.Id), .sl false (s.Steps.map (GStp.row false))]] 0 false]), (5, [.mem [[.v (.bool xDeep1), .v (.int .i64 x13.Kind), .v (.string x13.Pre), .v (.string x13.Local), .sl false (x13.Preds.map GPred.row)]] 0 false])])) := (G_impl_SelText_j33 s).1 out4 x12 xDeep1 x13
theorem impl_SelText_l49_ok (out5 : ByteArray) (s : GSel) (x12 : Int) (x13 : GStp) (x20 : Int) : Ok (impl_SelText_l49 out5 s x12 x13 x20) e_impl_SelText (ev FTA c_impl_SelText (.loop k_impl_SelText_l49) [.lv 3, .lv 1, .th k_impl_SelText_r29, .hk [.clean []], .th (.loop k_impl_SelText_l22), .lv 0, .th k_impl_SelText_r18] (putS (List.replicate 63 .dead) [(1, .ptr (1, 0) [] 0 0 1 0), (3, .t (.v (.string out5))), (20, .t (.sl false (s.Steps.map (GStp.row false)))), (21, .t (.v (.int .i64 (lenL s.Steps)))), (22, .t (.v (.int .i64 x12))), (47, .t (.sl false (x13.Preds.map GPred.row))), (48, .t (.v (.int .i64 (lenL x13.Preds)))), (49, .t (.v (.int .i64 x20)))]) (putR (List.replicate 63 []) [(1, [.mem [[.v (.string s.Id), .sl false (s.Steps.map (GStp.row false))]] 0 false])])) := (G_impl_SelText_j33 s).2.1 out5 x12 x13 x20
theorem impl_SelText_l22_ok (out3 : ByteArray) (s : GSel) (x12 : Int) : Ok (impl_SelText_l22 out3 s x12) e_impl_SelText (ev FTA c_impl_SelText (.loop k_impl_SelText_l22) [.lv 0, .th k_impl_SelText_r18] (putS (List.replicate 63 .dead) [(1, .ptr (1, 0) [] 0 0 1 0), (3, .t (.v (.string out3))), (20, .t (.sl false (s.Steps.map (GStp.row false)))), (21, .t (.v (.int .i64 (lenL s.Steps)))), (22, .t (.v (.int .i64 x12)))]) (putR (List.replicate 63 []) [(1, [.mem [[.v (.string s.Id), .sl false (s.Steps.map (GStp.row false))]] 0 false])])) := (G_impl_SelText_j33 s).2.2 out3 x12

theorem impl_SelText_j12_ok : ∀ (out : ByteArray) (s : GSel), Ok (impl_SelText_j12 out s) e_impl_SelText (ev FTA c_impl_SelText k_impl_SelText_r12 [] (putS (List.replicate 63 .dead) [(1, .ptr (1, 0) [] 0 0 1 0), (3, .t (.v (.string out)))]) (putR (List.replicate 63 []) [(1, [.mem [[.v (.string s.Id), .sl false (s.Steps.map (GStp.row false))]] 0 false])])) := by
  intro out s
  simp only [SSA, RS, c_impl_SelText, k_impl_SelText_r12, impl_SelText_j12, Nat.reduceAdd, Nat.reduceSub, Nat.reduceMul, Nat.reduceLeDiff, Nat.reduceLT, Nat.reduceEqDiff, Nat.reduceBEq, ↓reduceIte, reduceCtorEq]
  repeat' first
    | with_reducible exact Ok_none
    | ((with_reducible refine Ok_ret ?_); first | rfl | (simp only [SSA, RS, e_impl_SelText, Nat.reduceAdd, Nat.reduceSub, Nat.reduceMul, Nat.reduceLeDiff, Nat.reduceLT, Nat.reduceEqDiff, Nat.reduceBEq, ↓reduceIte, reduceCtorEq]; done))
    | ((with_reducible refine Ok_tail (impl_SelText_l22_ok _ _ _) ?_); first | rfl | (simp only [SSA, RS, c_impl_SelText, Nat.reduceAdd, Nat.reduceSub, Nat.reduceMul, Nat.reduceLeDiff, Nat.reduceLT, Nat.reduceEqDiff, Nat.reduceBEq, ↓reduceIte, reduceCtorEq]; done) | (simp only [SSA, RS, c_impl_SelText, Nat.reduceAdd, Nat.reduceSub, Nat.reduceMul, Nat.reduceLeDiff, Nat.reduceLT, Nat.reduceEqDiff, Nat.reduceBEq, ↓reduceIte, reduceCtorEq]; rfl))

theorem impl_SelText_ok : ∀ (s : GSel), Ok (impl_SelText s) e_impl_SelText (dn FTA n_impl_SelText [.agg (((GSel.row false) s).map .t)]) := by
  intro s
  rw [den_ev FTA (fn := k_impl_SelText) rfl (xOf_none rfl rfl _) (Nat.le_of_ble_eq_true rfl)]
  have g0 := impl_SelOk_ok; try simp only [SSA, RS, Nat.reduceAdd, Nat.reduceSub, Nat.reduceMul, Nat.reduceLeDiff, Nat.reduceLT, Nat.reduceEqDiff, Nat.reduceBEq, ↓reduceIte, reduceCtorEq] at g0
  have g1 := impl_quotedVal_ok; try simp only [SSA, RS, Nat.reduceAdd, Nat.reduceSub, Nat.reduceMul, Nat.reduceLeDiff, Nat.reduceLT, Nat.reduceEqDiff, Nat.reduceBEq, ↓reduceIte, reduceCtorEq] at g1
  simp only [SSA, RS, c_impl_SelText, k_impl_SelText, impl_SelText, e_impl_SelOk, e_impl_quotedVal, Nat.reduceAdd, Nat.reduceSub, Nat.reduceMul, Nat.reduceLeDiff, Nat.reduceLT, Nat.reduceEqDiff, Nat.reduceBEq, ↓reduceIte, reduceCtorEq]
  repeat' first
    | with_reducible exact Ok_none
    | ((with_reducible refine Ok_ret ?_); first | rfl | (simp only [SSA, RS, e_impl_SelText, Nat.reduceAdd, Nat.reduceSub, Nat.reduceMul, Nat.reduceLeDiff, Nat.reduceLT, Nat.reduceEqDiff, Nat.reduceBEq, ↓reduceIte, reduceCtorEq]; done))
    | ((with_reducible refine Ok_tail (impl_SelText_j12_ok _ _) ?_); first | rfl | (simp only [SSA, RS, c_impl_SelText, Nat.reduceAdd, Nat.reduceSub, Nat.reduceMul, Nat.reduceLeDiff, Nat.reduceLT, Nat.reduceEqDiff, Nat.reduceBEq, ↓reduceIte, reduceCtorEq]; done) | (simp only [SSA, RS, c_impl_SelText, Nat.reduceAdd, Nat.reduceSub, Nat.reduceMul, Nat.reduceLeDiff, Nat.reduceLT, Nat.reduceEqDiff, Nat.reduceBEq, ↓reduceIte, reduceCtorEq]; rfl))
    | ((first | with_reducible refine Ok_if (fun h => ?_) (fun h => ?_) | with_reducible refine Ok_call (g0 _) fun v => ?_ | with_reducible refine Ok_call (g1 _) fun v => ?_ | with_reducible refine Ok_prim (p := catS _ _) fun a h => ?_ | refine Ok_call (g0 _) fun v => ?_ | refine Ok_call (g1 _) fun v => ?_) <;> simp only [SSA, RS, *, e_impl_SelOk, e_impl_quotedVal, Nat.reduceAdd, Nat.reduceSub, Nat.reduceMul, Nat.reduceLeDiff, Nat.reduceLT, Nat.reduceEqDiff, Nat.reduceBEq, ↓reduceIte, reduceCtorEq])

def e_laws_eqPred (r : Bool) : Res := ⟨[.t (.v (.bool r))], []⟩
def c_laws_eqPred : Cx := ⟨2, [0, 0], [.tmp 4]⟩
theorem laws_eqPred_ok : ∀ (a : GPred) (b : GPred), Ok (laws_eqPred a b) e_laws_eqPred (dn FTA n_laws_eqPred [.agg ((GPred.row a).map .t), .agg ((GPred.row b).map .t)]) := by
  intro a b
  rw [den_ev FTA (fn := k_laws_eqPred) rfl (xOf_none rfl rfl _) (Nat.le_of_ble_eq_true rfl)]
  simp only [SSA, RS, c_laws_eqPred, k_laws_eqPred, laws_eqPred, Nat.reduceAdd, Nat.reduceSub, Nat.reduceMul, Nat.reduceLeDiff, Nat.reduceLT, Nat.reduceEqDiff, Nat.reduceBEq, ↓reduceIte, reduceCtorEq]
  repeat' first
    | with_reducible exact Ok_none
    | ((with_reducible refine Ok_ret ?_); first | rfl | (simp only [SSA, RS, e_laws_eqPred, Nat.reduceAdd, Nat.reduceSub, Nat.reduceMul, Nat.reduceLeDiff, Nat.reduceLT, Nat.reduceEqDiff, Nat.reduceBEq, ↓reduceIte, reduceCtorEq]; done))
    | ((first | with_reducible refine Ok_if (fun h => ?_) (fun h => ?_)) <;> simp only [SSA, RS, *, Nat.reduceAdd, Nat.reduceSub, Nat.reduceMul, Nat.reduceLeDiff, Nat.reduceLT, Nat.reduceEqDiff, Nat.reduceBEq, ↓reduceIte, reduceCtorEq])

def e_laws_eqPredS (r : Bool) : Res := ⟨[.t (.v (.bool r))], []⟩
def c_laws_eqPredS : Cx := ⟨2, [0, 0], [.tmp 4]⟩
theorem laws_eqPredS_l14_ok' (a : List GPred) (b : List GPred) : ∀ (i : Int), Ok (laws_eqPredS_l14 a b i) e_laws_eqPredS (ev FTA c_laws_eqPredS (.loop k_laws_eqPredS_l14) [.lv 0, .th k_laws_eqPredS_r10] (putS (List.replicate 27 .dead) [(0, .t (.sl false (a.map GPred.row))), (1, .t (.sl false (b.map GPred.row))), (5, .t (.v (.int .i64 i)))]) (putR (List.replicate 27 []) [])) := by
  unfold Ok
  refine laws_eqPredS_l14.partial_correctness a b _ ?_
  intro F ih i
  show Ok _ _ _
  have ih : ∀ (i : Int), Ok (F i) _ _ := ih
  rw [ev_loop]
  have g0 := laws_eqPred_ok; try simp only [SSA, RS, Nat.reduceAdd, Nat.reduceSub, Nat.reduceMul, Nat.reduceLeDiff, Nat.reduceLT, Nat.reduceEqDiff, Nat.reduceBEq, ↓reduceIte, reduceCtorEq] at g0
  simp only [SSA, RS, c_laws_eqPredS, k_laws_eqPredS_l14, k_laws_eqPredS_r10, e_laws_eqPred, Nat.reduceAdd, Nat.reduceSub, Nat.reduceMul, Nat.reduceLeDiff, Nat.reduceLT, Nat.reduceEqDiff, Nat.reduceBEq, ↓reduceIte, reduceCtorEq]
  repeat' first
    | with_reducible exact Ok_none
    | ((with_reducible refine Ok_ret ?_); first | rfl | (simp only [SSA, RS, e_laws_eqPredS, Nat.reduceAdd, Nat.reduceSub, Nat.reduceMul, Nat.reduceLeDiff, Nat.reduceLT, Nat.reduceEqDiff, Nat.reduceBEq, ↓reduceIte, reduceCtorEq]; done))
    | ((with_reducible refine Ok_tail (ih _) ?_); first | rfl | (simp only [SSA, RS, c_laws_eqPredS, Nat.reduceAdd, Nat.reduceSub, Nat.reduceMul, Nat.reduceLeDiff, Nat.reduceLT, Nat.reduceEqDiff, Nat.reduceBEq, ↓reduceIte, reduceCtorEq]; done) | (simp only [SSA, RS, c_laws_eqPredS, Nat.reduceAdd, Nat.reduceSub, Nat.reduceMul, Nat.reduceLeDiff, Nat.reduceLT, Nat.reduceEqDiff, Nat.reduceBEq, ↓reduceIte, reduceCtorEq]; rfl))
    | ((first | with_reducible refine Ok_if (fun h => ?_) (fun h => ?_) | with_reducible refine Ok_get fun a h => ?_ | with_reducible refine Ok_call (g0 _ _) fun v => ?_ | refine Ok_call (g0 _ _) fun v => ?_) <;> simp only [SSA, RS, *, k_laws_eqPredS_r10, e_laws_eqPred, Nat.reduceAdd, Nat.reduceSub, Nat.reduceMul, Nat.reduceLeDiff, Nat.reduceLT, Nat.reduceEqDiff, Nat.reduceBEq, ↓reduceIte, reduceCtorEq])
theorem laws_eqPredS_l14_ok (a : List GPred) (b : List GPred) (i : Int) : Ok (laws_eqPredS_l14 a b i) e_laws_eqPredS (ev FTA c_laws_eqPredS (.loop k_laws_eqPredS_l14) [.lv 0, .th k_laws_eqPredS_r10] (putS (List.replicate 27 .dead) [(0, .t (.sl false (a.map GPred.row))), (1, .t (.sl false (b.map GPred.row))), (5, .t (.v (.int .i64 i)))]) (putR (List.replicate 27 []) [])) := laws_eqPredS_l14_ok' a b i

theorem laws_eqPredS_ok : ∀ (a : List GPred) (b : List GPred), Ok (laws_eqPredS a b) e_laws_eqPredS (dn FTA n_laws_eqPredS [.t (.sl false (a.map GPred.row)), .t (.sl false (b.map GPred.row))]) := by
  intro a b
  rw [den_ev FTA (fn := k_laws_eqPredS) rfl (xOf_none rfl rfl _) (Nat.le_of_ble_eq_true rfl)]
  simp only [SSA, RS, c_laws_eqPredS, k_laws_eqPredS, laws_eqPredS, Nat.reduceAdd, Nat.reduceSub, Nat.reduceMul, Nat.reduceLeDiff, Nat.reduceLT, Nat.reduceEqDiff, Nat.reduceBEq, ↓reduceIte, reduceCtorEq]
  repeat' first
    | with_reducible exact Ok_none
    | ((with_reducible refine Ok_ret ?_); first | rfl | (simp only [SSA, RS, e_laws_eqPredS, Nat.reduceAdd, Nat.reduceSub, Nat.reduceMul, Nat.reduceLeDiff, Nat.reduceLT, Nat.reduceEqDiff, Nat.reduceBEq, ↓reduceIte, reduceCtorEq]; done))
    | ((with_reducible refine Ok_tail (laws_eqPredS_l14_ok _ _ _) ?_); first | rfl | (simp only [SSA, RS, c_laws_eqPredS, Nat.reduceAdd, Nat.reduceSub, Nat.reduceMul, Nat.reduceLeDiff, Nat.reduceLT, Nat.reduceEqDiff, Nat.reduceBEq, ↓reduceIte, reduceCtorEq]; done) | (simp only [SSA, RS, c_laws_eqPredS, Nat.reduceAdd, Nat.reduceSub, Nat.reduceMul, Nat.reduceLeDiff, Nat.reduceLT, Nat.reduceEqDiff, Nat.reduceBEq, ↓reduceIte, reduceCtorEq]; rfl))
    | ((first | with_reducible refine Ok_if (fun h => ?_) (fun h => ?_)) <;> simp only [SSA, RS, *, Nat.reduceAdd, Nat.reduceSub, Nat.reduceMul, Nat.reduceLeDiff, Nat.reduceLT, Nat.reduceEqDiff, Nat.reduceBEq, ↓reduceIte, reduceCtorEq])

def e_laws_eqStep (r : Bool) : Res := ⟨[.t (.v (.bool r))], []⟩
def c_laws_eqStep : Cx := ⟨2, [0, 0], [.tmp 4]⟩
theorem laws_eqStep_ok : ∀ (a : GStp) (b : GStp), Ok (laws_eqStep a b) e_laws_eqStep (dn FTA n_laws_eqStep [.agg (((GStp.row false) a).map .t), .agg (((GStp.row false) b).map .t)]) := by
  intro a b
  rw [den_ev FTA (fn := k_laws_eqStep) rfl (xOf_none rfl rfl _) (Nat.le_of_ble_eq_true rfl)]
  have g0 := laws_eqPredS_ok; try simp only [SSA, RS, Nat.reduceAdd, Nat.reduceSub, Nat.reduceMul, Nat.reduceLeDiff, Nat.reduceLT, Nat.reduceEqDiff, Nat.reduceBEq, ↓reduceIte, reduceCtorEq] at g0
  simp only [SSA, RS, c_laws_eqStep, k_laws_eqStep, laws_eqStep, e_laws_eqPredS, Nat.reduceAdd, Nat.reduceSub, Nat.reduceMul, Nat.reduceLeDiff, Nat.reduceLT, Nat.reduceEqDiff, Nat.reduceBEq, ↓reduceIte, reduceCtorEq]
  repeat' first
    | with_reducible exact Ok_none
    | ((with_reducible refine Ok_ret ?_); first | rfl | (simp only [SSA, RS, e_laws_eqStep, Nat.reduceAdd, Nat.reduceSub, Nat.reduceMul, Nat.reduceLeDiff, Nat.reduceLT, Nat.reduceEqDiff, Nat.reduceBEq, ↓reduceIte, reduceCtorEq]; done))
    | ((first | with_reducible refine Ok_if (fun h => ?_) (fun h => ?_) | with_reducible refine Ok_call (g0 _ _) fun v => ?_ | refine Ok_call (g0 _ _) fun v => ?_) <;> simp only [SSA, RS, *, e_laws_eqPredS, Nat.reduceAdd, Nat.reduceSub, Nat.reduceMul, Nat.reduceLeDiff, Nat.reduceLT, Nat.reduceEqDiff, Nat.reduceBEq, ↓reduceIte, reduceCtorEq])

def e_laws_eqStepS (r : Bool) : Res := ⟨[.t (.v (.bool r))], []⟩
def c_laws_eqStepS : Cx := ⟨2, [0, 0], [.tmp 4]⟩
theorem laws_eqStepS_l14_ok' (a : List GStp) (b : List GStp) : ∀ (i : Int), Ok (laws_eqStepS_l14 a b i) e_laws_eqStepS (ev FTA c_laws_eqStepS (.loop k_laws_eqStepS_l14) [.lv 0, .th k_laws_eqStepS_r10] (putS (List.replicate 27 .dead) [(0, .t (.sl false (a.map (GStp.row false)))), (1, .t (.sl false (b.map (GStp.row false)))), (5, .t (.v (.int .i64 i)))]) (putR (List.replicate 27 []) [])) := by
  unfold Ok
  refine laws_eqStepS_l14.partial_correctness a b _ ?_
  intro F ih i
  show Ok _ _ _
  have ih : ∀ (i : Int), Ok (F i) _ _ := ih
  rw [ev_loop]
  have g0 := laws_eqStep_ok; try simp only [SSA, RS, Nat.reduceAdd, Nat.reduceSub, Nat.reduceMul, Nat.reduceLeDiff, Nat.reduceLT, Nat.reduceEqDiff, Nat.reduceBEq, ↓reduceIte, reduceCtorEq] at g0
  simp only [SSA, RS, c_laws_eqStepS, k_laws_eqStepS_l14, k_laws_eqStepS_r10, e_laws_eqStep, Nat.reduceAdd, Nat.reduceSub, Nat.reduceMul, Nat.reduceLeDiff, Nat.reduceLT, Nat.reduceEqDiff, Nat.reduceBEq, ↓reduceIte, reduceCtorEq]
  repeat' first
    | with_reducible exact Ok_none
    | ((with_reducible refine Ok_ret ?_); first | rfl | (simp only [SSA, RS, e_laws_eqStepS, Nat.reduceAdd, Nat.reduceSub, Nat.reduceMul, Nat.reduceLeDiff, Nat.reduceLT, Nat.reduceEqDiff, Nat.reduceBEq, ↓reduceIte, reduceCtorEq]; done))
    | ((with_reducible refine Ok_tail (ih _) ?_); first | rfl | (simp only [SSA, RS, c_laws_eqStepS, Nat.reduceAdd, Nat.reduceSub, Nat.reduceMul, Nat.reduceLeDiff, Nat.reduceLT, Nat.reduceEqDiff, Nat.reduceBEq, ↓reduceIte, reduceCtorEq]; done) | (simp only [SSA, RS, c_laws_eqStepS, Nat.reduceAdd, Nat.reduceSub, Nat.reduceMul, Nat.reduceLeDiff, Nat.reduceLT, Nat.reduceEqDiff, Nat.reduceBEq, ↓reduceIte, reduceCtorEq]; rfl))
    | ((first | with_reducible refine Ok_if (fun h => ?_) (fun h => ?_) | with_reducible refine Ok_get fun a h => ?_ | with_reducible refine Ok_call (g0 _ _) fun v => ?_ | refine Ok_call (g0 _ _) fun v => ?_) <;> simp only [SSA, RS, *, k_laws_eqStepS_r10, e_laws_eqStep, Nat.reduceAdd, Nat.reduceSub, Nat.reduceMul, Nat.reduceLeDiff, Nat.reduceLT, Nat.reduceEqDiff, Nat.reduceBEq, ↓reduceIte, reduceCtorEq])
theorem laws_eqStepS_l14_ok (a : List GStp) (b : List GStp) (i : Int) : Ok (laws_eqStepS_l14 a b i) e_laws_eqStepS (ev FTA c_laws_eqStepS (.loop k_laws_eqStepS_l14) [.lv 0, .th k_laws_eqStepS_r10] (putS (List.replicate 27 .dead) [(0, .t (.sl false (a.map (GStp.row false)))), (1, .t (.sl false (b.map (GStp.row false)))), (5, .t (.v (.int .i64 i)))]) (putR (List.replicate 27 []) [])) := laws_eqStepS_l14_ok' a b i

theorem laws_eqStepS_ok : ∀ (a : List GStp) (b : List GStp), Ok (laws_eqStepS a b) e_laws_eqStepS (dn FTA n_laws_eqStepS [.t (.sl false (a.map (GStp.row false))), .t (.sl false (b.map (GStp.row false)))]) := by
  intro a b
  rw [den_ev FTA (fn := k_laws_eqStepS) rfl (xOf_none rfl rfl _) (Nat.le_of_ble_eq_true rfl)]
  simp only [SSA, RS, c_laws_eqStepS, k_laws_eqStepS, laws_eqStepS, Nat.reduceAdd, Nat.reduceSub, Nat.reduceMul, Nat.reduceLeDiff, Nat.reduceLT, Nat.reduceEqDiff, Nat.reduceBEq, ↓reduceIte, reduceCtorEq]
  repeat' first
    | with_reducible exact Ok_none
    | ((with_reducible refine Ok_ret ?_); first | rfl | (simp only [SSA, RS, e_laws_eqStepS, Nat.reduceAdd, Nat.reduceSub, Nat.reduceMul, Nat.reduceLeDiff, Nat.reduceLT, Nat.reduceEqDiff, Nat.reduceBEq, ↓reduceIte, reduceCtorEq]; done))
    | ((with_reducible refine Ok_tail (laws_eqStepS_l14_ok _ _ _) ?_); first | rfl | (simp only [SSA, RS, c_laws_eqStepS, Nat.reduceAdd, Nat.reduceSub, Nat.reduceMul, Nat.reduceLeDiff, Nat.reduceLT, Nat.reduceEqDiff, Nat.reduceBEq, ↓reduceIte, reduceCtorEq]; done) | (simp only [SSA, RS, c_laws_eqStepS, Nat.reduceAdd, Nat.reduceSub, Nat.reduceMul, Nat.reduceLeDiff, Nat.reduceLT, Nat.reduceEqDiff, Nat.reduceBEq, ↓reduceIte, reduceCtorEq]; rfl))
    | ((first | with_reducible refine Ok_if (fun h => ?_) (fun h => ?_)) <;> simp only [SSA, RS, *, Nat.reduceAdd, Nat.reduceSub, Nat.reduceMul, Nat.reduceLeDiff, Nat.reduceLT, Nat.reduceEqDiff, Nat.reduceBEq, ↓reduceIte, reduceCtorEq])

def e_laws_eqSel (r : Bool) : Res := ⟨[.t (.v (.bool r))], []⟩
def c_laws_eqSel : Cx := ⟨2, [0, 0], [.tmp 4]⟩
theorem laws_eqSel_ok : ∀ (a : GSel) (b : GSel), Ok (laws_eqSel a b) e_laws_eqSel (dn FTA n_laws_eqSel [.agg (((GSel.row false) a).map .t), .agg (((GSel.row false) b).map .t)]) := by
  intro a b
  rw [den_ev FTA (fn := k_laws_eqSel) rfl (xOf_none rfl rfl _) (Nat.le_of_ble_eq_true rfl)]
  have g0 := laws_eqStepS_ok; try simp only [SSA, RS, Nat.reduceAdd, Nat.reduceSub, Nat.reduceMul, Nat.reduceLeDiff, Nat.reduceLT, Nat.reduceEqDiff, Nat.reduceBEq, ↓reduceIte, reduceCtorEq] at g0
  simp only [SSA, RS, c_laws_eqSel, k_laws_eqSel, laws_eqSel, e_laws_eqStepS, Nat.reduceAdd, Nat.reduceSub, Nat.reduceMul, Nat.reduceLeDiff, Nat.reduceLT, Nat.reduceEqDiff, Nat.reduceBEq, ↓reduceIte, reduceCtorEq]
  repeat' first
    | with_reducible exact Ok_none
    | ((with_reducible refine Ok_ret ?_); first | rfl | (simp only [SSA, RS, e_laws_eqSel, Nat.reduceAdd, Nat.reduceSub, Nat.reduceMul, Nat.reduceLeDiff, Nat.reduceLT, Nat.reduceEqDiff, Nat.reduceBEq, ↓reduceIte, reduceCtorEq]; done))
    | ((first | with_reducible refine Ok_if (fun h => ?_) (fun h => ?_) | with_reducible refine Ok_call (g0 _ _) fun v => ?_ | refine Ok_call (g0 _ _) fun v => ?_) <;> simp only [SSA, RS, *, e_laws_eqStepS, Nat.reduceAdd, Nat.reduceSub, Nat.reduceMul, Nat.reduceLeDiff, Nat.reduceLT, Nat.reduceEqDiff, Nat.reduceBEq, ↓reduceIte, reduceCtorEq])

def e_laws_FnExactSelText (r : Bool) : Res := ⟨[.t (.v (.bool r))], []⟩
def c_laws_FnExactSelText : Cx := ⟨1, [0], [.tmp 2]⟩
theorem laws_FnExactSelText_ok : ∀ (aS : GSel), Ok (laws_FnExactSelText aS) e_laws_FnExactSelText (dn FTA n_laws_FnExactSelText [.agg (((GSel.row false) aS).map .t)]) := by
  intro aS
  rw [den_ev FTA (fn := k_laws_FnExactSelText) rfl (xOf_none rfl rfl _) (Nat.le_of_ble_eq_true rfl)]
  have g0 := laws_szSel_ok; try simp only [SSA, RS, Nat.reduceAdd, Nat.reduceSub, Nat.reduceMul, Nat.reduceLeDiff, Nat.reduceLT, Nat.reduceEqDiff, Nat.reduceBEq, ↓reduceIte, reduceCtorEq] at g0
  have g1 := laws_toSel_ok; try simp only [SSA, RS, Nat.reduceAdd, Nat.reduceSub, Nat.reduceMul, Nat.reduceLeDiff, Nat.reduceLT, Nat.reduceEqDiff, Nat.reduceBEq, ↓reduceIte, reduceCtorEq] at g1
  have g2 := spec_SelText_ok; try simp only [SSA, RS, Nat.reduceAdd, Nat.reduceSub, Nat.reduceMul, Nat.reduceLeDiff, Nat.reduceLT, Nat.reduceEqDiff, Nat.reduceBEq, ↓reduceIte, reduceCtorEq] at g2
  have g3 := impl_SelText_ok; try simp only [SSA, RS, Nat.reduceAdd, Nat.reduceSub, Nat.reduceMul, Nat.reduceLeDiff, Nat.reduceLT, Nat.reduceEqDiff, Nat.reduceBEq, ↓reduceIte, reduceCtorEq] at g3
  have g4 := laws_eqSel_ok; try simp only [SSA, RS, Nat.reduceAdd, Nat.reduceSub, Nat.reduceMul, Nat.reduceLeDiff, Nat.reduceLT, Nat.reduceEqDiff, Nat.reduceBEq, ↓reduceIte, reduceCtorEq] at g4
  simp only [SSA, RS, c_laws_FnExactSelText, k_laws_FnExactSelText, laws_FnExactSelText, e_impl_SelText, e_laws_eqSel, e_laws_szSel, e_laws_toSel, e_spec_SelText, Nat.reduceAdd, Nat.reduceSub, Nat.reduceMul, Nat.reduceLeDiff, Nat.reduceLT, Nat.reduceEqDiff, Nat.reduceBEq, ↓reduceIte, reduceCtorEq]
  repeat' first
    | with_reducible exact Ok_none
    | ((with_reducible refine Ok_ret ?_); first | rfl | (simp only [SSA, RS, e_laws_FnExactSelText, Nat.reduceAdd, Nat.reduceSub, Nat.reduceMul, Nat.reduceLeDiff, Nat.reduceLT, Nat.reduceEqDiff, Nat.reduceBEq, ↓reduceIte, reduceCtorEq]; done))
    | ((first | with_reducible refine Ok_if (fun h => ?_) (fun h => ?_) | with_reducible refine Ok_call (g0 _ _) fun v => ?_ | with_reducible refine Ok_call (g1 _) fun v => ?_ | with_reducible refine Ok_call (g2 _) fun v => ?_ | with_reducible refine Ok_call (g3 _) fun v => ?_ | with_reducible refine Ok_call (g4 _ _) fun v => ?_ | refine Ok_call (g0 _ _) fun v => ?_ | refine Ok_call (g1 _) fun v => ?_ | refine Ok_call (g2 _) fun v => ?_ | refine Ok_call (g3 _) fun v => ?_ | refine Ok_call (g4 _ _) fun v => ?_) <;> simp only [SSA, RS, *, e_impl_SelText, e_laws_eqSel, e_laws_szSel, e_laws_toSel, e_spec_SelText, Nat.reduceAdd, Nat.reduceSub, Nat.reduceMul, Nat.reduceLeDiff, Nat.reduceLT, Nat.reduceEqDiff, Nat.reduceBEq, ↓reduceIte, reduceCtorEq])

end TT
