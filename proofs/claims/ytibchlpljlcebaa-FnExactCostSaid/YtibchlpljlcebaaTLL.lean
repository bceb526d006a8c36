import Derived.Test.YtibchlpljlcebaaTKK
import Derived.Test.YtibchlpljlcebaaTDefs
set_option linter.unusedVariables false
set_option linter.unusedSimpArgs false
set_option linter.defProp false
set_option maxRecDepth 100000
namespace TT
open Go
def e_laws_szPred (r : Int) : Res := ⟨[.t (.v (.int .i64 r))], []⟩
def c_laws_szPred : Cx := ⟨2, [0, 0], [.tmp 4]⟩
theorem laws_szPred_ok : ∀ (a : GPred) (left : Int), Ok (laws_szPred a left) e_laws_szPred (dn FTA n_laws_szPred [.agg ((GPred.row a).map .t), .t (.v (.int .i64 left))]) := by
  intro a left
  rw [den_ev FTA (fn := k_laws_szPred) rfl (cloneX_none rfl _) (Nat.le_of_ble_eq_true rfl)]
  simp only [SSA, RS, c_laws_szPred, k_laws_szPred, laws_szPred, Nat.reduceAdd, Nat.reduceSub, Nat.reduceMul, Nat.reduceLeDiff, Nat.reduceLT, Nat.reduceEqDiff, Nat.reduceBEq, ↓reduceIte, reduceCtorEq]
  repeat' first
    | with_reducible exact Ok_none
    | ((with_reducible refine Ok_ret ?_); first | rfl | (simp only [SSA, RS, e_laws_szPred, Nat.reduceAdd, Nat.reduceSub, Nat.reduceMul, Nat.reduceLeDiff, Nat.reduceLT, Nat.reduceEqDiff, Nat.reduceBEq, ↓reduceIte, reduceCtorEq]; done))
    | ((first | with_reducible refine Ok_if (fun h => ?_) (fun h => ?_)) <;> simp only [SSA, RS, *, Nat.reduceAdd, Nat.reduceSub, Nat.reduceMul, Nat.reduceLeDiff, Nat.reduceLT, Nat.reduceEqDiff, Nat.reduceBEq, ↓reduceIte, reduceCtorEq])

def e_laws_szPredS (r : Int) : Res := ⟨[.t (.v (.int .i64 r))], []⟩
def c_laws_szPredS : Cx := ⟨2, [0, 0], [.tmp 4]⟩
theorem laws_szPredS_l16_ok' (a : List GPred) : ∀ (left1 : Int) (i : Int), Ok (laws_szPredS_l16 a left1 i) e_laws_szPredS (ev FTA c_laws_szPredS (.loop k_laws_szPredS_l16) [.lv 0, .th k_laws_szPredS_r12] (putS (List.replicate 27 .dead) [(0, .t (.sl false (a.map GPred.row))), (1, .t (.v (.int .i64 left1))), (5, .t (.v (.int .i64 i)))]) (putR (List.replicate 27 []) [])) := by
  unfold Ok
  refine laws_szPredS_l16.partial_correctness a _ ?_
  intro F ih left1 i
  show Ok _ _ _
  have ih : ∀ (left1 : Int) (i : Int), Ok (F left1 i) _ _ := ih
  rw [ev_loop]
  have g0 := laws_szPred_ok; try simp only [SSA, RS, Nat.reduceAdd, Nat.reduceSub, Nat.reduceMul, Nat.reduceLeDiff, Nat.reduceLT, Nat.reduceEqDiff, Nat.reduceBEq, ↓reduceIte, reduceCtorEq] at g0
  simp only [SSA, RS, c_laws_szPredS, k_laws_szPredS_l16, k_laws_szPredS_r12, e_laws_szPred, Nat.reduceAdd, Nat.reduceSub, Nat.reduceMul, Nat.reduceLeDiff, Nat.reduceLT, Nat.reduceEqDiff, Nat.reduceBEq, ↓reduceIte, reduceCtorEq]
  repeat' first
    | with_reducible exact Ok_none
    | ((with_reducible refine Ok_ret ?_); first | rfl | (simp only [SSA, RS, e_laws_szPredS, Nat.reduceAdd, Nat.reduceSub, Nat.reduceMul, Nat.reduceLeDiff, Nat.reduceLT, Nat.reduceEqDiff, Nat.reduceBEq, ↓reduceIte, reduceCtorEq]; done))
    | ((with_reducible refine Ok_tail (ih _ _) ?_); first | rfl | (simp only [SSA, RS, c_laws_szPredS, Nat.reduceAdd, Nat.reduceSub, Nat.reduceMul, Nat.reduceLeDiff, Nat.reduceLT, Nat.reduceEqDiff, Nat.reduceBEq, ↓reduceIte, reduceCtorEq]; done) | (simp only [SSA, RS, c_laws_szPredS, Nat.reduceAdd, Nat.reduceSub, Nat.reduceMul, Nat.reduceLeDiff, Nat.reduceLT, Nat.reduceEqDiff, Nat.reduceBEq, ↓reduceIte, reduceCtorEq]; rfl))
    | ((first | with_reducible refine Ok_if (fun h => ?_) (fun h => ?_) | with_reducible refine Ok_get fun a h => ?_ | with_reducible refine Ok_call (g0 _ _) fun v => ?_ | refine Ok_call (g0 _ _) fun v => ?_) <;> simp only [SSA, RS, *, k_laws_szPredS_r12, e_laws_szPred, Nat.reduceAdd, Nat.reduceSub, Nat.reduceMul, Nat.reduceLeDiff, Nat.reduceLT, Nat.reduceEqDiff, Nat.reduceBEq, ↓reduceIte, reduceCtorEq])
theorem laws_szPredS_l16_ok (a : List GPred) (left1 : Int) (i : Int) : Ok (laws_szPredS_l16 a left1 i) e_laws_szPredS (ev FTA c_laws_szPredS (.loop k_laws_szPredS_l16) [.lv 0, .th k_laws_szPredS_r12] (putS (List.replicate 27 .dead) [(0, .t (.sl false (a.map GPred.row))), (1, .t (.v (.int .i64 left1))), (5, .t (.v (.int .i64 i)))]) (putR (List.replicate 27 []) [])) := laws_szPredS_l16_ok' a left1 i

theorem laws_szPredS_ok : ∀ (a : List GPred) (left : Int), Ok (laws_szPredS a left) e_laws_szPredS (dn FTA n_laws_szPredS [.t (.sl false (a.map GPred.row)), .t (.v (.int .i64 left))]) := by
  intro a left
  rw [den_ev FTA (fn := k_laws_szPredS) rfl (cloneX_none rfl _) (Nat.le_of_ble_eq_true rfl)]
  simp only [SSA, RS, c_laws_szPredS, k_laws_szPredS, laws_szPredS, Nat.reduceAdd, Nat.reduceSub, Nat.reduceMul, Nat.reduceLeDiff, Nat.reduceLT, Nat.reduceEqDiff, Nat.reduceBEq, ↓reduceIte, reduceCtorEq]
  repeat' first
    | with_reducible exact Ok_none
    | ((with_reducible refine Ok_ret ?_); first | rfl | (simp only [SSA, RS, e_laws_szPredS, Nat.reduceAdd, Nat.reduceSub, Nat.reduceMul, Nat.reduceLeDiff, Nat.reduceLT, Nat.reduceEqDiff, Nat.reduceBEq, ↓reduceIte, reduceCtorEq]; done))
    | ((with_reducible refine Ok_tail (laws_szPredS_l16_ok _ _ _) ?_); first | rfl | (simp only [SSA, RS, c_laws_szPredS, Nat.reduceAdd, Nat.reduceSub, Nat.reduceMul, Nat.reduceLeDiff, Nat.reduceLT, Nat.reduceEqDiff, Nat.reduceBEq, ↓reduceIte, reduceCtorEq]; done) | (simp only [SSA, RS, c_laws_szPredS, Nat.reduceAdd, Nat.reduceSub, Nat.reduceMul, Nat.reduceLeDiff, Nat.reduceLT, Nat.reduceEqDiff, Nat.reduceBEq, ↓reduceIte, reduceCtorEq]; rfl))
    | ((first | with_reducible refine Ok_if (fun h => ?_) (fun h => ?_)) <;> simp only [SSA, RS, *, Nat.reduceAdd, Nat.reduceSub, Nat.reduceMul, Nat.reduceLeDiff, Nat.reduceLT, Nat.reduceEqDiff, Nat.reduceBEq, ↓reduceIte, reduceCtorEq])

def e_laws_szStep (r : Int) : Res := ⟨[.t (.v (.int .i64 r))], []⟩
def c_laws_szStep : Cx := ⟨2, [0, 0], [.tmp 4]⟩
theorem laws_szStep_ok : ∀ (a : GStp) (left : Int), Ok (laws_szStep a left) e_laws_szStep (dn FTA n_laws_szStep [.agg (((GStp.row false) a).map .t), .t (.v (.int .i64 left))]) := by
  intro a left
  rw [den_ev FTA (fn := k_laws_szStep) rfl (cloneX_none rfl _) (Nat.le_of_ble_eq_true rfl)]
  have g0 := laws_szPredS_ok; try simp only [SSA, RS, Nat.reduceAdd, Nat.reduceSub, Nat.reduceMul, Nat.reduceLeDiff, Nat.reduceLT, Nat.reduceEqDiff, Nat.reduceBEq, ↓reduceIte, reduceCtorEq] at g0
  simp only [SSA, RS, c_laws_szStep, k_laws_szStep, laws_szStep, e_laws_szPredS, Nat.reduceAdd, Nat.reduceSub, Nat.reduceMul, Nat.reduceLeDiff, Nat.reduceLT, Nat.reduceEqDiff, Nat.reduceBEq, ↓reduceIte, reduceCtorEq]
  repeat' first
    | with_reducible exact Ok_none
    | ((with_reducible refine Ok_ret ?_); first | rfl | (simp only [SSA, RS, e_laws_szStep, Nat.reduceAdd, Nat.reduceSub, Nat.reduceMul, Nat.reduceLeDiff, Nat.reduceLT, Nat.reduceEqDiff, Nat.reduceBEq, ↓reduceIte, reduceCtorEq]; done))
    | ((first | with_reducible refine Ok_if (fun h => ?_) (fun h => ?_) | with_reducible refine Ok_call (g0 _ _) fun v => ?_ | refine Ok_call (g0 _ _) fun v => ?_) <;> simp only [SSA, RS, *, e_laws_szPredS, Nat.reduceAdd, Nat.reduceSub, Nat.reduceMul, Nat.reduceLeDiff, Nat.reduceLT, Nat.reduceEqDiff, Nat.reduceBEq, ↓reduceIte, reduceCtorEq])

def e_laws_szStepS (r : Int) : Res := ⟨[.t (.v (.int .i64 r))], []⟩
def c_laws_szStepS : Cx := ⟨2, [0, 0], [.tmp 4]⟩
theorem laws_szStepS_l16_ok' (a : List GStp) : ∀ (left1 : Int) (i : Int), Ok (laws_szStepS_l16 a left1 i) e_laws_szStepS (ev FTA c_laws_szStepS (.loop k_laws_szStepS_l16) [.lv 0, .th k_laws_szStepS_r12] (putS (List.replicate 27 .dead) [(0, .t (.sl false (a.map (GStp.row false)))), (1, .t (.v (.int .i64 left1))), (5, .t (.v (.int .i64 i)))]) (putR (List.replicate 27 []) [])) := by
  unfold Ok
  refine laws_szStepS_l16.partial_correctness a _ ?_
  intro F ih left1 i
  show Ok _ _ _
  have ih : ∀ (left1 : Int) (i : Int), Ok (F left1 i) _ _ := ih
  rw [ev_loop]
  have g0 := laws_szStep_ok; try simp only [SSA, RS, Nat.reduceAdd, Nat.reduceSub, Nat.reduceMul, Nat.reduceLeDiff, Nat.reduceLT, Nat.reduceEqDiff, Nat.reduceBEq, ↓reduceIte, reduceCtorEq] at g0
  simp only [SSA, RS, c_laws_szStepS, k_laws_szStepS_l16, k_laws_szStepS_r12, e_laws_szStep, Nat.reduceAdd, Nat.reduceSub, Nat.reduceMul, Nat.reduceLeDiff, Nat.reduceLT, Nat.reduceEqDiff, Nat.reduceBEq, ↓reduceIte, reduceCtorEq]
  repeat' first
    | with_reducible exact Ok_none
    | ((with_reducible refine Ok_ret ?_); first | rfl | (simp only [SSA, RS, e_laws_szStepS, Nat.reduceAdd, Nat.reduceSub, Nat.reduceMul, Nat.reduceLeDiff, Nat.reduceLT, Nat.reduceEqDiff, Nat.reduceBEq, ↓reduceIte, reduceCtorEq]; done))
    | ((with_reducible refine Ok_tail (ih _ _) ?_); first | rfl | (simp only [SSA, RS, c_laws_szStepS, Nat.reduceAdd, Nat.reduceSub, Nat.reduceMul, Nat.reduceLeDiff, Nat.reduceLT, Nat.reduceEqDiff, Nat.reduceBEq, ↓reduceIte, reduceCtorEq]; done) | (simp only [SSA, RS, c_laws_szStepS, Nat.reduceAdd, Nat.reduceSub, Nat.reduceMul, Nat.reduceLeDiff, Nat.reduceLT, Nat.reduceEqDiff, Nat.reduceBEq, ↓reduceIte, reduceCtorEq]; rfl))
    | ((first | with_reducible refine Ok_if (fun h => ?_) (fun h => ?_) | with_reducible refine Ok_get fun a h => ?_ | with_reducible refine Ok_call (g0 _ _) fun v => ?_ | refine Ok_call (g0 _ _) fun v => ?_) <;> simp only [SSA, RS, *, k_laws_szStepS_r12, e_laws_szStep, Nat.reduceAdd, Nat.reduceSub, Nat.reduceMul, Nat.reduceLeDiff, Nat.reduceLT, Nat.reduceEqDiff, Nat.reduceBEq, ↓reduceIte, reduceCtorEq])
theorem laws_szStepS_l16_ok (a : List GStp) (left1 : Int) (i : Int) : Ok (laws_szStepS_l16 a left1 i) e_laws_szStepS (ev FTA c_laws_szStepS (.loop k_laws_szStepS_l16) [.lv 0, .th k_laws_szStepS_r12] (putS (List.replicate 27 .dead) [(0, .t (.sl false (a.map (GStp.row false)))), (1, .t (.v (.int .i64 left1))), (5, .t (.v (.int .i64 i)))]) (putR (List.replicate 27 []) [])) := laws_szStepS_l16_ok' a left1 i

theorem laws_szStepS_ok : ∀ (a : List GStp) (left : Int), Ok (laws_szStepS a left) e_laws_szStepS (dn FTA n_laws_szStepS [.t (.sl false (a.map (GStp.row false))), .t (.v (.int .i64 left))]) := by
  intro a left
  rw [den_ev FTA (fn := k_laws_szStepS) rfl (cloneX_none rfl _) (Nat.le_of_ble_eq_true rfl)]
  simp only [SSA, RS, c_laws_szStepS, k_laws_szStepS, laws_szStepS, Nat.reduceAdd, Nat.reduceSub, Nat.reduceMul, Nat.reduceLeDiff, Nat.reduceLT, Nat.reduceEqDiff, Nat.reduceBEq, ↓reduceIte, reduceCtorEq]
  repeat' first
    | with_reducible exact Ok_none
    | ((with_reducible refine Ok_ret ?_); first | rfl | (simp only [SSA, RS, e_laws_szStepS, Nat.reduceAdd, Nat.reduceSub, Nat.reduceMul, Nat.reduceLeDiff, Nat.reduceLT, Nat.reduceEqDiff, Nat.reduceBEq, ↓reduceIte, reduceCtorEq]; done))
    | ((with_reducible refine Ok_tail (laws_szStepS_l16_ok _ _ _) ?_); first | rfl | (simp only [SSA, RS, c_laws_szStepS, Nat.reduceAdd, Nat.reduceSub, Nat.reduceMul, Nat.reduceLeDiff, Nat.reduceLT, Nat.reduceEqDiff, Nat.reduceBEq, ↓reduceIte, reduceCtorEq]; done) | (simp only [SSA, RS, c_laws_szStepS, Nat.reduceAdd, Nat.reduceSub, Nat.reduceMul, Nat.reduceLeDiff, Nat.reduceLT, Nat.reduceEqDiff, Nat.reduceBEq, ↓reduceIte, reduceCtorEq]; rfl))
    | ((first | with_reducible refine Ok_if (fun h => ?_) (fun h => ?_)) <;> simp only [SSA, RS, *, Nat.reduceAdd, Nat.reduceSub, Nat.reduceMul, Nat.reduceLeDiff, Nat.reduceLT, Nat.reduceEqDiff, Nat.reduceBEq, ↓reduceIte, reduceCtorEq])

def e_laws_szSel (r : Int) : Res := ⟨[.t (.v (.int .i64 r))], []⟩
def c_laws_szSel : Cx := ⟨2, [0, 0], [.tmp 4]⟩
theorem laws_szSel_ok : ∀ (a : GSel) (left : Int), Ok (laws_szSel a left) e_laws_szSel (dn FTA n_laws_szSel [.agg (((GSel.row false) a).map .t), .t (.v (.int .i64 left))]) := by
  intro a left
  rw [den_ev FTA (fn := k_laws_szSel) rfl (cloneX_none rfl _) (Nat.le_of_ble_eq_true rfl)]
  have g0 := laws_szStepS_ok; try simp only [SSA, RS, Nat.reduceAdd, Nat.reduceSub, Nat.reduceMul, Nat.reduceLeDiff, Nat.reduceLT, Nat.reduceEqDiff, Nat.reduceBEq, ↓reduceIte, reduceCtorEq] at g0
  simp only [SSA, RS, c_laws_szSel, k_laws_szSel, laws_szSel, e_laws_szStepS, Nat.reduceAdd, Nat.reduceSub, Nat.reduceMul, Nat.reduceLeDiff, Nat.reduceLT, Nat.reduceEqDiff, Nat.reduceBEq, ↓reduceIte, reduceCtorEq]
  repeat' first
    | with_reducible exact Ok_none
    | ((with_reducible refine Ok_ret ?_); first | rfl | (simp only [SSA, RS, e_laws_szSel, Nat.reduceAdd, Nat.reduceSub, Nat.reduceMul, Nat.reduceLeDiff, Nat.reduceLT, Nat.reduceEqDiff, Nat.reduceBEq, ↓reduceIte, reduceCtorEq]; done))
    | ((first | with_reducible refine Ok_if (fun h => ?_) (fun h => ?_) | with_reducible refine Ok_call (g0 _ _) fun v => ?_ | refine Ok_call (g0 _ _) fun v => ?_) <;> simp only [SSA, RS, *, e_laws_szStepS, Nat.reduceAdd, Nat.reduceSub, Nat.reduceMul, Nat.reduceLeDiff, Nat.reduceLT, Nat.reduceEqDiff, Nat.reduceBEq, ↓reduceIte, reduceCtorEq])

def e_laws_szDecl (r : Int) : Res := ⟨[.t (.v (.int .i64 r))], []⟩
def c_laws_szDecl : Cx := ⟨2, [0, 0], [.tmp 4]⟩
theorem laws_szDecl_ok : ∀ (a : GDecl) (left : Int), Ok (laws_szDecl a left) e_laws_szDecl (dn FTA n_laws_szDecl [.agg ((GDecl.row a).map .t), .t (.v (.int .i64 left))]) := by
  intro a left
  rw [den_ev FTA (fn := k_laws_szDecl) rfl (cloneX_none rfl _) (Nat.le_of_ble_eq_true rfl)]
  simp only [SSA, RS, c_laws_szDecl, k_laws_szDecl, laws_szDecl, Nat.reduceAdd, Nat.reduceSub, Nat.reduceMul, Nat.reduceLeDiff, Nat.reduceLT, Nat.reduceEqDiff, Nat.reduceBEq, ↓reduceIte, reduceCtorEq]
  repeat' first
    | with_reducible exact Ok_none
    | ((with_reducible refine Ok_ret ?_); first | rfl | (simp only [SSA, RS, e_laws_szDecl, Nat.reduceAdd, Nat.reduceSub, Nat.reduceMul, Nat.reduceLeDiff, Nat.reduceLT, Nat.reduceEqDiff, Nat.reduceBEq, ↓reduceIte, reduceCtorEq]; done))
    | ((first | with_reducible refine Ok_if (fun h => ?_) (fun h => ?_)) <;> simp only [SSA, RS, *, Nat.reduceAdd, Nat.reduceSub, Nat.reduceMul, Nat.reduceLeDiff, Nat.reduceLT, Nat.reduceEqDiff, Nat.reduceBEq, ↓reduceIte, reduceCtorEq])

def e_laws_szDeclS (r : Int) : Res := ⟨[.t (.v (.int .i64 r))], []⟩
def c_laws_szDeclS : Cx := ⟨2, [0, 0], [.tmp 4]⟩
theorem laws_szDeclS_l16_ok' (a : List GDecl) : ∀ (left1 : Int) (i : Int), Ok (laws_szDeclS_l16 a left1 i) e_laws_szDeclS (ev FTA c_laws_szDeclS (.loop k_laws_szDeclS_l16) [.lv 0, .th k_laws_szDeclS_r12] (putS (List.replicate 27 .dead) [(0, .t (.sl false (a.map GDecl.row))), (1, .t (.v (.int .i64 left1))), (5, .t (.v (.int .i64 i)))]) (putR (List.replicate 27 []) [])) := by
  unfold Ok
  refine laws_szDeclS_l16.partial_correctness a _ ?_
  intro F ih left1 i
  show Ok _ _ _
  have ih : ∀ (left1 : Int) (i : Int), Ok (F left1 i) _ _ := ih
  rw [ev_loop]
  have g0 := laws_szDecl_ok; try simp only [SSA, RS, Nat.reduceAdd, Nat.reduceSub, Nat.reduceMul, Nat.reduceLeDiff, Nat.reduceLT, Nat.reduceEqDiff, Nat.reduceBEq, ↓reduceIte, reduceCtorEq] at g0
  simp only [SSA, RS, c_laws_szDeclS, k_laws_szDeclS_l16, k_laws_szDeclS_r12, e_laws_szDecl, Nat.reduceAdd, Nat.reduceSub, Nat.reduceMul, Nat.reduceLeDiff, Nat.reduceLT, Nat.reduceEqDiff, Nat.reduceBEq, ↓reduceIte, reduceCtorEq]
  repeat' first
    | with_reducible exact Ok_none
    | ((with_reducible refine Ok_ret ?_); first | rfl | (simp only [SSA, RS, e_laws_szDeclS, Nat.reduceAdd, Nat.reduceSub, Nat.reduceMul, Nat.reduceLeDiff, Nat.reduceLT, Nat.reduceEqDiff, Nat.reduceBEq, ↓reduceIte, reduceCtorEq]; done))
    | ((with_reducible refine Ok_tail (ih _ _) ?_); first | rfl | (simp only [SSA, RS, c_laws_szDeclS, Nat.reduceAdd, Nat.reduceSub, Nat.reduceMul, Nat.reduceLeDiff, Nat.reduceLT, Nat.reduceEqDiff, Nat.reduceBEq, ↓reduceIte, reduceCtorEq]; done) | (simp only [SSA, RS, c_laws_szDeclS, Nat.reduceAdd, Nat.reduceSub, Nat.reduceMul, Nat.reduceLeDiff, Nat.reduceLT, Nat.reduceEqDiff, Nat.reduceBEq, ↓reduceIte, reduceCtorEq]; rfl))
    | ((first | with_reducible refine Ok_if (fun h => ?_) (fun h => ?_) | with_reducible refine Ok_get fun a h => ?_ | with_reducible refine Ok_call (g0 _ _) fun v => ?_ | refine Ok_call (g0 _ _) fun v => ?_) <;> simp only [SSA, RS, *, k_laws_szDeclS_r12, e_laws_szDecl, Nat.reduceAdd, Nat.reduceSub, Nat.reduceMul, Nat.reduceLeDiff, Nat.reduceLT, Nat.reduceEqDiff, Nat.reduceBEq, ↓reduceIte, reduceCtorEq])
theorem laws_szDeclS_l16_ok (a : List GDecl) (left1 : Int) (i : Int) : Ok (laws_szDeclS_l16 a left1 i) e_laws_szDeclS (ev FTA c_laws_szDeclS (.loop k_laws_szDeclS_l16) [.lv 0, .th k_laws_szDeclS_r12] (putS (List.replicate 27 .dead) [(0, .t (.sl false (a.map GDecl.row))), (1, .t (.v (.int .i64 left1))), (5, .t (.v (.int .i64 i)))]) (putR (List.replicate 27 []) [])) := laws_szDeclS_l16_ok' a left1 i

theorem laws_szDeclS_ok : ∀ (a : List GDecl) (left : Int), Ok (laws_szDeclS a left) e_laws_szDeclS (dn FTA n_laws_szDeclS [.t (.sl false (a.map GDecl.row)), .t (.v (.int .i64 left))]) := by
  intro a left
  rw [den_ev FTA (fn := k_laws_szDeclS) rfl (cloneX_none rfl _) (Nat.le_of_ble_eq_true rfl)]
  simp only [SSA, RS, c_laws_szDeclS, k_laws_szDeclS, laws_szDeclS, Nat.reduceAdd, Nat.reduceSub, Nat.reduceMul, Nat.reduceLeDiff, Nat.reduceLT, Nat.reduceEqDiff, Nat.reduceBEq, ↓reduceIte, reduceCtorEq]
  repeat' first
    | with_reducible exact Ok_none
    | ((with_reducible refine Ok_ret ?_); first | rfl | (simp only [SSA, RS, e_laws_szDeclS, Nat.reduceAdd, Nat.reduceSub, Nat.reduceMul, Nat.reduceLeDiff, Nat.reduceLT, Nat.reduceEqDiff, Nat.reduceBEq, ↓reduceIte, reduceCtorEq]; done))
    | ((with_reducible refine Ok_tail (laws_szDeclS_l16_ok _ _ _) ?_); first | rfl | (simp only [SSA, RS, c_laws_szDeclS, Nat.reduceAdd, Nat.reduceSub, Nat.reduceMul, Nat.reduceLeDiff, Nat.reduceLT, Nat.reduceEqDiff, Nat.reduceBEq, ↓reduceIte, reduceCtorEq]; done) | (simp only [SSA, RS, c_laws_szDeclS, Nat.reduceAdd, Nat.reduceSub, Nat.reduceMul, Nat.reduceLeDiff, Nat.reduceLT, Nat.reduceEqDiff, Nat.reduceBEq, ↓reduceIte, reduceCtorEq]; rfl))
    | ((first | with_reducible refine Ok_if (fun h => ?_) (fun h => ?_)) <;> simp only [SSA, RS, *, Nat.reduceAdd, Nat.reduceSub, Nat.reduceMul, Nat.reduceLeDiff, Nat.reduceLT, Nat.reduceEqDiff, Nat.reduceBEq, ↓reduceIte, reduceCtorEq])

def e_laws_szAttr (r : Int) : Res := ⟨[.t (.v (.int .i64 r))], []⟩
def c_laws_szAttr : Cx := ⟨2, [0, 0], [.tmp 4]⟩
theorem laws_szAttr_ok : ∀ (a : GAttr) (left : Int), Ok (laws_szAttr a left) e_laws_szAttr (dn FTA n_laws_szAttr [.agg ((GAttr.row a).map .t), .t (.v (.int .i64 left))]) := by
  intro a left
  rw [den_ev FTA (fn := k_laws_szAttr) rfl (cloneX_none rfl _) (Nat.le_of_ble_eq_true rfl)]
  simp only [SSA, RS, c_laws_szAttr, k_laws_szAttr, laws_szAttr, Nat.reduceAdd, Nat.reduceSub, Nat.reduceMul, Nat.reduceLeDiff, Nat.reduceLT, Nat.reduceEqDiff, Nat.reduceBEq, ↓reduceIte, reduceCtorEq]
  repeat' first
    | with_reducible exact Ok_none
    | ((with_reducible refine Ok_ret ?_); first | rfl | (simp only [SSA, RS, e_laws_szAttr, Nat.reduceAdd, Nat.reduceSub, Nat.reduceMul, Nat.reduceLeDiff, Nat.reduceLT, Nat.reduceEqDiff, Nat.reduceBEq, ↓reduceIte, reduceCtorEq]; done))
    | ((first | with_reducible refine Ok_if (fun h => ?_) (fun h => ?_)) <;> simp only [SSA, RS, *, Nat.reduceAdd, Nat.reduceSub, Nat.reduceMul, Nat.reduceLeDiff, Nat.reduceLT, Nat.reduceEqDiff, Nat.reduceBEq, ↓reduceIte, reduceCtorEq])

def e_laws_szAttrS (r : Int) : Res := ⟨[.t (.v (.int .i64 r))], []⟩
def c_laws_szAttrS : Cx := ⟨2, [0, 0], [.tmp 4]⟩
theorem laws_szAttrS_l16_ok' (a : List GAttr) : ∀ (left1 : Int) (i : Int), Ok (laws_szAttrS_l16 a left1 i) e_laws_szAttrS (ev FTA c_laws_szAttrS (.loop k_laws_szAttrS_l16) [.lv 0, .th k_laws_szAttrS_r12] (putS (List.replicate 27 .dead) [(0, .t (.sl false (a.map GAttr.row))), (1, .t (.v (.int .i64 left1))), (5, .t (.v (.int .i64 i)))]) (putR (List.replicate 27 []) [])) := by
  unfold Ok
  refine laws_szAttrS_l16.partial_correctness a _ ?_
  intro F ih left1 i
  show Ok _ _ _
  have ih : ∀ (left1 : Int) (i : Int), Ok (F left1 i) _ _ := ih
  rw [ev_loop]
  have g0 := laws_szAttr_ok; try simp only [SSA, RS, Nat.reduceAdd, Nat.reduceSub, Nat.reduceMul, Nat.reduceLeDiff, Nat.reduceLT, Nat.reduceEqDiff, Nat.reduceBEq, ↓reduceIte, reduceCtorEq] at g0
  simp only [SSA, RS, c_laws_szAttrS, k_laws_szAttrS_l16, k_laws_szAttrS_r12, e_laws_szAttr, Nat.reduceAdd, Nat.reduceSub, Nat.reduceMul, Nat.reduceLeDiff, Nat.reduceLT, Nat.reduceEqDiff, Nat.reduceBEq, ↓reduceIte, reduceCtorEq]
  repeat' first
    | with_reducible exact Ok_none
    | ((with_reducible refine Ok_ret ?_); first | rfl | (simp only [SSA, RS, e_laws_szAttrS, Nat.reduceAdd, Nat.reduceSub, Nat.reduceMul, Nat.reduceLeDiff, Nat.reduceLT, Nat.reduceEqDiff, Nat.reduceBEq, ↓reduceIte, reduceCtorEq]; done))
    | ((with_reducible refine Ok_tail (ih _ _) ?_); first | rfl | (simp only [SSA, RS, c_laws_szAttrS, Nat.reduceAdd, Nat.reduceSub, Nat.reduceMul, Nat.reduceLeDiff, Nat.reduceLT, Nat.reduceEqDiff, Nat.reduceBEq, ↓reduceIte, reduceCtorEq]; done) | (simp only [SSA, RS, c_laws_szAttrS, Nat.reduceAdd, Nat.reduceSub, Nat.reduceMul, Nat.reduceLeDiff, Nat.reduceLT, Nat.reduceEqDiff, Nat.reduceBEq, ↓reduceIte, reduceCtorEq]; rfl))
    | ((first | with_reducible refine Ok_if (fun h => ?_) (fun h => ?_) | with_reducible refine Ok_get fun a h => ?_ | with_reducible refine Ok_call (g0 _ _) fun v => ?_ | refine Ok_call (g0 _ _) fun v => ?_) <;> simp only [SSA, RS, *, k_laws_szAttrS_r12, e_laws_szAttr, Nat.reduceAdd, Nat.reduceSub, Nat.reduceMul, Nat.reduceLeDiff, Nat.reduceLT, Nat.reduceEqDiff, Nat.reduceBEq, ↓reduceIte, reduceCtorEq])
theorem laws_szAttrS_l16_ok (a : List GAttr) (left1 : Int) (i : Int) : Ok (laws_szAttrS_l16 a left1 i) e_laws_szAttrS (ev FTA c_laws_szAttrS (.loop k_laws_szAttrS_l16) [.lv 0, .th k_laws_szAttrS_r12] (putS (List.replicate 27 .dead) [(0, .t (.sl false (a.map GAttr.row))), (1, .t (.v (.int .i64 left1))), (5, .t (.v (.int .i64 i)))]) (putR (List.replicate 27 []) [])) := laws_szAttrS_l16_ok' a left1 i

theorem laws_szAttrS_ok : ∀ (a : List GAttr) (left : Int), Ok (laws_szAttrS a left) e_laws_szAttrS (dn FTA n_laws_szAttrS [.t (.sl false (a.map GAttr.row)), .t (.v (.int .i64 left))]) := by
  intro a left
  rw [den_ev FTA (fn := k_laws_szAttrS) rfl (cloneX_none rfl _) (Nat.le_of_ble_eq_true rfl)]
  simp only [SSA, RS, c_laws_szAttrS, k_laws_szAttrS, laws_szAttrS, Nat.reduceAdd, Nat.reduceSub, Nat.reduceMul, Nat.reduceLeDiff, Nat.reduceLT, Nat.reduceEqDiff, Nat.reduceBEq, ↓reduceIte, reduceCtorEq]
  repeat' first
    | with_reducible exact Ok_none
    | ((with_reducible refine Ok_ret ?_); first | rfl | (simp only [SSA, RS, e_laws_szAttrS, Nat.reduceAdd, Nat.reduceSub, Nat.reduceMul, Nat.reduceLeDiff, Nat.reduceLT, Nat.reduceEqDiff, Nat.reduceBEq, ↓reduceIte, reduceCtorEq]; done))
    | ((with_reducible refine Ok_tail (laws_szAttrS_l16_ok _ _ _) ?_); first | rfl | (simp only [SSA, RS, c_laws_szAttrS, Nat.reduceAdd, Nat.reduceSub, Nat.reduceMul, Nat.reduceLeDiff, Nat.reduceLT, Nat.reduceEqDiff, Nat.reduceBEq, ↓reduceIte, reduceCtorEq]; done) | (simp only [SSA, RS, c_laws_szAttrS, Nat.reduceAdd, Nat.reduceSub, Nat.reduceMul, Nat.reduceLeDiff, Nat.reduceLT, Nat.reduceEqDiff, Nat.reduceBEq, ↓reduceIte, reduceCtorEq]; rfl))
    | ((first | with_reducible refine Ok_if (fun h => ?_) (fun h => ?_)) <;> simp only [SSA, RS, *, Nat.reduceAdd, Nat.reduceSub, Nat.reduceMul, Nat.reduceLeDiff, Nat.reduceLT, Nat.reduceEqDiff, Nat.reduceBEq, ↓reduceIte, reduceCtorEq])

def e_laws_szNode (r : Int) : Res := ⟨[.t (.v (.int .i64 r))], []⟩
def c_laws_szNode : Cx := ⟨2, [0, 0], [.tmp 4]⟩
def e_laws_szNodeS (r : Int) : Res := ⟨[.t (.v (.int .i64 r))], []⟩
def c_laws_szNodeS : Cx := ⟨2, [0, 0], [.tmp 4]⟩
theorem G_laws_szNode : (∀ (a : GNode) (left : Int), Ok (laws_szNode a left) e_laws_szNode (dn FTA n_laws_szNode [.agg (((GNode.row false) a).map .t), .t (.v (.int .i64 left))])) ∧
    (∀ (a : List GNode) (left : Int), Ok (laws_szNodeS a left) e_laws_szNodeS (dn FTA n_laws_szNodeS [.t (.sl false (a.map (GNode.row false))), .t (.v (.int .i64 left))])) ∧
    (∀ (a : List GNode) (left1 : Int) (i : Int), Ok (laws_szNodeS_l16 a left1 i) e_laws_szNodeS (ev FTA c_laws_szNodeS (.loop k_laws_szNodeS_l16) [.lv 0, .th k_laws_szNodeS_r12] (putS (List.replicate 27 .dead) [(0, .t (.sl false (a.map (GNode.row false)))), (1, .t (.v (.int .i64 left1))), (5, .t (.v (.int .i64 i)))]) (putR (List.replicate 27 []) []))) := by
  unfold Ok
  refine laws_szNode.mutual_partial_correctness _ _ _ ?_ ?_ ?_ 
  · intro F1 ih1 a left
    show Ok _ _ _
    have ih1 : ∀ (a : List GNode) (left : Int), Ok (F1 a left) _ _ := ih1
    rw [den_ev FTA (fn := k_laws_szNode) rfl (cloneX_none rfl _) (Nat.le_of_ble_eq_true rfl)]
    have g0 := laws_szDeclS_ok; try simp only [SSA, RS, Nat.reduceAdd, Nat.reduceSub, Nat.reduceMul, Nat.reduceLeDiff, Nat.reduceLT, Nat.reduceEqDiff, Nat.reduceBEq, ↓reduceIte, reduceCtorEq] at g0
    have g1 := laws_szAttrS_ok; try simp only [SSA, RS, Nat.reduceAdd, Nat.reduceSub, Nat.reduceMul, Nat.reduceLeDiff, Nat.reduceLT, Nat.reduceEqDiff, Nat.reduceBEq, ↓reduceIte, reduceCtorEq] at g1
    have g2 := ih1; try simp only [SSA, RS, Nat.reduceAdd, Nat.reduceSub, Nat.reduceMul, Nat.reduceLeDiff, Nat.reduceLT, Nat.reduceEqDiff, Nat.reduceBEq, ↓reduceIte, reduceCtorEq] at g2
    simp only [SSA, RS, c_laws_szNode, k_laws_szNode, e_laws_szAttrS, e_laws_szDeclS, e_laws_szNodeS, Nat.reduceAdd, Nat.reduceSub, Nat.reduceMul, Nat.reduceLeDiff, Nat.reduceLT, Nat.reduceEqDiff, Nat.reduceBEq, ↓reduceIte, reduceCtorEq]
    repeat' first
      | with_reducible exact Ok_none
      | ((with_reducible refine Ok_ret ?_); first | rfl | (simp only [SSA, RS, e_laws_szNode, Nat.reduceAdd, Nat.reduceSub, Nat.reduceMul, Nat.reduceLeDiff, Nat.reduceLT, Nat.reduceEqDiff, Nat.reduceBEq, ↓reduceIte, reduceCtorEq]; done))
      | ((first | with_reducible refine Ok_if (fun h => ?_) (fun h => ?_) | with_reducible refine Ok_call (g0 _ _) fun v => ?_ | with_reducible refine Ok_call (g1 _ _) fun v => ?_ | with_reducible refine Ok_call (g2 _ _) fun v => ?_ | refine Ok_call (g0 _ _) fun v => ?_ | refine Ok_call (g1 _ _) fun v => ?_ | refine Ok_call (g2 _ _) fun v => ?_) <;> simp only [SSA, RS, *, e_laws_szAttrS, e_laws_szDeclS, e_laws_szNodeS, Nat.reduceAdd, Nat.reduceSub, Nat.reduceMul, Nat.reduceLeDiff, Nat.reduceLT, Nat.reduceEqDiff, Nat.reduceBEq, ↓reduceIte, reduceCtorEq])
  · intro F2 ih2 a left
    show Ok _ _ _
    have ih2 : ∀ (a : List GNode) (left1 : Int) (i : Int), Ok (F2 a left1 i) _ _ := ih2
    rw [den_ev FTA (fn := k_laws_szNodeS) rfl (cloneX_none rfl _) (Nat.le_of_ble_eq_true rfl)]
    simp only [SSA, RS, c_laws_szNodeS, k_laws_szNodeS, Nat.reduceAdd, Nat.reduceSub, Nat.reduceMul, Nat.reduceLeDiff, Nat.reduceLT, Nat.reduceEqDiff, Nat.reduceBEq, ↓reduceIte, reduceCtorEq]
    repeat' first
      | with_reducible exact Ok_none
      | ((with_reducible refine Ok_ret ?_); first | rfl | (simp only [SSA, RS, e_laws_szNodeS, Nat.reduceAdd, Nat.reduceSub, Nat.reduceMul, Nat.reduceLeDiff, Nat.reduceLT, Nat.reduceEqDiff, Nat.reduceBEq, ↓reduceIte, reduceCtorEq]; done))
      | ((with_reducible refine Ok_tail (ih2 _ _ _) ?_); first | rfl | (simp only [SSA, RS, c_laws_szNodeS, Nat.reduceAdd, Nat.reduceSub, Nat.reduceMul, Nat.reduceLeDiff, Nat.reduceLT, Nat.reduceEqDiff, Nat.reduceBEq, ↓reduceIte, reduceCtorEq]; done) | (simp only [SSA, RS, c_laws_szNodeS, Nat.reduceAdd, Nat.reduceSub, Nat.reduceMul, Nat.reduceLeDiff, Nat.reduceLT, Nat.reduceEqDiff, Nat.reduceBEq, ↓reduceIte, reduceCtorEq]; rfl))
      | ((first | with_reducible refine Ok_if (fun h => ?_) (fun h => ?_)) <;> simp only [SSA, RS, *, Nat.reduceAdd, Nat.reduceSub, Nat.reduceMul, Nat.reduceLeDiff, Nat.reduceLT, Nat.reduceEqDiff, Nat.reduceBEq, ↓reduceIte, reduceCtorEq])
  · intro F0 F2 ih0 ih2 a left1 i
    show Ok _ _ _
    have ih0 : ∀ (a : GNode) (left : Int), Ok (F0 a left) _ _ := ih0
    have ih2 : ∀ (a : List GNode) (left1 : Int) (i : Int), Ok (F2 a left1 i) _ _ := ih2
    rw [ev_loop]
    have g0 := ih0; try simp only [SSA, RS, Nat.reduceAdd, Nat.reduceSub, Nat.reduceMul, Nat.reduceLeDiff, Nat.reduceLT, Nat.reduceEqDiff, Nat.reduceBEq, ↓reduceIte, reduceCtorEq] at g0
    simp only [SSA, RS, c_laws_szNodeS, k_laws_szNodeS_l16, k_laws_szNodeS_r12, e_laws_szNode, Nat.reduceAdd, Nat.reduceSub, Nat.reduceMul, Nat.reduceLeDiff, Nat.reduceLT, Nat.reduceEqDiff, Nat.reduceBEq, ↓reduceIte, reduceCtorEq]
    repeat' first
      | with_reducible exact Ok_none
      | ((with_reducible refine Ok_ret ?_); first | rfl | (simp only [SSA, RS, e_laws_szNodeS, Nat.reduceAdd, Nat.reduceSub, Nat.reduceMul, Nat.reduceLeDiff, Nat.reduceLT, Nat.reduceEqDiff, Nat.reduceBEq, ↓reduceIte, reduceCtorEq]; done))
      | ((with_reducible refine Ok_tail (ih2 _ _ _) ?_); first | rfl | (simp only [SSA, RS, c_laws_szNodeS, Nat.reduceAdd, Nat.reduceSub, Nat.reduceMul, Nat.reduceLeDiff, Nat.reduceLT, Nat.reduceEqDiff, Nat.reduceBEq, ↓reduceIte, reduceCtorEq]; done) | (simp only [SSA, RS, c_laws_szNodeS, Nat.reduceAdd, Nat.reduceSub, Nat.reduceMul, Nat.reduceLeDiff, Nat.reduceLT, Nat.reduceEqDiff, Nat.reduceBEq, ↓reduceIte, reduceCtorEq]; rfl))
      | ((first | with_reducible refine Ok_if (fun h => ?_) (fun h => ?_) | with_reducible refine Ok_get fun a h => ?_ | with_reducible refine Ok_call (g0 _ _) fun v => ?_ | refine Ok_call (g0 _ _) fun v => ?_) <;> simp only [SSA, RS, *, k_laws_szNodeS_r12, e_laws_szNode, Nat.reduceAdd, Nat.reduceSub, Nat.reduceMul, Nat.reduceLeDiff, Nat.reduceLT, Nat.reduceEqDiff, Nat.reduceBEq, ↓reduceIte, reduceCtorEq])
theorem laws_szNode_ok (a : GNode) (left : Int) : Ok (laws_szNode a left) e_laws_szNode (dn FTA n_laws_szNode [.agg (((GNode.row false) a).map .t), .t (.v (.int .i64 left))]) := G_laws_szNode.1 a left
theorem laws_szNodeS_ok (a : List GNode) (left : Int) : Ok (laws_szNodeS a left) e_laws_szNodeS (dn FTA n_laws_szNodeS [.t (.sl false (a.map (GNode.row false))), .t (.v (.int .i64 left))]) := G_laws_szNode.2.1 a left
theorem laws_szNodeS_l16_ok (a : List GNode) (left1 : Int) (i : Int) : Ok (laws_szNodeS_l16 a left1 i) e_laws_szNodeS (ev FTA c_laws_szNodeS (.loop k_laws_szNodeS_l16) [.lv 0, .th k_laws_szNodeS_r12] (putS (List.replicate 27 .dead) [(0, .t (.sl false (a.map (GNode.row false)))), (1, .t (.v (.int .i64 left1))), (5, .t (.v (.int .i64 i)))]) (putR (List.replicate 27 []) [])) := G_laws_szNode.2.2 a left1 i

def e_laws_szOp (r : Int) : Res := ⟨[.t (.v (.int .i64 r))], []⟩
def c_laws_szOp : Cx := ⟨2, [0, 0], [.tmp 4]⟩
theorem laws_szOp_ok : ∀ (a : GOp) (left : Int), Ok (laws_szOp a left) e_laws_szOp (dn FTA n_laws_szOp [.agg (((GOp.row false) a).map .t), .t (.v (.int .i64 left))]) := by
  intro a left
  rw [den_ev FTA (fn := k_laws_szOp) rfl (cloneX_none rfl _) (Nat.le_of_ble_eq_true rfl)]
  have g0 := laws_szSel_ok; try simp only [SSA, RS, Nat.reduceAdd, Nat.reduceSub, Nat.reduceMul, Nat.reduceLeDiff, Nat.reduceLT, Nat.reduceEqDiff, Nat.reduceBEq, ↓reduceIte, reduceCtorEq] at g0
  have g1 := laws_szNodeS_ok; try simp only [SSA, RS, Nat.reduceAdd, Nat.reduceSub, Nat.reduceMul, Nat.reduceLeDiff, Nat.reduceLT, Nat.reduceEqDiff, Nat.reduceBEq, ↓reduceIte, reduceCtorEq] at g1
  have g2 := laws_szDeclS_ok; try simp only [SSA, RS, Nat.reduceAdd, Nat.reduceSub, Nat.reduceMul, Nat.reduceLeDiff, Nat.reduceLT, Nat.reduceEqDiff, Nat.reduceBEq, ↓reduceIte, reduceCtorEq] at g2
  simp only [SSA, RS, c_laws_szOp, k_laws_szOp, laws_szOp, e_laws_szDeclS, e_laws_szNodeS, e_laws_szSel, Nat.reduceAdd, Nat.reduceSub, Nat.reduceMul, Nat.reduceLeDiff, Nat.reduceLT, Nat.reduceEqDiff, Nat.reduceBEq, ↓reduceIte, reduceCtorEq]
  repeat' first
    | with_reducible exact Ok_none
    | ((with_reducible refine Ok_ret ?_); first | rfl | (simp only [SSA, RS, e_laws_szOp, Nat.reduceAdd, Nat.reduceSub, Nat.reduceMul, Nat.reduceLeDiff, Nat.reduceLT, Nat.reduceEqDiff, Nat.reduceBEq, ↓reduceIte, reduceCtorEq]; done))
    | ((first | with_reducible refine Ok_if (fun h => ?_) (fun h => ?_) | with_reducible refine Ok_call (g0 _ _) fun v => ?_ | with_reducible refine Ok_call (g1 _ _) fun v => ?_ | with_reducible refine Ok_call (g2 _ _) fun v => ?_ | refine Ok_call (g0 _ _) fun v => ?_ | refine Ok_call (g1 _ _) fun v => ?_ | refine Ok_call (g2 _ _) fun v => ?_) <;> simp only [SSA, RS, *, e_laws_szDeclS, e_laws_szNodeS, e_laws_szSel, Nat.reduceAdd, Nat.reduceSub, Nat.reduceMul, Nat.reduceLeDiff, Nat.reduceLT, Nat.reduceEqDiff, Nat.reduceBEq, ↓reduceIte, reduceCtorEq])

def e_laws_szOpS (r : Int) : Res := ⟨[.t (.v (.int .i64 r))], []⟩
def c_laws_szOpS : Cx := ⟨2, [0, 0], [.tmp 4]⟩
theorem laws_szOpS_l16_ok' (a : List GOp) : ∀ (left1 : Int) (i : Int), Ok (laws_szOpS_l16 a left1 i) e_laws_szOpS (ev FTA c_laws_szOpS (.loop k_laws_szOpS_l16) [.lv 0, .th k_laws_szOpS_r12] (putS (List.replicate 27 .dead) [(0, .t (.sl false (a.map (GOp.row false)))), (1, .t (.v (.int .i64 left1))), (5, .t (.v (.int .i64 i)))]) (putR (List.replicate 27 []) [])) := by
  unfold Ok
  refine laws_szOpS_l16.partial_correctness a _ ?_
  intro F ih left1 i
  show Ok _ _ _
  have ih : ∀ (left1 : Int) (i : Int), Ok (F left1 i) _ _ := ih
  rw [ev_loop]
  have g0 := laws_szOp_ok; try simp only [SSA, RS, Nat.reduceAdd, Nat.reduceSub, Nat.reduceMul, Nat.reduceLeDiff, Nat.reduceLT, Nat.reduceEqDiff, Nat.reduceBEq, ↓reduceIte, reduceCtorEq] at g0
  simp only [SSA, RS, c_laws_szOpS, k_laws_szOpS_l16, k_laws_szOpS_r12, e_laws_szOp, Nat.reduceAdd, Nat.reduceSub, Nat.reduceMul, Nat.reduceLeDiff, Nat.reduceLT, Nat.reduceEqDiff, Nat.reduceBEq, ↓reduceIte, reduceCtorEq]
  repeat' first
    | with_reducible exact Ok_none
    | ((with_reducible refine Ok_ret ?_); first | rfl | (simp only [SSA, RS, e_laws_szOpS, Nat.reduceAdd, Nat.reduceSub, Nat.reduceMul, Nat.reduceLeDiff, Nat.reduceLT, Nat.reduceEqDiff, Nat.reduceBEq, ↓reduceIte, reduceCtorEq]; done))
    | ((with_reducible refine Ok_tail (ih _ _) ?_); first | rfl | (simp only [SSA, RS, c_laws_szOpS, Nat.reduceAdd, Nat.reduceSub, Nat.reduceMul, Nat.reduceLeDiff, Nat.reduceLT, Nat.reduceEqDiff, Nat.reduceBEq, ↓reduceIte, reduceCtorEq]; done) | (simp only [SSA, RS, c_laws_szOpS, Nat.reduceAdd, Nat.reduceSub, Nat.reduceMul, Nat.reduceLeDiff, Nat.reduceLT, Nat.reduceEqDiff, Nat.reduceBEq, ↓reduceIte, reduceCtorEq]; rfl))
    | ((first | with_reducible refine Ok_if (fun h => ?_) (fun h => ?_) | with_reducible refine Ok_get fun a h => ?_ | with_reducible refine Ok_call (g0 _ _) fun v => ?_ | refine Ok_call (g0 _ _) fun v => ?_) <;> simp only [SSA, RS, *, k_laws_szOpS_r12, e_laws_szOp, Nat.reduceAdd, Nat.reduceSub, Nat.reduceMul, Nat.reduceLeDiff, Nat.reduceLT, Nat.reduceEqDiff, Nat.reduceBEq, ↓reduceIte, reduceCtorEq])
theorem laws_szOpS_l16_ok (a : List GOp) (left1 : Int) (i : Int) : Ok (laws_szOpS_l16 a left1 i) e_laws_szOpS (ev FTA c_laws_szOpS (.loop k_laws_szOpS_l16) [.lv 0, .th k_laws_szOpS_r12] (putS (List.replicate 27 .dead) [(0, .t (.sl false (a.map (GOp.row false)))), (1, .t (.v (.int .i64 left1))), (5, .t (.v (.int .i64 i)))]) (putR (List.replicate 27 []) [])) := laws_szOpS_l16_ok' a left1 i

theorem laws_szOpS_ok : ∀ (a : List GOp) (left : Int), Ok (laws_szOpS a left) e_laws_szOpS (dn FTA n_laws_szOpS [.t (.sl false (a.map (GOp.row false))), .t (.v (.int .i64 left))]) := by
  intro a left
  rw [den_ev FTA (fn := k_laws_szOpS) rfl (cloneX_none rfl _) (Nat.le_of_ble_eq_true rfl)]
  simp only [SSA, RS, c_laws_szOpS, k_laws_szOpS, laws_szOpS, Nat.reduceAdd, Nat.reduceSub, Nat.reduceMul, Nat.reduceLeDiff, Nat.reduceLT, Nat.reduceEqDiff, Nat.reduceBEq, ↓reduceIte, reduceCtorEq]
  repeat' first
    | with_reducible exact Ok_none
    | ((with_reducible refine Ok_ret ?_); first | rfl | (simp only [SSA, RS, e_laws_szOpS, Nat.reduceAdd, Nat.reduceSub, Nat.reduceMul, Nat.reduceLeDiff, Nat.reduceLT, Nat.reduceEqDiff, Nat.reduceBEq, ↓reduceIte, reduceCtorEq]; done))
    | ((with_reducible refine Ok_tail (laws_szOpS_l16_ok _ _ _) ?_); first | rfl | (simp only [SSA, RS, c_laws_szOpS, Nat.reduceAdd, Nat.reduceSub, Nat.reduceMul, Nat.reduceLeDiff, Nat.reduceLT, Nat.reduceEqDiff, Nat.reduceBEq, ↓reduceIte, reduceCtorEq]; done) | (simp only [SSA, RS, c_laws_szOpS, Nat.reduceAdd, Nat.reduceSub, Nat.reduceMul, Nat.reduceLeDiff, Nat.reduceLT, Nat.reduceEqDiff, Nat.reduceBEq, ↓reduceIte, reduceCtorEq]; rfl))
    | ((first | with_reducible refine Ok_if (fun h => ?_) (fun h => ?_)) <;> simp only [SSA, RS, *, Nat.reduceAdd, Nat.reduceSub, Nat.reduceMul, Nat.reduceLeDiff, Nat.reduceLT, Nat.reduceEqDiff, Nat.reduceBEq, ↓reduceIte, reduceCtorEq])

def e_laws_toPred (r : GPred) : Res := ⟨[.agg [.v (.int .i64 r.Kind), .v (.int .i64 r.N), .v (.string r.Pre), .v (.string r.Local), .v (.string r.Val)]], []⟩
def c_laws_toPred : Cx := ⟨1, [0], [.cell 2 5 true]⟩
theorem laws_toPred_ok : ∀ (a : GPred), Ok (laws_toPred a) e_laws_toPred (dn FTA n_laws_toPred [.agg ((GPred.row a).map .t)]) := by
  intro a
  rw [den_ev FTA (fn := k_laws_toPred) rfl (cloneX_none rfl _) (Nat.le_of_ble_eq_true rfl)]
  simp only [SSA, RS, c_laws_toPred, k_laws_toPred, laws_toPred, Nat.reduceAdd, Nat.reduceSub, Nat.reduceMul, Nat.reduceLeDiff, Nat.reduceLT, Nat.reduceEqDiff, Nat.reduceBEq, ↓reduceIte, reduceCtorEq]
  repeat' first
    | with_reducible exact Ok_none
    | ((with_reducible refine Ok_ret ?_); first | rfl | (simp only [SSA, RS, e_laws_toPred, Nat.reduceAdd, Nat.reduceSub, Nat.reduceMul, Nat.reduceLeDiff, Nat.reduceLT, Nat.reduceEqDiff, Nat.reduceBEq, ↓reduceIte, reduceCtorEq]; done))

def e_laws_toPredS (r : List GPred) : Res := ⟨[.t (.sl true (r.map GPred.row))], []⟩
def c_laws_toPredS : Cx := ⟨1, [0], [.tmp 2]⟩
theorem laws_toPredS_l8_ok' (a : List GPred) : ∀ (out : List (GPred)) (i : Int), Ok (laws_toPredS_l8 a out i) e_laws_toPredS (ev FTA c_laws_toPredS (.loop k_laws_toPredS_l8) [.lv 0, .th k_laws_toPredS_r4] (putS (List.replicate 23 .dead) [(0, .t (.sl false (a.map GPred.row))), (3, .ref (7, 0) out.length), (4, .t (.v (.int .i64 i)))]) (putR (List.replicate 23 []) [(7, [.mem (out.map GPred.row) 0 false])])) := by
  unfold Ok
  refine laws_toPredS_l8.partial_correctness a _ ?_
  intro F ih out i
  show Ok _ _ _
  have ih : ∀ (out : List (GPred)) (i : Int), Ok (F out i) _ _ := ih
  rw [ev_loop]
  have g0 := laws_toPred_ok; try simp only [SSA, RS, Nat.reduceAdd, Nat.reduceSub, Nat.reduceMul, Nat.reduceLeDiff, Nat.reduceLT, Nat.reduceEqDiff, Nat.reduceBEq, ↓reduceIte, reduceCtorEq] at g0
  simp only [SSA, RS, c_laws_toPredS, k_laws_toPredS_l8, k_laws_toPredS_r4, e_laws_toPred, Nat.reduceAdd, Nat.reduceSub, Nat.reduceMul, Nat.reduceLeDiff, Nat.reduceLT, Nat.reduceEqDiff, Nat.reduceBEq, ↓reduceIte, reduceCtorEq]
  repeat' first
    | with_reducible exact Ok_none
    | ((with_reducible refine Ok_ret ?_); first | rfl | (simp only [SSA, RS, e_laws_toPredS, Nat.reduceAdd, Nat.reduceSub, Nat.reduceMul, Nat.reduceLeDiff, Nat.reduceLT, Nat.reduceEqDiff, Nat.reduceBEq, ↓reduceIte, reduceCtorEq]; done))
    | ((with_reducible refine Ok_tail (ih _ _) ?_); first | rfl | (simp only [SSA, RS, c_laws_toPredS, Nat.reduceAdd, Nat.reduceSub, Nat.reduceMul, Nat.reduceLeDiff, Nat.reduceLT, Nat.reduceEqDiff, Nat.reduceBEq, ↓reduceIte, reduceCtorEq]; done) | (simp only [SSA, RS, c_laws_toPredS, Nat.reduceAdd, Nat.reduceSub, Nat.reduceMul, Nat.reduceLeDiff, Nat.reduceLT, Nat.reduceEqDiff, Nat.reduceBEq, ↓reduceIte, reduceCtorEq]; rfl))
    | ((first | with_reducible refine Ok_if (fun h => ?_) (fun h => ?_) | with_reducible refine Ok_get fun a h => ?_ | with_reducible refine Ok_call (g0 _) fun v => ?_ | refine Ok_call (g0 _) fun v => ?_) <;> simp only [SSA, RS, *, k_laws_toPredS_r4, e_laws_toPred, Nat.reduceAdd, Nat.reduceSub, Nat.reduceMul, Nat.reduceLeDiff, Nat.reduceLT, Nat.reduceEqDiff, Nat.reduceBEq, ↓reduceIte, reduceCtorEq])
theorem laws_toPredS_l8_ok (a : List GPred) (out : List (GPred)) (i : Int) : Ok (laws_toPredS_l8 a out i) e_laws_toPredS (ev FTA c_laws_toPredS (.loop k_laws_toPredS_l8) [.lv 0, .th k_laws_toPredS_r4] (putS (List.replicate 23 .dead) [(0, .t (.sl false (a.map GPred.row))), (3, .ref (7, 0) out.length), (4, .t (.v (.int .i64 i)))]) (putR (List.replicate 23 []) [(7, [.mem (out.map GPred.row) 0 false])])) := laws_toPredS_l8_ok' a out i

theorem laws_toPredS_ok : ∀ (a : List GPred), Ok (laws_toPredS a) e_laws_toPredS (dn FTA n_laws_toPredS [.t (.sl false (a.map GPred.row))]) := by
  intro a
  rw [den_ev FTA (fn := k_laws_toPredS) rfl (cloneX_none rfl _) (Nat.le_of_ble_eq_true rfl)]
  simp only [SSA, RS, c_laws_toPredS, k_laws_toPredS, laws_toPredS, Nat.reduceAdd, Nat.reduceSub, Nat.reduceMul, Nat.reduceLeDiff, Nat.reduceLT, Nat.reduceEqDiff, Nat.reduceBEq, ↓reduceIte, reduceCtorEq]
  repeat' first
    | with_reducible exact Ok_none
    | ((with_reducible refine Ok_ret ?_); first | rfl | (simp only [SSA, RS, e_laws_toPredS, Nat.reduceAdd, Nat.reduceSub, Nat.reduceMul, Nat.reduceLeDiff, Nat.reduceLT, Nat.reduceEqDiff, Nat.reduceBEq, ↓reduceIte, reduceCtorEq]; done))
    | ((with_reducible refine Ok_tail (laws_toPredS_l8_ok _ _ _) ?_); first | rfl | (simp only [SSA, RS, c_laws_toPredS, Nat.reduceAdd, Nat.reduceSub, Nat.reduceMul, Nat.reduceLeDiff, Nat.reduceLT, Nat.reduceEqDiff, Nat.reduceBEq, ↓reduceIte, reduceCtorEq]; done) | (simp only [SSA, RS, c_laws_toPredS, Nat.reduceAdd, Nat.reduceSub, Nat.reduceMul, Nat.reduceLeDiff, Nat.reduceLT, Nat.reduceEqDiff, Nat.reduceBEq, ↓reduceIte, reduceCtorEq]; rfl))
    | ((first | with_reducible refine Ok_prim (p := mkN _ _) fun a h => ?_) <;> simp only [SSA, RS, *, Nat.reduceAdd, Nat.reduceSub, Nat.reduceMul, Nat.reduceLeDiff, Nat.reduceLT, Nat.reduceEqDiff, Nat.reduceBEq, ↓reduceIte, reduceCtorEq])

def e_laws_toStep (r : GStp) : Res := ⟨[.agg [.v (.bool r.Deep), .v (.int .i64 r.Kind), .v (.string r.Pre), .v (.string r.Local), .sl true (r.Preds.map GPred.row)]], []⟩
def c_laws_toStep : Cx := ⟨1, [0], [.cell 2 5 true]⟩
theorem laws_toStep_ok : ∀ (a : GStp), Ok (laws_toStep a) e_laws_toStep (dn FTA n_laws_toStep [.agg (((GStp.row false) a).map .t)]) := by
  intro a
  rw [den_ev FTA (fn := k_laws_toStep) rfl (cloneX_none rfl _) (Nat.le_of_ble_eq_true rfl)]
  have g0 := laws_toPredS_ok; try simp only [SSA, RS, Nat.reduceAdd, Nat.reduceSub, Nat.reduceMul, Nat.reduceLeDiff, Nat.reduceLT, Nat.reduceEqDiff, Nat.reduceBEq, ↓reduceIte, reduceCtorEq] at g0
  simp only [SSA, RS, c_laws_toStep, k_laws_toStep, laws_toStep, e_laws_toPredS, Nat.reduceAdd, Nat.reduceSub, Nat.reduceMul, Nat.reduceLeDiff, Nat.reduceLT, Nat.reduceEqDiff, Nat.reduceBEq, ↓reduceIte, reduceCtorEq]
  repeat' first
    | with_reducible exact Ok_none
    | ((with_reducible refine Ok_ret ?_); first | rfl | (simp only [SSA, RS, e_laws_toStep, Nat.reduceAdd, Nat.reduceSub, Nat.reduceMul, Nat.reduceLeDiff, Nat.reduceLT, Nat.reduceEqDiff, Nat.reduceBEq, ↓reduceIte, reduceCtorEq]; done))
    | ((first | with_reducible refine Ok_call (g0 _) fun v => ?_ | refine Ok_call (g0 _) fun v => ?_) <;> simp only [SSA, RS, *, e_laws_toPredS, Nat.reduceAdd, Nat.reduceSub, Nat.reduceMul, Nat.reduceLeDiff, Nat.reduceLT, Nat.reduceEqDiff, Nat.reduceBEq, ↓reduceIte, reduceCtorEq])

def e_laws_toStepS (r : List GStp) : Res := ⟨[.t (.sl true (r.map (GStp.row true)))], []⟩
def c_laws_toStepS : Cx := ⟨1, [0], [.tmp 2]⟩
theorem laws_toStepS_l8_ok' (a : List GStp) : ∀ (out : List (GStp)) (i : Int), Ok (laws_toStepS_l8 a out i) e_laws_toStepS (ev FTA c_laws_toStepS (.loop k_laws_toStepS_l8) [.lv 0, .th k_laws_toStepS_r4] (putS (List.replicate 23 .dead) [(0, .t (.sl false (a.map (GStp.row false)))), (3, .ref (7, 0) out.length), (4, .t (.v (.int .i64 i)))]) (putR (List.replicate 23 []) [(7, [.mem (out.map (GStp.row true)) 0 false])])) := by
  unfold Ok
  refine laws_toStepS_l8.partial_correctness a _ ?_
  intro F ih out i
  show Ok _ _ _
  have ih : ∀ (out : List (GStp)) (i : Int), Ok (F out i) _ _ := ih
  rw [ev_loop]
  have g0 := laws_toStep_ok; try simp only [SSA, RS, Nat.reduceAdd, Nat.reduceSub, Nat.reduceMul, Nat.reduceLeDiff, Nat.reduceLT, Nat.reduceEqDiff, Nat.reduceBEq, ↓reduceIte, reduceCtorEq] at g0
  simp only [SSA, RS, c_laws_toStepS, k_laws_toStepS_l8, k_laws_toStepS_r4, e_laws_toStep, Nat.reduceAdd, Nat.reduceSub, Nat.reduceMul, Nat.reduceLeDiff, Nat.reduceLT, Nat.reduceEqDiff, Nat.reduceBEq, ↓reduceIte, reduceCtorEq]
  repeat' first
    | with_reducible exact Ok_none
    | ((with_reducible refine Ok_ret ?_); first | rfl | (simp only [SSA, RS, e_laws_toStepS, Nat.reduceAdd, Nat.reduceSub, Nat.reduceMul, Nat.reduceLeDiff, Nat.reduceLT, Nat.reduceEqDiff, Nat.reduceBEq, ↓reduceIte, reduceCtorEq]; done))
    | ((with_reducible refine Ok_tail (ih _ _) ?_); first | rfl | (simp only [SSA, RS, c_laws_toStepS, Nat.reduceAdd, Nat.reduceSub, Nat.reduceMul, Nat.reduceLeDiff, Nat.reduceLT, Nat.reduceEqDiff, Nat.reduceBEq, ↓reduceIte, reduceCtorEq]; done) | (simp only [SSA, RS, c_laws_toStepS, Nat.reduceAdd, Nat.reduceSub, Nat.reduceMul, Nat.reduceLeDiff, Nat.reduceLT, Nat.reduceEqDiff, Nat.reduceBEq, ↓reduceIte, reduceCtorEq]; rfl))
    | ((first | with_reducible refine Ok_if (fun h => ?_) (fun h => ?_) | with_reducible refine Ok_get fun a h => ?_ | with_reducible refine Ok_call (g0 _) fun v => ?_ | refine Ok_call (g0 _) fun v => ?_) <;> simp only [SSA, RS, *, k_laws_toStepS_r4, e_laws_toStep, Nat.reduceAdd, Nat.reduceSub, Nat.reduceMul, Nat.reduceLeDiff, Nat.reduceLT, Nat.reduceEqDiff, Nat.reduceBEq, ↓reduceIte, reduceCtorEq])
theorem laws_toStepS_l8_ok (a : List GStp) (out : List (GStp)) (i : Int) : Ok (laws_toStepS_l8 a out i) e_laws_toStepS (ev FTA c_laws_toStepS (.loop k_laws_toStepS_l8) [.lv 0, .th k_laws_toStepS_r4] (putS (List.replicate 23 .dead) [(0, .t (.sl false (a.map (GStp.row false)))), (3, .ref (7, 0) out.length), (4, .t (.v (.int .i64 i)))]) (putR (List.replicate 23 []) [(7, [.mem (out.map (GStp.row true)) 0 false])])) := laws_toStepS_l8_ok' a out i

theorem laws_toStepS_ok : ∀ (a : List GStp), Ok (laws_toStepS a) e_laws_toStepS (dn FTA n_laws_toStepS [.t (.sl false (a.map (GStp.row false)))]) := by
  intro a
  rw [den_ev FTA (fn := k_laws_toStepS) rfl (cloneX_none rfl _) (Nat.le_of_ble_eq_true rfl)]
  simp only [SSA, RS, c_laws_toStepS, k_laws_toStepS, laws_toStepS, Nat.reduceAdd, Nat.reduceSub, Nat.reduceMul, Nat.reduceLeDiff, Nat.reduceLT, Nat.reduceEqDiff, Nat.reduceBEq, ↓reduceIte, reduceCtorEq]
  repeat' first
    | with_reducible exact Ok_none
    | ((with_reducible refine Ok_ret ?_); first | rfl | (simp only [SSA, RS, e_laws_toStepS, Nat.reduceAdd, Nat.reduceSub, Nat.reduceMul, Nat.reduceLeDiff, Nat.reduceLT, Nat.reduceEqDiff, Nat.reduceBEq, ↓reduceIte, reduceCtorEq]; done))
    | ((with_reducible refine Ok_tail (laws_toStepS_l8_ok _ _ _) ?_); first | rfl | (simp only [SSA, RS, c_laws_toStepS, Nat.reduceAdd, Nat.reduceSub, Nat.reduceMul, Nat.reduceLeDiff, Nat.reduceLT, Nat.reduceEqDiff, Nat.reduceBEq, ↓reduceIte, reduceCtorEq]; done) | (simp only [SSA, RS, c_laws_toStepS, Nat.reduceAdd, Nat.reduceSub, Nat.reduceMul, Nat.reduceLeDiff, Nat.reduceLT, Nat.reduceEqDiff, Nat.reduceBEq, ↓reduceIte, reduceCtorEq]; rfl))
    | ((first | with_reducible refine Ok_prim (p := mkN _ _) fun a h => ?_) <;> simp only [SSA, RS, *, Nat.reduceAdd, Nat.reduceSub, Nat.reduceMul, Nat.reduceLeDiff, Nat.reduceLT, Nat.reduceEqDiff, Nat.reduceBEq, ↓reduceIte, reduceCtorEq])

def e_laws_toSel (r : GSel) : Res := ⟨[.agg [.v (.string r.Id), .sl true (r.Steps.map (GStp.row true))]], []⟩
def c_laws_toSel : Cx := ⟨1, [0], [.cell 2 2 true]⟩
theorem laws_toSel_ok : ∀ (a : GSel), Ok (laws_toSel a) e_laws_toSel (dn FTA n_laws_toSel [.agg (((GSel.row false) a).map .t)]) := by
  intro a
  rw [den_ev FTA (fn := k_laws_toSel) rfl (cloneX_none rfl _) (Nat.le_of_ble_eq_true rfl)]
  have g0 := laws_toStepS_ok; try simp only [SSA, RS, Nat.reduceAdd, Nat.reduceSub, Nat.reduceMul, Nat.reduceLeDiff, Nat.reduceLT, Nat.reduceEqDiff, Nat.reduceBEq, ↓reduceIte, reduceCtorEq] at g0
  simp only [SSA, RS, c_laws_toSel, k_laws_toSel, laws_toSel, e_laws_toStepS, Nat.reduceAdd, Nat.reduceSub, Nat.reduceMul, Nat.reduceLeDiff, Nat.reduceLT, Nat.reduceEqDiff, Nat.reduceBEq, ↓reduceIte, reduceCtorEq]
  repeat' first
    | with_reducible exact Ok_none
    | ((with_reducible refine Ok_ret ?_); first | rfl | (simp only [SSA, RS, e_laws_toSel, Nat.reduceAdd, Nat.reduceSub, Nat.reduceMul, Nat.reduceLeDiff, Nat.reduceLT, Nat.reduceEqDiff, Nat.reduceBEq, ↓reduceIte, reduceCtorEq]; done))
    | ((first | with_reducible refine Ok_call (g0 _) fun v => ?_ | refine Ok_call (g0 _) fun v => ?_) <;> simp only [SSA, RS, *, e_laws_toStepS, Nat.reduceAdd, Nat.reduceSub, Nat.reduceMul, Nat.reduceLeDiff, Nat.reduceLT, Nat.reduceEqDiff, Nat.reduceBEq, ↓reduceIte, reduceCtorEq])

def e_laws_toDecl (r : GDecl) : Res := ⟨[.agg [.v (.string r.Pre), .v (.string r.Uri)]], []⟩
def c_laws_toDecl : Cx := ⟨1, [0], [.cell 2 2 true]⟩
theorem laws_toDecl_ok : ∀ (a : GDecl), Ok (laws_toDecl a) e_laws_toDecl (dn FTA n_laws_toDecl [.agg ((GDecl.row a).map .t)]) := by
  intro a
  rw [den_ev FTA (fn := k_laws_toDecl) rfl (cloneX_none rfl _) (Nat.le_of_ble_eq_true rfl)]
  simp only [SSA, RS, c_laws_toDecl, k_laws_toDecl, laws_toDecl, Nat.reduceAdd, Nat.reduceSub, Nat.reduceMul, Nat.reduceLeDiff, Nat.reduceLT, Nat.reduceEqDiff, Nat.reduceBEq, ↓reduceIte, reduceCtorEq]
  repeat' first
    | with_reducible exact Ok_none
    | ((with_reducible refine Ok_ret ?_); first | rfl | (simp only [SSA, RS, e_laws_toDecl, Nat.reduceAdd, Nat.reduceSub, Nat.reduceMul, Nat.reduceLeDiff, Nat.reduceLT, Nat.reduceEqDiff, Nat.reduceBEq, ↓reduceIte, reduceCtorEq]; done))

def e_laws_toDeclS (r : List GDecl) : Res := ⟨[.t (.sl true (r.map GDecl.row))], []⟩
def c_laws_toDeclS : Cx := ⟨1, [0], [.tmp 2]⟩
theorem laws_toDeclS_l8_ok' (a : List GDecl) : ∀ (out : List (GDecl)) (i : Int), Ok (laws_toDeclS_l8 a out i) e_laws_toDeclS (ev FTA c_laws_toDeclS (.loop k_laws_toDeclS_l8) [.lv 0, .th k_laws_toDeclS_r4] (putS (List.replicate 23 .dead) [(0, .t (.sl false (a.map GDecl.row))), (3, .ref (7, 0) out.length), (4, .t (.v (.int .i64 i)))]) (putR (List.replicate 23 []) [(7, [.mem (out.map GDecl.row) 0 false])])) := by
  unfold Ok
  refine laws_toDeclS_l8.partial_correctness a _ ?_
  intro F ih out i
  show Ok _ _ _
  have ih : ∀ (out : List (GDecl)) (i : Int), Ok (F out i) _ _ := ih
  rw [ev_loop]
  have g0 := laws_toDecl_ok; try simp only [SSA, RS, Nat.reduceAdd, Nat.reduceSub, Nat.reduceMul, Nat.reduceLeDiff, Nat.reduceLT, Nat.reduceEqDiff, Nat.reduceBEq, ↓reduceIte, reduceCtorEq] at g0
  simp only [SSA, RS, c_laws_toDeclS, k_laws_toDeclS_l8, k_laws_toDeclS_r4, e_laws_toDecl, Nat.reduceAdd, Nat.reduceSub, Nat.reduceMul, Nat.reduceLeDiff, Nat.reduceLT, Nat.reduceEqDiff, Nat.reduceBEq, ↓reduceIte, reduceCtorEq]
  repeat' first
    | with_reducible exact Ok_none
    | ((with_reducible refine Ok_ret ?_); first | rfl | (simp only [SSA, RS, e_laws_toDeclS, Nat.reduceAdd, Nat.reduceSub, Nat.reduceMul, Nat.reduceLeDiff, Nat.reduceLT, Nat.reduceEqDiff, Nat.reduceBEq, ↓reduceIte, reduceCtorEq]; done))
    | ((with_reducible refine Ok_tail (ih _ _) ?_); first | rfl | (simp only [SSA, RS, c_laws_toDeclS, Nat.reduceAdd, Nat.reduceSub, Nat.reduceMul, Nat.reduceLeDiff, Nat.reduceLT, Nat.reduceEqDiff, Nat.reduceBEq, ↓reduceIte, reduceCtorEq]; done) | (simp only [SSA, RS, c_laws_toDeclS, Nat.reduceAdd, Nat.reduceSub, Nat.reduceMul, Nat.reduceLeDiff, Nat.reduceLT, Nat.reduceEqDiff, Nat.reduceBEq, ↓reduceIte, reduceCtorEq]; rfl))
    | ((first | with_reducible refine Ok_if (fun h => ?_) (fun h => ?_) | with_reducible refine Ok_get fun a h => ?_ | with_reducible refine Ok_call (g0 _) fun v => ?_ | refine Ok_call (g0 _) fun v => ?_) <;> simp only [SSA, RS, *, k_laws_toDeclS_r4, e_laws_toDecl, Nat.reduceAdd, Nat.reduceSub, Nat.reduceMul, Nat.reduceLeDiff, Nat.reduceLT, Nat.reduceEqDiff, Nat.reduceBEq, ↓reduceIte, reduceCtorEq])
theorem laws_toDeclS_l8_ok (a : List GDecl) (out : List (GDecl)) (i : Int) : Ok (laws_toDeclS_l8 a out i) e_laws_toDeclS (ev FTA c_laws_toDeclS (.loop k_laws_toDeclS_l8) [.lv 0, .th k_laws_toDeclS_r4] (putS (List.replicate 23 .dead) [(0, .t (.sl false (a.map GDecl.row))), (3, .ref (7, 0) out.length), (4, .t (.v (.int .i64 i)))]) (putR (List.replicate 23 []) [(7, [.mem (out.map GDecl.row) 0 false])])) := laws_toDeclS_l8_ok' a out i

theorem laws_toDeclS_ok : ∀ (a : List GDecl), Ok (laws_toDeclS a) e_laws_toDeclS (dn FTA n_laws_toDeclS [.t (.sl false (a.map GDecl.row))]) := by
  intro a
  rw [den_ev FTA (fn := k_laws_toDeclS) rfl (cloneX_none rfl _) (Nat.le_of_ble_eq_true rfl)]
  simp only [SSA, RS, c_laws_toDeclS, k_laws_toDeclS, laws_toDeclS, Nat.reduceAdd, Nat.reduceSub, Nat.reduceMul, Nat.reduceLeDiff, Nat.reduceLT, Nat.reduceEqDiff, Nat.reduceBEq, ↓reduceIte, reduceCtorEq]
  repeat' first
    | with_reducible exact Ok_none
    | ((with_reducible refine Ok_ret ?_); first | rfl | (simp only [SSA, RS, e_laws_toDeclS, Nat.reduceAdd, Nat.reduceSub, Nat.reduceMul, Nat.reduceLeDiff, Nat.reduceLT, Nat.reduceEqDiff, Nat.reduceBEq, ↓reduceIte, reduceCtorEq]; done))
    | ((with_reducible refine Ok_tail (laws_toDeclS_l8_ok _ _ _) ?_); first | rfl | (simp only [SSA, RS, c_laws_toDeclS, Nat.reduceAdd, Nat.reduceSub, Nat.reduceMul, Nat.reduceLeDiff, Nat.reduceLT, Nat.reduceEqDiff, Nat.reduceBEq, ↓reduceIte, reduceCtorEq]; done) | (simp only [SSA, RS, c_laws_toDeclS, Nat.reduceAdd, Nat.reduceSub, Nat.reduceMul, Nat.reduceLeDiff, Nat.reduceLT, Nat.reduceEqDiff, Nat.reduceBEq, ↓reduceIte, reduceCtorEq]; rfl))
    | ((first | with_reducible refine Ok_prim (p := mkN _ _) fun a h => ?_) <;> simp only [SSA, RS, *, Nat.reduceAdd, Nat.reduceSub, Nat.reduceMul, Nat.reduceLeDiff, Nat.reduceLT, Nat.reduceEqDiff, Nat.reduceBEq, ↓reduceIte, reduceCtorEq])

def e_laws_toAttr (r : GAttr) : Res := ⟨[.agg [.v (.string r.Pre), .v (.string r.Local), .v (.string r.Uri), .v (.string r.Val)]], []⟩
def c_laws_toAttr : Cx := ⟨1, [0], [.cell 2 4 true]⟩
theorem laws_toAttr_ok : ∀ (a : GAttr), Ok (laws_toAttr a) e_laws_toAttr (dn FTA n_laws_toAttr [.agg ((GAttr.row a).map .t)]) := by
  intro a
  rw [den_ev FTA (fn := k_laws_toAttr) rfl (cloneX_none rfl _) (Nat.le_of_ble_eq_true rfl)]
  simp only [SSA, RS, c_laws_toAttr, k_laws_toAttr, laws_toAttr, Nat.reduceAdd, Nat.reduceSub, Nat.reduceMul, Nat.reduceLeDiff, Nat.reduceLT, Nat.reduceEqDiff, Nat.reduceBEq, ↓reduceIte, reduceCtorEq]
  repeat' first
    | with_reducible exact Ok_none
    | ((with_reducible refine Ok_ret ?_); first | rfl | (simp only [SSA, RS, e_laws_toAttr, Nat.reduceAdd, Nat.reduceSub, Nat.reduceMul, Nat.reduceLeDiff, Nat.reduceLT, Nat.reduceEqDiff, Nat.reduceBEq, ↓reduceIte, reduceCtorEq]; done))

def e_laws_toAttrS (r : List GAttr) : Res := ⟨[.t (.sl true (r.map GAttr.row))], []⟩
def c_laws_toAttrS : Cx := ⟨1, [0], [.tmp 2]⟩
theorem laws_toAttrS_l8_ok' (a : List GAttr) : ∀ (out : List (GAttr)) (i : Int), Ok (laws_toAttrS_l8 a out i) e_laws_toAttrS (ev FTA c_laws_toAttrS (.loop k_laws_toAttrS_l8) [.lv 0, .th k_laws_toAttrS_r4] (putS (List.replicate 23 .dead) [(0, .t (.sl false (a.map GAttr.row))), (3, .ref (7, 0) out.length), (4, .t (.v (.int .i64 i)))]) (putR (List.replicate 23 []) [(7, [.mem (out.map GAttr.row) 0 false])])) := by
  unfold Ok
  refine laws_toAttrS_l8.partial_correctness a _ ?_
  intro F ih out i
  show Ok _ _ _
  have ih : ∀ (out : List (GAttr)) (i : Int), Ok (F out i) _ _ := ih
  rw [ev_loop]
  have g0 := laws_toAttr_ok; try simp only [SSA, RS, Nat.reduceAdd, Nat.reduceSub, Nat.reduceMul, Nat.reduceLeDiff, Nat.reduceLT, Nat.reduceEqDiff, Nat.reduceBEq, ↓reduceIte, reduceCtorEq] at g0
  simp only [SSA, RS, c_laws_toAttrS, k_laws_toAttrS_l8, k_laws_toAttrS_r4, e_laws_toAttr, Nat.reduceAdd, Nat.reduceSub, Nat.reduceMul, Nat.reduceLeDiff, Nat.reduceLT, Nat.reduceEqDiff, Nat.reduceBEq, ↓reduceIte, reduceCtorEq]
  repeat' first
    | with_reducible exact Ok_none
    | ((with_reducible refine Ok_ret ?_); first | rfl | (simp only [SSA, RS, e_laws_toAttrS, Nat.reduceAdd, Nat.reduceSub, Nat.reduceMul, Nat.reduceLeDiff, Nat.reduceLT, Nat.reduceEqDiff, Nat.reduceBEq, ↓reduceIte, reduceCtorEq]; done))
    | ((with_reducible refine Ok_tail (ih _ _) ?_); first | rfl | (simp only [SSA, RS, c_laws_toAttrS, Nat.reduceAdd, Nat.reduceSub, Nat.reduceMul, Nat.reduceLeDiff, Nat.reduceLT, Nat.reduceEqDiff, Nat.reduceBEq, ↓reduceIte, reduceCtorEq]; done) | (simp only [SSA, RS, c_laws_toAttrS, Nat.reduceAdd, Nat.reduceSub, Nat.reduceMul, Nat.reduceLeDiff, Nat.reduceLT, Nat.reduceEqDiff, Nat.reduceBEq, ↓reduceIte, reduceCtorEq]; rfl))
    | ((first | with_reducible refine Ok_if (fun h => ?_) (fun h => ?_) | with_reducible refine Ok_get fun a h => ?_ | with_reducible refine Ok_call (g0 _) fun v => ?_ | refine Ok_call (g0 _) fun v => ?_) <;> simp only [SSA, RS, *, k_laws_toAttrS_r4, e_laws_toAttr, Nat.reduceAdd, Nat.reduceSub, Nat.reduceMul, Nat.reduceLeDiff, Nat.reduceLT, Nat.reduceEqDiff, Nat.reduceBEq, ↓reduceIte, reduceCtorEq])
theorem laws_toAttrS_l8_ok (a : List GAttr) (out : List (GAttr)) (i : Int) : Ok (laws_toAttrS_l8 a out i) e_laws_toAttrS (ev FTA c_laws_toAttrS (.loop k_laws_toAttrS_l8) [.lv 0, .th k_laws_toAttrS_r4] (putS (List.replicate 23 .dead) [(0, .t (.sl false (a.map GAttr.row))), (3, .ref (7, 0) out.length), (4, .t (.v (.int .i64 i)))]) (putR (List.replicate 23 []) [(7, [.mem (out.map GAttr.row) 0 false])])) := laws_toAttrS_l8_ok' a out i

theorem laws_toAttrS_ok : ∀ (a : List GAttr), Ok (laws_toAttrS a) e_laws_toAttrS (dn FTA n_laws_toAttrS [.t (.sl false (a.map GAttr.row))]) := by
  intro a
  rw [den_ev FTA (fn := k_laws_toAttrS) rfl (cloneX_none rfl _) (Nat.le_of_ble_eq_true rfl)]
  simp only [SSA, RS, c_laws_toAttrS, k_laws_toAttrS, laws_toAttrS, Nat.reduceAdd, Nat.reduceSub, Nat.reduceMul, Nat.reduceLeDiff, Nat.reduceLT, Nat.reduceEqDiff, Nat.reduceBEq, ↓reduceIte, reduceCtorEq]
  repeat' first
    | with_reducible exact Ok_none
    | ((with_reducible refine Ok_ret ?_); first | rfl | (simp only [SSA, RS, e_laws_toAttrS, Nat.reduceAdd, Nat.reduceSub, Nat.reduceMul, Nat.reduceLeDiff, Nat.reduceLT, Nat.reduceEqDiff, Nat.reduceBEq, ↓reduceIte, reduceCtorEq]; done))
    | ((with_reducible refine Ok_tail (laws_toAttrS_l8_ok _ _ _) ?_); first | rfl | (simp only [SSA, RS, c_laws_toAttrS, Nat.reduceAdd, Nat.reduceSub, Nat.reduceMul, Nat.reduceLeDiff, Nat.reduceLT, Nat.reduceEqDiff, Nat.reduceBEq, ↓reduceIte, reduceCtorEq]; done) | (simp only [SSA, RS, c_laws_toAttrS, Nat.reduceAdd, Nat.reduceSub, Nat.reduceMul, Nat.reduceLeDiff, Nat.reduceLT, Nat.reduceEqDiff, Nat.reduceBEq, ↓reduceIte, reduceCtorEq]; rfl))
    | ((first | with_reducible refine Ok_prim (p := mkN _ _) fun a h => ?_) <;> simp only [SSA, RS, *, Nat.reduceAdd, Nat.reduceSub, Nat.reduceMul, Nat.reduceLeDiff, Nat.reduceLT, Nat.reduceEqDiff, Nat.reduceBEq, ↓reduceIte, reduceCtorEq])

def e_laws_toNode (r : GNode) : Res := ⟨[.agg [.v (.int .i64 r.Kind), .v (.string r.Pre), .v (.string r.Local), .v (.string r.Uri), .sl true (r.Decls.map GDecl.row), .sl true (r.Attrs.map GAttr.row), .sl true (r.Kids.map (GNode.row true)), .v (.string r.Text)]], []⟩
def c_laws_toNode : Cx := ⟨1, [0], [.cell 2 8 true]⟩
def e_laws_toNodeS (r : List GNode) : Res := ⟨[.t (.sl true (r.map (GNode.row true)))], []⟩
def c_laws_toNodeS : Cx := ⟨1, [0], [.tmp 2]⟩
theorem G_laws_toNode : (∀ (a : GNode), Ok (laws_toNode a) e_laws_toNode (dn FTA n_laws_toNode [.agg (((GNode.row false) a).map .t)])) ∧
    (∀ (a : List GNode), Ok (laws_toNodeS a) e_laws_toNodeS (dn FTA n_laws_toNodeS [.t (.sl false (a.map (GNode.row false)))])) ∧
    (∀ (a : List GNode) (out : List (GNode)) (i : Int), Ok (laws_toNodeS_l8 a out i) e_laws_toNodeS (ev FTA c_laws_toNodeS (.loop k_laws_toNodeS_l8) [.lv 0, .th k_laws_toNodeS_r4] (putS (List.replicate 23 .dead) [(0, .t (.sl false (a.map (GNode.row false)))), (3, .ref (7, 0) out.length), (4, .t (.v (.int .i64 i)))]) (putR (List.replicate 23 []) [(7, [.mem (out.map (GNode.row true)) 0 false])]))) := by
  unfold Ok
  refine laws_toNode.mutual_partial_correctness _ _ _ ?_ ?_ ?_ 
  · intro F1 ih1 a
    show Ok _ _ _
    have ih1 : ∀ (a : List GNode), Ok (F1 a) _ _ := ih1
    rw [den_ev FTA (fn := k_laws_toNode) rfl (cloneX_none rfl _) (Nat.le_of_ble_eq_true rfl)]
    have g0 := laws_toDeclS_ok; try simp only [SSA, RS, Nat.reduceAdd, Nat.reduceSub, Nat.reduceMul, Nat.reduceLeDiff, Nat.reduceLT, Nat.reduceEqDiff, Nat.reduceBEq, ↓reduceIte, reduceCtorEq] at g0
    have g1 := laws_toAttrS_ok; try simp only [SSA, RS, Nat.reduceAdd, Nat.reduceSub, Nat.reduceMul, Nat.reduceLeDiff, Nat.reduceLT, Nat.reduceEqDiff, Nat.reduceBEq, ↓reduceIte, reduceCtorEq] at g1
    have g2 := ih1; try simp only [SSA, RS, Nat.reduceAdd, Nat.reduceSub, Nat.reduceMul, Nat.reduceLeDiff, Nat.reduceLT, Nat.reduceEqDiff, Nat.reduceBEq, ↓reduceIte, reduceCtorEq] at g2
    simp only [SSA, RS, c_laws_toNode, k_laws_toNode, e_laws_toAttrS, e_laws_toDeclS, e_laws_toNodeS, Nat.reduceAdd, Nat.reduceSub, Nat.reduceMul, Nat.reduceLeDiff, Nat.reduceLT, Nat.reduceEqDiff, Nat.reduceBEq, ↓reduceIte, reduceCtorEq]
    repeat' first
      | with_reducible exact Ok_none
      | ((with_reducible refine Ok_ret ?_); first | rfl | (simp only [SSA, RS, e_laws_toNode, Nat.reduceAdd, Nat.reduceSub, Nat.reduceMul, Nat.reduceLeDiff, Nat.reduceLT, Nat.reduceEqDiff, Nat.reduceBEq, ↓reduceIte, reduceCtorEq]; done))
      | ((first | with_reducible refine Ok_call (g0 _) fun v => ?_ | with_reducible refine Ok_call (g1 _) fun v => ?_ | with_reducible refine Ok_call (g2 _) fun v => ?_ | refine Ok_call (g0 _) fun v => ?_ | refine Ok_call (g1 _) fun v => ?_ | refine Ok_call (g2 _) fun v => ?_) <;> simp only [SSA, RS, *, e_laws_toAttrS, e_laws_toDeclS, e_laws_toNodeS, Nat.reduceAdd, Nat.reduceSub, Nat.reduceMul, Nat.reduceLeDiff, Nat.reduceLT, Nat.reduceEqDiff, Nat.reduceBEq, ↓reduceIte, reduceCtorEq])
  · intro F2 ih2 a
    show Ok _ _ _
    have ih2 : ∀ (a : List GNode) (out : List (GNode)) (i : Int), Ok (F2 a out i) _ _ := ih2
    rw [den_ev FTA (fn := k_laws_toNodeS) rfl (cloneX_none rfl _) (Nat.le_of_ble_eq_true rfl)]
    simp only [SSA, RS, c_laws_toNodeS, k_laws_toNodeS, Nat.reduceAdd, Nat.reduceSub, Nat.reduceMul, Nat.reduceLeDiff, Nat.reduceLT, Nat.reduceEqDiff, Nat.reduceBEq, ↓reduceIte, reduceCtorEq]
    repeat' first
      | with_reducible exact Ok_none
      | ((with_reducible refine Ok_ret ?_); first | rfl | (simp only [SSA, RS, e_laws_toNodeS, Nat.reduceAdd, Nat.reduceSub, Nat.reduceMul, Nat.reduceLeDiff, Nat.reduceLT, Nat.reduceEqDiff, Nat.reduceBEq, ↓reduceIte, reduceCtorEq]; done))
      | ((with_reducible refine Ok_tail (ih2 _ _ _) ?_); first | rfl | (simp only [SSA, RS, c_laws_toNodeS, Nat.reduceAdd, Nat.reduceSub, Nat.reduceMul, Nat.reduceLeDiff, Nat.reduceLT, Nat.reduceEqDiff, Nat.reduceBEq, ↓reduceIte, reduceCtorEq]; done) | (simp only [SSA, RS, c_laws_toNodeS, Nat.reduceAdd, Nat.reduceSub, Nat.reduceMul, Nat.reduceLeDiff, Nat.reduceLT, Nat.reduceEqDiff, Nat.reduceBEq, ↓reduceIte, reduceCtorEq]; rfl))
      | ((first | with_reducible refine Ok_prim (p := mkN _ _) fun a h => ?_) <;> simp only [SSA, RS, *, Nat.reduceAdd, Nat.reduceSub, Nat.reduceMul, Nat.reduceLeDiff, Nat.reduceLT, Nat.reduceEqDiff, Nat.reduceBEq, ↓reduceIte, reduceCtorEq])
  · intro F0 F2 ih0 ih2 a out i
    show Ok _ _ _
    have ih0 : ∀ (a : GNode), Ok (F0 a) _ _ := ih0
    have ih2 : ∀ (a : List GNode) (out : List (GNode)) (i : Int), Ok (F2 a out i) _ _ := ih2
    rw [ev_loop]
    have g0 := ih0; try simp only [SSA, RS, Nat.reduceAdd, Nat.reduceSub, Nat.reduceMul, Nat.reduceLeDiff, Nat.reduceLT, Nat.reduceEqDiff, Nat.reduceBEq, ↓reduceIte, reduceCtorEq] at g0
    simp only [SSA, RS, c_laws_toNodeS, k_laws_toNodeS_l8, k_laws_toNodeS_r4, e_laws_toNode, Nat.reduceAdd, Nat.reduceSub, Nat.reduceMul, Nat.reduceLeDiff, Nat.reduceLT, Nat.reduceEqDiff, Nat.reduceBEq, ↓reduceIte, reduceCtorEq]
    repeat' first
      | with_reducible exact Ok_none
      | ((with_reducible refine Ok_ret ?_); first | rfl | (simp only [SSA, RS, e_laws_toNodeS, Nat.reduceAdd, Nat.reduceSub, Nat.reduceMul, Nat.reduceLeDiff, Nat.reduceLT, Nat.reduceEqDiff, Nat.reduceBEq, ↓reduceIte, reduceCtorEq]; done))
      | ((with_reducible refine Ok_tail (ih2 _ _ _) ?_); first | rfl | (simp only [SSA, RS, c_laws_toNodeS, Nat.reduceAdd, Nat.reduceSub, Nat.reduceMul, Nat.reduceLeDiff, Nat.reduceLT, Nat.reduceEqDiff, Nat.reduceBEq, ↓reduceIte, reduceCtorEq]; done) | (simp only [SSA, RS, c_laws_toNodeS, Nat.reduceAdd, Nat.reduceSub, Nat.reduceMul, Nat.reduceLeDiff, Nat.reduceLT, Nat.reduceEqDiff, Nat.reduceBEq, ↓reduceIte, reduceCtorEq]; rfl))
      | ((first | with_reducible refine Ok_if (fun h => ?_) (fun h => ?_) | with_reducible refine Ok_get fun a h => ?_ | with_reducible refine Ok_call (g0 _) fun v => ?_ | refine Ok_call (g0 _) fun v => ?_) <;> simp only [SSA, RS, *, k_laws_toNodeS_r4, e_laws_toNode, Nat.reduceAdd, Nat.reduceSub, Nat.reduceMul, Nat.reduceLeDiff, Nat.reduceLT, Nat.reduceEqDiff, Nat.reduceBEq, ↓reduceIte, reduceCtorEq])
theorem laws_toNode_ok (a : GNode) : Ok (laws_toNode a) e_laws_toNode (dn FTA n_laws_toNode [.agg (((GNode.row false) a).map .t)]) := G_laws_toNode.1 a
theorem laws_toNodeS_ok (a : List GNode) : Ok (laws_toNodeS a) e_laws_toNodeS (dn FTA n_laws_toNodeS [.t (.sl false (a.map (GNode.row false)))]) := G_laws_toNode.2.1 a
theorem laws_toNodeS_l8_ok (a : List GNode) (out : List (GNode)) (i : Int) : Ok (laws_toNodeS_l8 a out i) e_laws_toNodeS (ev FTA c_laws_toNodeS (.loop k_laws_toNodeS_l8) [.lv 0, .th k_laws_toNodeS_r4] (putS (List.replicate 23 .dead) [(0, .t (.sl false (a.map (GNode.row false)))), (3, .ref (7, 0) out.length), (4, .t (.v (.int .i64 i)))]) (putR (List.replicate 23 []) [(7, [.mem (out.map (GNode.row true)) 0 false])])) := G_laws_toNode.2.2 a out i

def e_laws_toOp (r : GOp) : Res := ⟨[.agg [.v (.int .i64 r.Kind), .v (.string r.Sel.Id), .sl true (r.Sel.Steps.map (GStp.row true)), .v (.int .i64 r.Pos), .v (.int .i64 r.Typ), .v (.string r.Pre), .v (.string r.Local), .v (.int .i64 r.Ws), .sl true (r.Kids.map (GNode.row true)), .sl true (r.Decls.map GDecl.row)]], []⟩
def c_laws_toOp : Cx := ⟨1, [0], [.cell 2 10 true]⟩
theorem laws_toOp_ok : ∀ (a : GOp), Ok (laws_toOp a) e_laws_toOp (dn FTA n_laws_toOp [.agg (((GOp.row false) a).map .t)]) := by
  intro a
  rw [den_ev FTA (fn := k_laws_toOp) rfl (cloneX_none rfl _) (Nat.le_of_ble_eq_true rfl)]
  have g0 := laws_toSel_ok; try simp only [SSA, RS, Nat.reduceAdd, Nat.reduceSub, Nat.reduceMul, Nat.reduceLeDiff, Nat.reduceLT, Nat.reduceEqDiff, Nat.reduceBEq, ↓reduceIte, reduceCtorEq] at g0
  have g1 := laws_toNodeS_ok; try simp only [SSA, RS, Nat.reduceAdd, Nat.reduceSub, Nat.reduceMul, Nat.reduceLeDiff, Nat.reduceLT, Nat.reduceEqDiff, Nat.reduceBEq, ↓reduceIte, reduceCtorEq] at g1
  have g2 := laws_toDeclS_ok; try simp only [SSA, RS, Nat.reduceAdd, Nat.reduceSub, Nat.reduceMul, Nat.reduceLeDiff, Nat.reduceLT, Nat.reduceEqDiff, Nat.reduceBEq, ↓reduceIte, reduceCtorEq] at g2
  simp only [SSA, RS, c_laws_toOp, k_laws_toOp, laws_toOp, e_laws_toDeclS, e_laws_toNodeS, e_laws_toSel, Nat.reduceAdd, Nat.reduceSub, Nat.reduceMul, Nat.reduceLeDiff, Nat.reduceLT, Nat.reduceEqDiff, Nat.reduceBEq, ↓reduceIte, reduceCtorEq]
  repeat' first
    | with_reducible exact Ok_none
    | ((with_reducible refine Ok_ret ?_); first | rfl | (simp only [SSA, RS, e_laws_toOp, Nat.reduceAdd, Nat.reduceSub, Nat.reduceMul, Nat.reduceLeDiff, Nat.reduceLT, Nat.reduceEqDiff, Nat.reduceBEq, ↓reduceIte, reduceCtorEq]; done))
    | ((first | with_reducible refine Ok_call (g0 _) fun v => ?_ | with_reducible refine Ok_call (g1 _) fun v => ?_ | with_reducible refine Ok_call (g2 _) fun v => ?_ | refine Ok_call (g0 _) fun v => ?_ | refine Ok_call (g1 _) fun v => ?_ | refine Ok_call (g2 _) fun v => ?_) <;> simp only [SSA, RS, *, e_laws_toDeclS, e_laws_toNodeS, e_laws_toSel, Nat.reduceAdd, Nat.reduceSub, Nat.reduceMul, Nat.reduceLeDiff, Nat.reduceLT, Nat.reduceEqDiff, Nat.reduceBEq, ↓reduceIte, reduceCtorEq])

def e_laws_toOpS (r : List GOp) : Res := ⟨[.t (.sl true (r.map (GOp.row true)))], []⟩
def c_laws_toOpS : Cx := ⟨1, [0], [.tmp 2]⟩
theorem laws_toOpS_l8_ok' (a : List GOp) : ∀ (out : List (GOp)) (i : Int), Ok (laws_toOpS_l8 a out i) e_laws_toOpS (ev FTA c_laws_toOpS (.loop k_laws_toOpS_l8) [.lv 0, .th k_laws_toOpS_r4] (putS (List.replicate 23 .dead) [(0, .t (.sl false (a.map (GOp.row false)))), (3, .ref (7, 0) out.length), (4, .t (.v (.int .i64 i)))]) (putR (List.replicate 23 []) [(7, [.mem (out.map (GOp.row true)) 0 false])])) := by
  unfold Ok
  refine laws_toOpS_l8.partial_correctness a _ ?_
  intro F ih out i
  show Ok _ _ _
  have ih : ∀ (out : List (GOp)) (i : Int), Ok (F out i) _ _ := ih
  rw [ev_loop]
  have g0 := laws_toOp_ok; try simp only [SSA, RS, Nat.reduceAdd, Nat.reduceSub, Nat.reduceMul, Nat.reduceLeDiff, Nat.reduceLT, Nat.reduceEqDiff, Nat.reduceBEq, ↓reduceIte, reduceCtorEq] at g0
  simp only [SSA, RS, c_laws_toOpS, k_laws_toOpS_l8, k_laws_toOpS_r4, e_laws_toOp, Nat.reduceAdd, Nat.reduceSub, Nat.reduceMul, Nat.reduceLeDiff, Nat.reduceLT, Nat.reduceEqDiff, Nat.reduceBEq, ↓reduceIte, reduceCtorEq]
  repeat' first
    | with_reducible exact Ok_none
    | ((with_reducible refine Ok_ret ?_); first | rfl | (simp only [SSA, RS, e_laws_toOpS, Nat.reduceAdd, Nat.reduceSub, Nat.reduceMul, Nat.reduceLeDiff, Nat.reduceLT, Nat.reduceEqDiff, Nat.reduceBEq, ↓reduceIte, reduceCtorEq]; done))
    | ((with_reducible refine Ok_tail (ih _ _) ?_); first | rfl | (simp only [SSA, RS, c_laws_toOpS, Nat.reduceAdd, Nat.reduceSub, Nat.reduceMul, Nat.reduceLeDiff, Nat.reduceLT, Nat.reduceEqDiff, Nat.reduceBEq, ↓reduceIte, reduceCtorEq]; done) | (simp only [SSA, RS, c_laws_toOpS, Nat.reduceAdd, Nat.reduceSub, Nat.reduceMul, Nat.reduceLeDiff, Nat.reduceLT, Nat.reduceEqDiff, Nat.reduceBEq, ↓reduceIte, reduceCtorEq]; rfl))
    | ((first | with_reducible refine Ok_if (fun h => ?_) (fun h => ?_) | with_reducible refine Ok_get fun a h => ?_ | with_reducible refine Ok_call (g0 _) fun v => ?_ | refine Ok_call (g0 _) fun v => ?_) <;> simp only [SSA, RS, *, k_laws_toOpS_r4, e_laws_toOp, Nat.reduceAdd, Nat.reduceSub, Nat.reduceMul, Nat.reduceLeDiff, Nat.reduceLT, Nat.reduceEqDiff, Nat.reduceBEq, ↓reduceIte, reduceCtorEq])
theorem laws_toOpS_l8_ok (a : List GOp) (out : List (GOp)) (i : Int) : Ok (laws_toOpS_l8 a out i) e_laws_toOpS (ev FTA c_laws_toOpS (.loop k_laws_toOpS_l8) [.lv 0, .th k_laws_toOpS_r4] (putS (List.replicate 23 .dead) [(0, .t (.sl false (a.map (GOp.row false)))), (3, .ref (7, 0) out.length), (4, .t (.v (.int .i64 i)))]) (putR (List.replicate 23 []) [(7, [.mem (out.map (GOp.row true)) 0 false])])) := laws_toOpS_l8_ok' a out i

theorem laws_toOpS_ok : ∀ (a : List GOp), Ok (laws_toOpS a) e_laws_toOpS (dn FTA n_laws_toOpS [.t (.sl false (a.map (GOp.row false)))]) := by
  intro a
  rw [den_ev FTA (fn := k_laws_toOpS) rfl (cloneX_none rfl _) (Nat.le_of_ble_eq_true rfl)]
  simp only [SSA, RS, c_laws_toOpS, k_laws_toOpS, laws_toOpS, Nat.reduceAdd, Nat.reduceSub, Nat.reduceMul, Nat.reduceLeDiff, Nat.reduceLT, Nat.reduceEqDiff, Nat.reduceBEq, ↓reduceIte, reduceCtorEq]
  repeat' first
    | with_reducible exact Ok_none
    | ((with_reducible refine Ok_ret ?_); first | rfl | (simp only [SSA, RS, e_laws_toOpS, Nat.reduceAdd, Nat.reduceSub, Nat.reduceMul, Nat.reduceLeDiff, Nat.reduceLT, Nat.reduceEqDiff, Nat.reduceBEq, ↓reduceIte, reduceCtorEq]; done))
    | ((with_reducible refine Ok_tail (laws_toOpS_l8_ok _ _ _) ?_); first | rfl | (simp only [SSA, RS, c_laws_toOpS, Nat.reduceAdd, Nat.reduceSub, Nat.reduceMul, Nat.reduceLeDiff, Nat.reduceLT, Nat.reduceEqDiff, Nat.reduceBEq, ↓reduceIte, reduceCtorEq]; done) | (simp only [SSA, RS, c_laws_toOpS, Nat.reduceAdd, Nat.reduceSub, Nat.reduceMul, Nat.reduceLeDiff, Nat.reduceLT, Nat.reduceEqDiff, Nat.reduceBEq, ↓reduceIte, reduceCtorEq]; rfl))
    | ((first | with_reducible refine Ok_prim (p := mkN _ _) fun a h => ?_) <;> simp only [SSA, RS, *, Nat.reduceAdd, Nat.reduceSub, Nat.reduceMul, Nat.reduceLeDiff, Nat.reduceLT, Nat.reduceEqDiff, Nat.reduceBEq, ↓reduceIte, reduceCtorEq])

def e_spec_CountOf (r : Int) : Res := ⟨[.t (.v (.int .i64 r))], []⟩
def c_spec_CountOf : Cx := ⟨1, [0], [.tmp 2]⟩
theorem G_spec_CountOf : (∀ (n : GNode), Ok (spec_CountOf n) e_spec_CountOf (dn FTA n_spec_CountOf [.agg (((GNode.row false) n).map .t)])) ∧
    (∀ (k : Int) (i : Int) (n : GNode), Ok (spec_CountOf_l8 k i n) e_spec_CountOf (ev FTA c_spec_CountOf (.loop k_spec_CountOf_l8) [.lv 0, .th k_spec_CountOf_r4] (putS (List.replicate 25 .dead) [(1, .ptr (1, 0) [] 0 0 1 0), (3, .t (.v (.int .i64 k))), (4, .t (.v (.int .i64 i)))]) (putR (List.replicate 25 []) [(1, [.mem [[.v (.int .i64 n.Kind), .v (.string n.Pre), .v (.string n.Local), .v (.string n.Uri), .sl false (n.Decls.map GDecl.row), .sl false (n.Attrs.map GAttr.row), .sl false (n.Kids.map (GNode.row false)), .v (.string n.Text)]] 0 false])]))) := by
  unfold Ok
  refine spec_CountOf.mutual_partial_correctness _ _ ?_ ?_ 
  · intro F1 ih1 n
    show Ok _ _ _
    have ih1 : ∀ (k : Int) (i : Int) (n : GNode), Ok (F1 k i n) _ _ := ih1
    rw [den_ev FTA (fn := k_spec_CountOf) rfl (cloneX_none rfl _) (Nat.le_of_ble_eq_true rfl)]
    simp only [SSA, RS, c_spec_CountOf, k_spec_CountOf, Nat.reduceAdd, Nat.reduceSub, Nat.reduceMul, Nat.reduceLeDiff, Nat.reduceLT, Nat.reduceEqDiff, Nat.reduceBEq, ↓reduceIte, reduceCtorEq]
    repeat' first
      | with_reducible exact Ok_none
      | ((with_reducible refine Ok_ret ?_); first | rfl | (simp only [SSA, RS, e_spec_CountOf, Nat.reduceAdd, Nat.reduceSub, Nat.reduceMul, Nat.reduceLeDiff, Nat.reduceLT, Nat.reduceEqDiff, Nat.reduceBEq, ↓reduceIte, reduceCtorEq]; done))
      | ((with_reducible refine Ok_tail (ih1 _ _ _) ?_); first | rfl | (simp only [SSA, RS, c_spec_CountOf, Nat.reduceAdd, Nat.reduceSub, Nat.reduceMul, Nat.reduceLeDiff, Nat.reduceLT, Nat.reduceEqDiff, Nat.reduceBEq, ↓reduceIte, reduceCtorEq]; done) | (simp only [SSA, RS, c_spec_CountOf, Nat.reduceAdd, Nat.reduceSub, Nat.reduceMul, Nat.reduceLeDiff, Nat.reduceLT, Nat.reduceEqDiff, Nat.reduceBEq, ↓reduceIte, reduceCtorEq]; rfl))
  · intro F0 F1 ih0 ih1 k i n
    show Ok _ _ _
    have ih0 : ∀ (n : GNode), Ok (F0 n) _ _ := ih0
    have ih1 : ∀ (k : Int) (i : Int) (n : GNode), Ok (F1 k i n) _ _ := ih1
    rw [ev_loop]
    have g0 := ih0; try simp only [SSA, RS, Nat.reduceAdd, Nat.reduceSub, Nat.reduceMul, Nat.reduceLeDiff, Nat.reduceLT, Nat.reduceEqDiff, Nat.reduceBEq, ↓reduceIte, reduceCtorEq] at g0
    simp only [SSA, RS, c_spec_CountOf, k_spec_CountOf_l8, k_spec_CountOf_r4, e_spec_CountOf, Nat.reduceAdd, Nat.reduceSub, Nat.reduceMul, Nat.reduceLeDiff, Nat.reduceLT, Nat.reduceEqDiff, Nat.reduceBEq, ↓reduceIte, reduceCtorEq]
    repeat' first
      | with_reducible exact Ok_none
      | ((with_reducible refine Ok_ret ?_); first | rfl | (simp only [SSA, RS, e_spec_CountOf, Nat.reduceAdd, Nat.reduceSub, Nat.reduceMul, Nat.reduceLeDiff, Nat.reduceLT, Nat.reduceEqDiff, Nat.reduceBEq, ↓reduceIte, reduceCtorEq]; done))
      | ((with_reducible refine Ok_tail (ih1 _ _ _) ?_); first | rfl | (simp only [SSA, RS, c_spec_CountOf, Nat.reduceAdd, Nat.reduceSub, Nat.reduceMul, Nat.reduceLeDiff, Nat.reduceLT, Nat.reduceEqDiff, Nat.reduceBEq, ↓reduceIte, reduceCtorEq]; done) | (simp only [SSA, RS, c_spec_CountOf, Nat.reduceAdd, Nat.reduceSub, Nat.reduceMul, Nat.reduceLeDiff, Nat.reduceLT, Nat.reduceEqDiff, Nat.reduceBEq, ↓reduceIte, reduceCtorEq]; rfl))
      | ((first | with_reducible refine Ok_if (fun h => ?_) (fun h => ?_) | with_reducible refine Ok_get fun a h => ?_ | with_reducible refine Ok_call (g0 _) fun v => ?_ | refine Ok_call (g0 _) fun v => ?_) <;> simp only [SSA, RS, *, k_spec_CountOf_r4, e_spec_CountOf, Nat.reduceAdd, Nat.reduceSub, Nat.reduceMul, Nat.reduceLeDiff, Nat.reduceLT, Nat.reduceEqDiff, Nat.reduceBEq, ↓reduceIte, reduceCtorEq])
theorem spec_CountOf_ok (n : GNode) : Ok (spec_CountOf n) e_spec_CountOf (dn FTA n_spec_CountOf [.agg (((GNode.row false) n).map .t)]) := G_spec_CountOf.1 n
theorem spec_CountOf_l8_ok (k : Int) (i : Int) (n : GNode) : Ok (spec_CountOf_l8 k i n) e_spec_CountOf (ev FTA c_spec_CountOf (.loop k_spec_CountOf_l8) [.lv 0, .th k_spec_CountOf_r4] (putS (List.replicate 25 .dead) [(1, .ptr (1, 0) [] 0 0 1 0), (3, .t (.v (.int .i64 k))), (4, .t (.v (.int .i64 i)))]) (putR (List.replicate 25 []) [(1, [.mem [[.v (.int .i64 n.Kind), .v (.string n.Pre), .v (.string n.Local), .v (.string n.Uri), .sl false (n.Decls.map GDecl.row), .sl false (n.Attrs.map GAttr.row), .sl false (n.Kids.map (GNode.row false)), .v (.string n.Text)]] 0 false])])) := G_spec_CountOf.2 k i n

def e_spec_Cost (r : Int) : Res := ⟨[.t (.v (.int .i64 r))], []⟩
def c_spec_Cost : Cx := ⟨1, [0], [.tmp 2]⟩
theorem G_spec_Cost_l22 (l : List GOp) : (∀ (n2 : Int) (i : Int) (k1 : Int), Ok (spec_Cost_l22 l n2 i k1) e_spec_Cost (ev FTA c_spec_Cost (.loop k_spec_Cost_l22) [.lv 2, .lv 1, .th k_spec_Cost_r15, .hk [.clean []], .th (.loop k_spec_Cost_l8), .lv 0, .th k_spec_Cost_r4] (putS (List.replicate 36 .dead) [(0, .t (.sl false (l.map (GOp.row false)))), (3, .t (.v (.int .i64 n2))), (4, .t (.v (.int .i64 i))), (5, .t (.v (.int .i64 k1)))]) (putR (List.replicate 36 []) []))) ∧
    (∀ (n1 : Int) (i : Int), Ok (spec_Cost_l8 l n1 i) e_spec_Cost (ev FTA c_spec_Cost (.loop k_spec_Cost_l8) [.lv 0, .th k_spec_Cost_r4] (putS (List.replicate 36 .dead) [(0, .t (.sl false (l.map (GOp.row false)))), (3, .t (.v (.int .i64 n1))), (4, .t (.v (.int .i64 i)))]) (putR (List.replicate 36 []) []))) := by
  unfold Ok
  refine spec_Cost_l22.mutual_partial_correctness l _ _ ?_ ?_ 
  · intro F0 F1 ih0 ih1 n2 i k1
    show Ok _ _ _
    have ih0 : ∀ (n2 : Int) (i : Int) (k1 : Int), Ok (F0 n2 i k1) _ _ := ih0
    have ih1 : ∀ (n1 : Int) (i : Int), Ok (F1 n1 i) _ _ := ih1
    rw [ev_loop]
    have g0 := spec_CountOf_ok; try simp only [SSA, RS, Nat.reduceAdd, Nat.reduceSub, Nat.reduceMul, Nat.reduceLeDiff, Nat.reduceLT, Nat.reduceEqDiff, Nat.reduceBEq, ↓reduceIte, reduceCtorEq] at g0
    simp only [SSA, RS, c_spec_Cost, k_spec_Cost_l22, k_spec_Cost_r15, e_spec_CountOf, Nat.reduceAdd, Nat.reduceSub, Nat.reduceMul, Nat.reduceLeDiff, Nat.reduceLT, Nat.reduceEqDiff, Nat.reduceBEq, ↓reduceIte, reduceCtorEq]
    repeat' first
      | with_reducible exact Ok_none
      | ((with_reducible refine Ok_ret ?_); first | rfl | (simp only [SSA, RS, e_spec_Cost, Nat.reduceAdd, Nat.reduceSub, Nat.reduceMul, Nat.reduceLeDiff, Nat.reduceLT, Nat.reduceEqDiff, Nat.reduceBEq, ↓reduceIte, reduceCtorEq]; done))
      | ((with_reducible refine Ok_tail (ih0 _ _ _) ?_); first | rfl | (simp only [SSA, RS, c_spec_Cost, Nat.reduceAdd, Nat.reduceSub, Nat.reduceMul, Nat.reduceLeDiff, Nat.reduceLT, Nat.reduceEqDiff, Nat.reduceBEq, ↓reduceIte, reduceCtorEq]; done) | (simp only [SSA, RS, c_spec_Cost, Nat.reduceAdd, Nat.reduceSub, Nat.reduceMul, Nat.reduceLeDiff, Nat.reduceLT, Nat.reduceEqDiff, Nat.reduceBEq, ↓reduceIte, reduceCtorEq]; rfl))
      | ((with_reducible refine Ok_tail (ih1 _ _) ?_); first | rfl | (simp only [SSA, RS, c_spec_Cost, Nat.reduceAdd, Nat.reduceSub, Nat.reduceMul, Nat.reduceLeDiff, Nat.reduceLT, Nat.reduceEqDiff, Nat.reduceBEq, ↓reduceIte, reduceCtorEq]; done) | (simp only [SSA, RS, c_spec_Cost, Nat.reduceAdd, Nat.reduceSub, Nat.reduceMul, Nat.reduceLeDiff, Nat.reduceLT, Nat.reduceEqDiff, Nat.reduceBEq, ↓reduceIte, reduceCtorEq]; rfl))
      | ((first | with_reducible refine Ok_if (fun h => ?_) (fun h => ?_) | with_reducible refine Ok_get fun a h => ?_ | with_reducible refine Ok_call (g0 _) fun v => ?_ | refine Ok_call (g0 _) fun v => ?_) <;> simp only [SSA, RS, *, k_spec_Cost_r15, e_spec_CountOf, Nat.reduceAdd, Nat.reduceSub, Nat.reduceMul, Nat.reduceLeDiff, Nat.reduceLT, Nat.reduceEqDiff, Nat.reduceBEq, ↓reduceIte, reduceCtorEq])
  · intro F0 ih0 n1 i
    show Ok _ _ _
    have ih0 : ∀ (n2 : Int) (i : Int) (k1 : Int), Ok (F0 n2 i k1) _ _ := ih0
    rw [ev_loop]
    simp only [SSA, RS, c_spec_Cost, k_spec_Cost_l8, k_spec_Cost_r4, Nat.reduceAdd, Nat.reduceSub, Nat.reduceMul, Nat.reduceLeDiff, Nat.reduceLT, Nat.reduceEqDiff, Nat.reduceBEq, ↓reduceIte, reduceCtorEq]
    repeat' first
      | with_reducible exact Ok_none
      | ((with_reducible refine Ok_ret ?_); first | rfl | (simp only [SSA, RS, e_spec_Cost, Nat.reduceAdd, Nat.reduceSub, Nat.reduceMul, Nat.reduceLeDiff, Nat.reduceLT, Nat.reduceEqDiff, Nat.reduceBEq, ↓reduceIte, reduceCtorEq]; done))
      | ((with_reducible refine Ok_tail (ih0 _ _ _) ?_); first | rfl | (simp only [SSA, RS, c_spec_Cost, Nat.reduceAdd, Nat.reduceSub, Nat.reduceMul, Nat.reduceLeDiff, Nat.reduceLT, Nat.reduceEqDiff, Nat.reduceBEq, ↓reduceIte, reduceCtorEq]; done) | (simp only [SSA, RS, c_spec_Cost, Nat.reduceAdd, Nat.reduceSub, Nat.reduceMul, Nat.reduceLeDiff, Nat.reduceLT, Nat.reduceEqDiff, Nat.reduceBEq, ↓reduceIte, reduceCtorEq]; rfl))
      | ((first | with_reducible refine Ok_if (fun h => ?_) (fun h => ?_)) <;> simp only [SSA, RS, *, k_spec_Cost_r4, Nat.reduceAdd, Nat.reduceSub, Nat.reduceMul, Nat.reduceLeDiff, Nat.reduceLT, Nat.reduceEqDiff, Nat.reduceBEq, ↓reduceIte, reduceCtorEq])
theorem spec_Cost_l22_ok (l : List GOp) (n2 : Int) (i : Int) (k1 : Int) : Ok (spec_Cost_l22 l n2 i k1) e_spec_Cost (ev FTA c_spec_Cost (.loop k_spec_Cost_l22) [.lv 2, .lv 1, .th k_spec_Cost_r15, .hk [.clean []], .th (.loop k_spec_Cost_l8), .lv 0, .th k_spec_Cost_r4] (putS (List.replicate 36 .dead) [(0, .t (.sl false (l.map (GOp.row false)))), (3, .t (.v (.int .i64 n2))), (4, .t (.v (.int .i64 i))), (5, .t (.v (.int .i64 k1)))]) (putR (List.replicate 36 []) [])) := (G_spec_Cost_l22 l).1 n2 i k1
theorem spec_Cost_l8_ok (l : List GOp) (n1 : Int) (i : Int) : Ok (spec_Cost_l8 l n1 i) e_spec_Cost (ev FTA c_spec_Cost (.loop k_spec_Cost_l8) [.lv 0, .th k_spec_Cost_r4] (putS (List.replicate 36 .dead) [(0, .t (.sl false (l.map (GOp.row false)))), (3, .t (.v (.int .i64 n1))), (4, .t (.v (.int .i64 i)))]) (putR (List.replicate 36 []) [])) := (G_spec_Cost_l22 l).2 n1 i

theorem spec_Cost_ok : ∀ (l : List GOp), Ok (spec_Cost l) e_spec_Cost (dn FTA n_spec_Cost [.t (.sl false (l.map (GOp.row false)))]) := by
  intro l
  rw [den_ev FTA (fn := k_spec_Cost) rfl (cloneX_none rfl _) (Nat.le_of_ble_eq_true rfl)]
  simp only [SSA, RS, c_spec_Cost, k_spec_Cost, spec_Cost, Nat.reduceAdd, Nat.reduceSub, Nat.reduceMul, Nat.reduceLeDiff, Nat.reduceLT, Nat.reduceEqDiff, Nat.reduceBEq, ↓reduceIte, reduceCtorEq]
  repeat' first
    | with_reducible exact Ok_none
    | ((with_reducible refine Ok_ret ?_); first | rfl | (simp only [SSA, RS, e_spec_Cost, Nat.reduceAdd, Nat.reduceSub, Nat.reduceMul, Nat.reduceLeDiff, Nat.reduceLT, Nat.reduceEqDiff, Nat.reduceBEq, ↓reduceIte, reduceCtorEq]; done))
    | ((with_reducible refine Ok_tail (spec_Cost_l8_ok _ _ _) ?_); first | rfl | (simp only [SSA, RS, c_spec_Cost, Nat.reduceAdd, Nat.reduceSub, Nat.reduceMul, Nat.reduceLeDiff, Nat.reduceLT, Nat.reduceEqDiff, Nat.reduceBEq, ↓reduceIte, reduceCtorEq]; done) | (simp only [SSA, RS, c_spec_Cost, Nat.reduceAdd, Nat.reduceSub, Nat.reduceMul, Nat.reduceLeDiff, Nat.reduceLT, Nat.reduceEqDiff, Nat.reduceBEq, ↓reduceIte, reduceCtorEq]; rfl))

def e_impl_CountOf (r : Int) : Res := ⟨[.t (.v (.int .i64 r))], []⟩
def c_impl_CountOf : Cx := ⟨1, [0], [.tmp 2]⟩
theorem G_impl_CountOf : (∀ (n : GNode), Ok (impl_CountOf n) e_impl_CountOf (dn FTA n_impl_CountOf [.agg (((GNode.row false) n).map .t)])) ∧
    (∀ (out : Int) (n : GNode) (x1 : Int), Ok (impl_CountOf_l8 out n x1) e_impl_CountOf (ev FTA c_impl_CountOf (.loop k_impl_CountOf_l8) [.lv 0, .th k_impl_CountOf_r4] (putS (List.replicate 23 .dead) [(3, .t (.v (.int .i64 out))), (11, .t (.sl false (n.Kids.map (GNode.row false)))), (12, .t (.v (.int .i64 (lenL n.Kids)))), (13, .t (.v (.int .i64 x1)))]) (putR (List.replicate 23 []) []))) := by
  unfold Ok
  refine impl_CountOf.mutual_partial_correctness _ _ ?_ ?_ 
  · intro F1 ih1 n
    show Ok _ _ _
    have ih1 : ∀ (out : Int) (n : GNode) (x1 : Int), Ok (F1 out n x1) _ _ := ih1
    rw [den_ev FTA (fn := k_impl_CountOf) rfl (cloneX_none rfl _) (Nat.le_of_ble_eq_true rfl)]
    simp only [SSA, RS, c_impl_CountOf, k_impl_CountOf, Nat.reduceAdd, Nat.reduceSub, Nat.reduceMul, Nat.reduceLeDiff, Nat.reduceLT, Nat.reduceEqDiff, Nat.reduceBEq, ↓reduceIte, reduceCtorEq]
    repeat' first
      | with_reducible exact Ok_none
      | ((with_reducible refine Ok_ret ?_); first | rfl | (simp only [SSA, RS, e_impl_CountOf, Nat.reduceAdd, Nat.reduceSub, Nat.reduceMul, Nat.reduceLeDiff, Nat.reduceLT, Nat.reduceEqDiff, Nat.reduceBEq, ↓reduceIte, reduceCtorEq]; done))
      | ((with_reducible refine Ok_tail (ih1 _ _ _) ?_); first | rfl | (simp only [SSA, RS, c_impl_CountOf, Nat.reduceAdd, Nat.reduceSub, Nat.reduceMul, Nat.reduceLeDiff, Nat.reduceLT, Nat.reduceEqDiff, Nat.reduceBEq, ↓reduceIte, reduceCtorEq]; done) | (simp only [SSA, RS, c_impl_CountOf, Nat.reduceAdd, Nat.reduceSub, Nat.reduceMul, Nat.reduceLeDiff, Nat.reduceLT, Nat.reduceEqDiff, Nat.reduceBEq, ↓reduceIte, reduceCtorEq]; rfl))
  · intro F0 F1 ih0 ih1 out n x1
    show Ok _ _ _
    have ih0 : ∀ (n : GNode), Ok (F0 n) _ _ := ih0
    have ih1 : ∀ (out : Int) (n : GNode) (x1 : Int), Ok (F1 out n x1) _ _ := ih1
    rw [ev_loop]
    have g0 := ih0; try simp only [SSA, RS, Nat.reduceAdd, Nat.reduceSub, Nat.reduceMul, Nat.reduceLeDiff, Nat.reduceLT, Nat.reduceEqDiff, Nat.reduceBEq, ↓reduceIte, reduceCtorEq] at g0
    simp only [SSA, RS, c_impl_CountOf, k_impl_CountOf_l8, k_impl_CountOf_r4, e_impl_CountOf, Nat.reduceAdd, Nat.reduceSub, Nat.reduceMul, Nat.reduceLeDiff, Nat.reduceLT, Nat.reduceEqDiff, Nat.reduceBEq, ↓reduceIte, reduceCtorEq]
    repeat' first
      | with_reducible exact Ok_none
      | ((with_reducible refine Ok_ret ?_); first | rfl | (simp only [SSA, RS, e_impl_CountOf, Nat.reduceAdd, Nat.reduceSub, Nat.reduceMul, Nat.reduceLeDiff, Nat.reduceLT, Nat.reduceEqDiff, Nat.reduceBEq, ↓reduceIte, reduceCtorEq]; done))
      | ((with_reducible refine Ok_tail (ih1 _ _ _) ?_); first | rfl | (simp only [SSA, RS, c_impl_CountOf, Nat.reduceAdd, Nat.reduceSub, Nat.reduceMul, Nat.reduceLeDiff, Nat.reduceLT, Nat.reduceEqDiff, Nat.reduceBEq, ↓reduceIte, reduceCtorEq]; done) | (simp only [SSA, RS, c_impl_CountOf, Nat.reduceAdd, Nat.reduceSub, Nat.reduceMul, Nat.reduceLeDiff, Nat.reduceLT, Nat.reduceEqDiff, Nat.reduceBEq, ↓reduceIte, reduceCtorEq]; rfl))
      | ((first | with_reducible refine Ok_if (fun h => ?_) (fun h => ?_) | with_reducible refine Ok_get fun a h => ?_ | with_reducible refine Ok_call (g0 _) fun v => ?_ | refine Ok_call (g0 _) fun v => ?_) <;> simp only [SSA, RS, *, k_impl_CountOf_r4, e_impl_CountOf, Nat.reduceAdd, Nat.reduceSub, Nat.reduceMul, Nat.reduceLeDiff, Nat.reduceLT, Nat.reduceEqDiff, Nat.reduceBEq, ↓reduceIte, reduceCtorEq])
theorem impl_CountOf_ok (n : GNode) : Ok (impl_CountOf n) e_impl_CountOf (dn FTA n_impl_CountOf [.agg (((GNode.row false) n).map .t)]) := G_impl_CountOf.1 n
theorem impl_CountOf_l8_ok (out : Int) (n : GNode) (x1 : Int) : Ok (impl_CountOf_l8 out n x1) e_impl_CountOf (ev FTA c_impl_CountOf (.loop k_impl_CountOf_l8) [.lv 0, .th k_impl_CountOf_r4] (putS (List.replicate 23 .dead) [(3, .t (.v (.int .i64 out))), (11, .t (.sl false (n.Kids.map (GNode.row false)))), (12, .t (.v (.int .i64 (lenL n.Kids)))), (13, .t (.v (.int .i64 x1)))]) (putR (List.replicate 23 []) [])) := G_impl_CountOf.2 out n x1

def e_impl_Cost (r : Int) : Res := ⟨[.t (.v (.int .i64 r))], []⟩
def c_impl_Cost : Cx := ⟨1, [0], [.tmp 2]⟩
theorem G_impl_Cost_l22 (l : List GOp) : (∀ (out2 : Int) (x4 : Int) (x5 : GOp) (x7 : Int), Ok (impl_Cost_l22 out2 l x4 x5 x7) e_impl_Cost (ev FTA c_impl_Cost (.loop k_impl_Cost_l22) [.lv 2, .lv 1, .th k_impl_Cost_r15, .hk [.clean []], .th (.loop k_impl_Cost_l8), .lv 0, .th k_impl_Cost_r4] (putS (List.replicate 30 .dead) [(3, .t (.v (.int .i64 out2))), (10, .t (.sl false (l.map (GOp.row false)))), (11, .t (.v (.int .i64 (lenL l)))), (12, .t (.v (.int .i64 x4))), (17, .t (.sl false (x5.Kids.map (GNode.row false)))), (18, .t (.v (.int .i64 (lenL x5.Kids)))), (19, .t (.v (.int .i64 x7)))]) (putR (List.replicate 30 []) []))) ∧
    (∀ (out1 : Int) (x4 : Int), Ok (impl_Cost_l8 out1 l x4) e_impl_Cost (ev FTA c_impl_Cost (.loop k_impl_Cost_l8) [.lv 0, .th k_impl_Cost_r4] (putS (List.replicate 30 .dead) [(3, .t (.v (.int .i64 out1))), (10, .t (.sl false (l.map (GOp.row false)))), (11, .t (.v (.int .i64 (lenL l)))), (12, .t (.v (.int .i64 x4)))]) (putR (List.replicate 30 []) []))) := by
  unfold Ok
  refine impl_Cost_l22.mutual_partial_correctness l _ _ ?_ ?_ 
  · intro F0 F1 ih0 ih1 out2 x4 x5 x7
    show Ok _ _ _
    have ih0 : ∀ (out2 : Int) (x4 : Int) (x5 : GOp) (x7 : Int), Ok (F0 out2 x4 x5 x7) _ _ := ih0
    have ih1 : ∀ (out1 : Int) (x4 : Int), Ok (F1 out1 x4) _ _ := ih1
    rw [ev_loop]
    have g0 := impl_CountOf_ok; try simp only [SSA, RS, Nat.reduceAdd, Nat.reduceSub, Nat.reduceMul, Nat.reduceLeDiff, Nat.reduceLT, Nat.reduceEqDiff, Nat.reduceBEq, ↓reduceIte, reduceCtorEq] at g0
    simp only [SSA, RS, c_impl_Cost, k_impl_Cost_l22, k_impl_Cost_r15, e_impl_CountOf, Nat.reduceAdd, Nat.reduceSub, Nat.reduceMul, Nat.reduceLeDiff, Nat.reduceLT, Nat.reduceEqDiff, Nat.reduceBEq, ↓reduceIte, reduceCtorEq]
    repeat' first
      | with_reducible exact Ok_none
      | ((with_reducible refine Ok_ret ?_); first | rfl | (simp only [SSA, RS, e_impl_Cost, Nat.reduceAdd, Nat.reduceSub, Nat.reduceMul, Nat.reduceLeDiff, Nat.reduceLT, Nat.reduceEqDiff, Nat.reduceBEq, ↓reduceIte, reduceCtorEq]; done))
      | ((with_reducible refine Ok_tail (ih0 _ _ _ _) ?_); first | rfl | (simp only [SSA, RS, c_impl_Cost, Nat.reduceAdd, Nat.reduceSub, Nat.reduceMul, Nat.reduceLeDiff, Nat.reduceLT, Nat.reduceEqDiff, Nat.reduceBEq, ↓reduceIte, reduceCtorEq]; done) | (simp only [SSA, RS, c_impl_Cost, Nat.reduceAdd, Nat.reduceSub, Nat.reduceMul, Nat.reduceLeDiff, Nat.reduceLT, Nat.reduceEqDiff, Nat.reduceBEq, ↓reduceIte, reduceCtorEq]; rfl))
      | ((with_reducible refine Ok_tail (ih1 _ _) ?_); first | rfl | (simp only [SSA, RS, c_impl_Cost, Nat.reduceAdd, Nat.reduceSub, Nat.reduceMul, Nat.reduceLeDiff, Nat.reduceLT, Nat.reduceEqDiff, Nat.reduceBEq, ↓reduceIte, reduceCtorEq]; done) | (simp only [SSA, RS, c_impl_Cost, Nat.reduceAdd, Nat.reduceSub, Nat.reduceMul, Nat.reduceLeDiff, Nat.reduceLT, Nat.reduceEqDiff, Nat.reduceBEq, ↓reduceIte, reduceCtorEq]; rfl))
      | ((first | with_reducible refine Ok_if (fun h => ?_) (fun h => ?_) | with_reducible refine Ok_get fun a h => ?_ | with_reducible refine Ok_call (g0 _) fun v => ?_ | refine Ok_call (g0 _) fun v => ?_) <;> simp only [SSA, RS, *, k_impl_Cost_r15, e_impl_CountOf, Nat.reduceAdd, Nat.reduceSub, Nat.reduceMul, Nat.reduceLeDiff, Nat.reduceLT, Nat.reduceEqDiff, Nat.reduceBEq, ↓reduceIte, reduceCtorEq])
  · intro F0 ih0 out1 x4
    show Ok _ _ _
    have ih0 : ∀ (out2 : Int) (x4 : Int) (x5 : GOp) (x7 : Int), Ok (F0 out2 x4 x5 x7) _ _ := ih0
    rw [ev_loop]
    simp only [SSA, RS, c_impl_Cost, k_impl_Cost_l8, k_impl_Cost_r4, Nat.reduceAdd, Nat.reduceSub, Nat.reduceMul, Nat.reduceLeDiff, Nat.reduceLT, Nat.reduceEqDiff, Nat.reduceBEq, ↓reduceIte, reduceCtorEq]
    repeat' first
      | with_reducible exact Ok_none
      | ((with_reducible refine Ok_ret ?_); first | rfl | (simp only [SSA, RS, e_impl_Cost, Nat.reduceAdd, Nat.reduceSub, Nat.reduceMul, Nat.reduceLeDiff, Nat.reduceLT, Nat.reduceEqDiff, Nat.reduceBEq, ↓reduceIte, reduceCtorEq]; done))
      | ((with_reducible refine Ok_tail (ih0 _ _ _ _) ?_); first | rfl | (simp only [SSA, RS, c_impl_Cost, Nat.reduceAdd, Nat.reduceSub, Nat.reduceMul, Nat.reduceLeDiff, Nat.reduceLT, Nat.reduceEqDiff, Nat.reduceBEq, ↓reduceIte, reduceCtorEq]; done) | (simp only [SSA, RS, c_impl_Cost, Nat.reduceAdd, Nat.reduceSub, Nat.reduceMul, Nat.reduceLeDiff, Nat.reduceLT, Nat.reduceEqDiff, Nat.reduceBEq, ↓reduceIte, reduceCtorEq]; rfl))
      | ((first | with_reducible refine Ok_if (fun h => ?_) (fun h => ?_) | with_reducible refine Ok_get fun a h => ?_) <;> simp only [SSA, RS, *, k_impl_Cost_r4, Nat.reduceAdd, Nat.reduceSub, Nat.reduceMul, Nat.reduceLeDiff, Nat.reduceLT, Nat.reduceEqDiff, Nat.reduceBEq, ↓reduceIte, reduceCtorEq])
theorem impl_Cost_l22_ok (out2 : Int) (l : List GOp) (x4 : Int) (x5 : GOp) (x7 : Int) : Ok (impl_Cost_l22 out2 l x4 x5 x7) e_impl_Cost (ev FTA c_impl_Cost (.loop k_impl_Cost_l22) [.lv 2, .lv 1, .th k_impl_Cost_r15, .hk [.clean []], .th (.loop k_impl_Cost_l8), .lv 0, .th k_impl_Cost_r4] (putS (List.replicate 30 .dead) [(3, .t (.v (.int .i64 out2))), (10, .t (.sl false (l.map (GOp.row false)))), (11, .t (.v (.int .i64 (lenL l)))), (12, .t (.v (.int .i64 x4))), (17, .t (.sl false (x5.Kids.map (GNode.row false)))), (18, .t (.v (.int .i64 (lenL x5.Kids)))), (19, .t (.v (.int .i64 x7)))]) (putR (List.replicate 30 []) [])) := (G_impl_Cost_l22 l).1 out2 x4 x5 x7
theorem impl_Cost_l8_ok (out1 : Int) (l : List GOp) (x4 : Int) : Ok (impl_Cost_l8 out1 l x4) e_impl_Cost (ev FTA c_impl_Cost (.loop k_impl_Cost_l8) [.lv 0, .th k_impl_Cost_r4] (putS (List.replicate 30 .dead) [(3, .t (.v (.int .i64 out1))), (10, .t (.sl false (l.map (GOp.row false)))), (11, .t (.v (.int .i64 (lenL l)))), (12, .t (.v (.int .i64 x4)))]) (putR (List.replicate 30 []) [])) := (G_impl_Cost_l22 l).2 out1 x4

theorem impl_Cost_ok : ∀ (l : List GOp), Ok (impl_Cost l) e_impl_Cost (dn FTA n_impl_Cost [.t (.sl false (l.map (GOp.row false)))]) := by
  intro l
  rw [den_ev FTA (fn := k_impl_Cost) rfl (cloneX_none rfl _) (Nat.le_of_ble_eq_true rfl)]
  simp only [SSA, RS, c_impl_Cost, k_impl_Cost, impl_Cost, Nat.reduceAdd, Nat.reduceSub, Nat.reduceMul, Nat.reduceLeDiff, Nat.reduceLT, Nat.reduceEqDiff, Nat.reduceBEq, ↓reduceIte, reduceCtorEq]
  repeat' first
    | with_reducible exact Ok_none
    | ((with_reducible refine Ok_ret ?_); first | rfl | (simp only [SSA, RS, e_impl_Cost, Nat.reduceAdd, Nat.reduceSub, Nat.reduceMul, Nat.reduceLeDiff, Nat.reduceLT, Nat.reduceEqDiff, Nat.reduceBEq, ↓reduceIte, reduceCtorEq]; done))
    | ((with_reducible refine Ok_tail (impl_Cost_l8_ok _ _ _) ?_); first | rfl | (simp only [SSA, RS, c_impl_Cost, Nat.reduceAdd, Nat.reduceSub, Nat.reduceMul, Nat.reduceLeDiff, Nat.reduceLT, Nat.reduceEqDiff, Nat.reduceBEq, ↓reduceIte, reduceCtorEq]; done) | (simp only [SSA, RS, c_impl_Cost, Nat.reduceAdd, Nat.reduceSub, Nat.reduceMul, Nat.reduceLeDiff, Nat.reduceLT, Nat.reduceEqDiff, Nat.reduceBEq, ↓reduceIte, reduceCtorEq]; rfl))

def e_laws_eqPred (r : Bool) : Res := ⟨[.t (.v (.bool r))], []⟩
def c_laws_eqPred : Cx := ⟨2, [0, 0], [.tmp 4]⟩
theorem laws_eqPred_ok : ∀ (a : GPred) (b : GPred), Ok (laws_eqPred a b) e_laws_eqPred (dn FTA n_laws_eqPred [.agg ((GPred.row a).map .t), .agg ((GPred.row b).map .t)]) := by
  intro a b
  rw [den_ev FTA (fn := k_laws_eqPred) rfl (cloneX_none rfl _) (Nat.le_of_ble_eq_true rfl)]
  simp only [SSA, RS, c_laws_eqPred, k_laws_eqPred, laws_eqPred, Nat.reduceAdd, Nat.reduceSub, Nat.reduceMul, Nat.reduceLeDiff, Nat.reduceLT, Nat.reduceEqDiff, Nat.reduceBEq, ↓reduceIte, reduceCtorEq]
  repeat' first
    | with_reducible exact Ok_none
    | ((with_reducible refine Ok_ret ?_); first | rfl | (simp only [SSA, RS, e_laws_eqPred, Nat.reduceAdd, Nat.reduceSub, Nat.reduceMul, Nat.reduceLeDiff, Nat.reduceLT, Nat.reduceEqDiff, Nat.reduceBEq, ↓reduceIte, reduceCtorEq]; done))
    | ((first | with_reducible refine Ok_if (fun h => ?_) (fun h => ?_)) <;> simp only [SSA, RS, *, Nat.reduceAdd, Nat.reduceSub, Nat.reduceMul, Nat.reduceLeDiff, Nat.reduceLT, Nat.reduceEqDiff, Nat.reduceBEq, ↓reduceIte, reduceCtorEq])

def e_laws_eqPredS (r : Bool) : Res := ⟨[.t (.v (.bool r))], []⟩
def c_laws_eqPredS : Cx := ⟨2, [0, 0], [.tmp 4]⟩
theorem laws_eqPredS_l14_ok' (a : List GPred) (b : List GPred) : ∀ (i : Int), Ok (laws_eqPredS_l14 a b i) e_laws_eqPredS (ev FTA c_laws_eqPredS (.loop k_laws_eqPredS_l14) [.lv 0, .th k_laws_eqPredS_r10] (putS (List.replicate 27 .dead) [(0, .t (.sl false (a.map GPred.row))), (1, .t (.sl false (b.map GPred.row))), (5, .t (.v (.int .i64 i)))]) (putR (List.replicate 27 []) [])) := by
  unfold Ok
  refine laws_eqPredS_l14.partial_correctness a b _ ?_
  intro F ih i
  show Ok _ _ _
  have ih : ∀ (i : Int), Ok (F i) _ _ := ih
  rw [ev_loop]
  have g0 := laws_eqPred_ok; try simp only [SSA, RS, Nat.reduceAdd, Nat.reduceSub, Nat.reduceMul, Nat.reduceLeDiff, Nat.reduceLT, Nat.reduceEqDiff, Nat.reduceBEq, ↓reduceIte, reduceCtorEq] at g0
  simp only [SSA, RS, c_laws_eqPredS, k_laws_eqPredS_l14, k_laws_eqPredS_r10, e_laws_eqPred, Nat.reduceAdd, Nat.reduceSub, Nat.reduceMul, Nat.reduceLeDiff, Nat.reduceLT, Nat.reduceEqDiff, Nat.reduceBEq, ↓reduceIte, reduceCtorEq]
  repeat' first
    | with_reducible exact Ok_none
    | ((with_reducible refine Ok_ret ?_); first | rfl | (simp only [SSA, RS, e_laws_eqPredS, Nat.reduceAdd, Nat.reduceSub, Nat.reduceMul, Nat.reduceLeDiff, Nat.reduceLT, Nat.reduceEqDiff, Nat.reduceBEq, ↓reduceIte, reduceCtorEq]; done))
    | ((with_reducible refine Ok_tail (ih _) ?_); first | rfl | (simp only [SSA, RS, c_laws_eqPredS, Nat.reduceAdd, Nat.reduceSub, Nat.reduceMul, Nat.reduceLeDiff, Nat.reduceLT, Nat.reduceEqDiff, Nat.reduceBEq, ↓reduceIte, reduceCtorEq]; done) | (simp only [SSA, RS, c_laws_eqPredS, Nat.reduceAdd, Nat.reduceSub, Nat.reduceMul, Nat.reduceLeDiff, Nat.reduceLT, Nat.reduceEqDiff, Nat.reduceBEq, ↓reduceIte, reduceCtorEq]; rfl))
    | ((first | with_reducible refine Ok_if (fun h => ?_) (fun h => ?_) | with_reducible refine Ok_get fun a h => ?_ | with_reducible refine Ok_call (g0 _ _) fun v => ?_ | refine Ok_call (g0 _ _) fun v => ?_) <;> simp only [SSA, RS, *, k_laws_eqPredS_r10, e_laws_eqPred, Nat.reduceAdd, Nat.reduceSub, Nat.reduceMul, Nat.reduceLeDiff, Nat.reduceLT, Nat.reduceEqDiff, Nat.reduceBEq, ↓reduceIte, reduceCtorEq])
theorem laws_eqPredS_l14_ok (a : List GPred) (b : List GPred) (i : Int) : Ok (laws_eqPredS_l14 a b i) e_laws_eqPredS (ev FTA c_laws_eqPredS (.loop k_laws_eqPredS_l14) [.lv 0, .th k_laws_eqPredS_r10] (putS (List.replicate 27 .dead) [(0, .t (.sl false (a.map GPred.row))), (1, .t (.sl false (b.map GPred.row))), (5, .t (.v (.int .i64 i)))]) (putR (List.replicate 27 []) [])) := laws_eqPredS_l14_ok' a b i

theorem laws_eqPredS_ok : ∀ (a : List GPred) (b : List GPred), Ok (laws_eqPredS a b) e_laws_eqPredS (dn FTA n_laws_eqPredS [.t (.sl false (a.map GPred.row)), .t (.sl false (b.map GPred.row))]) := by
  intro a b
  rw [den_ev FTA (fn := k_laws_eqPredS) rfl (cloneX_none rfl _) (Nat.le_of_ble_eq_true rfl)]
  simp only [SSA, RS, c_laws_eqPredS, k_laws_eqPredS, laws_eqPredS, Nat.reduceAdd, Nat.reduceSub, Nat.reduceMul, Nat.reduceLeDiff, Nat.reduceLT, Nat.reduceEqDiff, Nat.reduceBEq, ↓reduceIte, reduceCtorEq]
  repeat' first
    | with_reducible exact Ok_none
    | ((with_reducible refine Ok_ret ?_); first | rfl | (simp only [SSA, RS, e_laws_eqPredS, Nat.reduceAdd, Nat.reduceSub, Nat.reduceMul, Nat.reduceLeDiff, Nat.reduceLT, Nat.reduceEqDiff, Nat.reduceBEq, ↓reduceIte, reduceCtorEq]; done))
    | ((with_reducible refine Ok_tail (laws_eqPredS_l14_ok _ _ _) ?_); first | rfl | (simp only [SSA, RS, c_laws_eqPredS, Nat.reduceAdd, Nat.reduceSub, Nat.reduceMul, Nat.reduceLeDiff, Nat.reduceLT, Nat.reduceEqDiff, Nat.reduceBEq, ↓reduceIte, reduceCtorEq]; done) | (simp only [SSA, RS, c_laws_eqPredS, Nat.reduceAdd, Nat.reduceSub, Nat.reduceMul, Nat.reduceLeDiff, Nat.reduceLT, Nat.reduceEqDiff, Nat.reduceBEq, ↓reduceIte, reduceCtorEq]; rfl))
    | ((first | with_reducible refine Ok_if (fun h => ?_) (fun h => ?_)) <;> simp only [SSA, RS, *, Nat.reduceAdd, Nat.reduceSub, Nat.reduceMul, Nat.reduceLeDiff, Nat.reduceLT, Nat.reduceEqDiff, Nat.reduceBEq, ↓reduceIte, reduceCtorEq])

def e_laws_eqStep (r : Bool) : Res := ⟨[.t (.v (.bool r))], []⟩
def c_laws_eqStep : Cx := ⟨2, [0, 0], [.tmp 4]⟩
theorem laws_eqStep_ok : ∀ (a : GStp) (b : GStp), Ok (laws_eqStep a b) e_laws_eqStep (dn FTA n_laws_eqStep [.agg (((GStp.row false) a).map .t), .agg (((GStp.row false) b).map .t)]) := by
  intro a b
  rw [den_ev FTA (fn := k_laws_eqStep) rfl (cloneX_none rfl _) (Nat.le_of_ble_eq_true rfl)]
  have g0 := laws_eqPredS_ok; try simp only [SSA, RS, Nat.reduceAdd, Nat.reduceSub, Nat.reduceMul, Nat.reduceLeDiff, Nat.reduceLT, Nat.reduceEqDiff, Nat.reduceBEq, ↓reduceIte, reduceCtorEq] at g0
  simp only [SSA, RS, c_laws_eqStep, k_laws_eqStep, laws_eqStep, e_laws_eqPredS, Nat.reduceAdd, Nat.reduceSub, Nat.reduceMul, Nat.reduceLeDiff, Nat.reduceLT, Nat.reduceEqDiff, Nat.reduceBEq, ↓reduceIte, reduceCtorEq]
  repeat' first
    | with_reducible exact Ok_none
    | ((with_reducible refine Ok_ret ?_); first | rfl | (simp only [SSA, RS, e_laws_eqStep, Nat.reduceAdd, Nat.reduceSub, Nat.reduceMul, Nat.reduceLeDiff, Nat.reduceLT, Nat.reduceEqDiff, Nat.reduceBEq, ↓reduceIte, reduceCtorEq]; done))
    | ((first | with_reducible refine Ok_if (fun h => ?_) (fun h => ?_) | with_reducible refine Ok_call (g0 _ _) fun v => ?_ | refine Ok_call (g0 _ _) fun v => ?_) <;> simp only [SSA, RS, *, e_laws_eqPredS, Nat.reduceAdd, Nat.reduceSub, Nat.reduceMul, Nat.reduceLeDiff, Nat.reduceLT, Nat.reduceEqDiff, Nat.reduceBEq, ↓reduceIte, reduceCtorEq])

def e_laws_eqStepS (r : Bool) : Res := ⟨[.t (.v (.bool r))], []⟩
def c_laws_eqStepS : Cx := ⟨2, [0, 0], [.tmp 4]⟩
theorem laws_eqStepS_l14_ok' (a : List GStp) (b : List GStp) : ∀ (i : Int), Ok (laws_eqStepS_l14 a b i) e_laws_eqStepS (ev FTA c_laws_eqStepS (.loop k_laws_eqStepS_l14) [.lv 0, .th k_laws_eqStepS_r10] (putS (List.replicate 27 .dead) [(0, .t (.sl false (a.map (GStp.row false)))), (1, .t (.sl false (b.map (GStp.row false)))), (5, .t (.v (.int .i64 i)))]) (putR (List.replicate 27 []) [])) := by
  unfold Ok
  refine laws_eqStepS_l14.partial_correctness a b _ ?_
  intro F ih i
  show Ok _ _ _
  have ih : ∀ (i : Int), Ok (F i) _ _ := ih
  rw [ev_loop]
  have g0 := laws_eqStep_ok; try simp only [SSA, RS, Nat.reduceAdd, Nat.reduceSub, Nat.reduceMul, Nat.reduceLeDiff, Nat.reduceLT, Nat.reduceEqDiff, Nat.reduceBEq, ↓reduceIte, reduceCtorEq] at g0
  simp only [SSA, RS, c_laws_eqStepS, k_laws_eqStepS_l14, k_laws_eqStepS_r10, e_laws_eqStep, Nat.reduceAdd, Nat.reduceSub, Nat.reduceMul, Nat.reduceLeDiff, Nat.reduceLT, Nat.reduceEqDiff, Nat.reduceBEq, ↓reduceIte, reduceCtorEq]
  repeat' first
    | with_reducible exact Ok_none
    | ((with_reducible refine Ok_ret ?_); first | rfl | (simp only [SSA, RS, e_laws_eqStepS, Nat.reduceAdd, Nat.reduceSub, Nat.reduceMul, Nat.reduceLeDiff, Nat.reduceLT, Nat.reduceEqDiff, Nat.reduceBEq, ↓reduceIte, reduceCtorEq]; done))
    | ((with_reducible refine Ok_tail (ih _) ?_); first | rfl | (simp only [SSA, RS, c_laws_eqStepS, Nat.reduceAdd, Nat.reduceSub, Nat.reduceMul, Nat.reduceLeDiff, Nat.reduceLT, Nat.reduceEqDiff, Nat.reduceBEq, ↓reduceIte, reduceCtorEq]; done) | (simp only [SSA, RS, c_laws_eqStepS, Nat.reduceAdd, Nat.reduceSub, Nat.reduceMul, Nat.reduceLeDiff, Nat.reduceLT, Nat.reduceEqDiff, Nat.reduceBEq, ↓reduceIte, reduceCtorEq]; rfl))
    | ((first | with_reducible refine Ok_if (fun h => ?_) (fun h => ?_) | with_reducible refine Ok_get fun a h => ?_ | with_reducible refine Ok_call (g0 _ _) fun v => ?_ | refine Ok_call (g0 _ _) fun v => ?_) <;> simp only [SSA, RS, *, k_laws_eqStepS_r10, e_laws_eqStep, Nat.reduceAdd, Nat.reduceSub, Nat.reduceMul, Nat.reduceLeDiff, Nat.reduceLT, Nat.reduceEqDiff, Nat.reduceBEq, ↓reduceIte, reduceCtorEq])
theorem laws_eqStepS_l14_ok (a : List GStp) (b : List GStp) (i : Int) : Ok (laws_eqStepS_l14 a b i) e_laws_eqStepS (ev FTA c_laws_eqStepS (.loop k_laws_eqStepS_l14) [.lv 0, .th k_laws_eqStepS_r10] (putS (List.replicate 27 .dead) [(0, .t (.sl false (a.map (GStp.row false)))), (1, .t (.sl false (b.map (GStp.row false)))), (5, .t (.v (.int .i64 i)))]) (putR (List.replicate 27 []) [])) := laws_eqStepS_l14_ok' a b i

theorem laws_eqStepS_ok : ∀ (a : List GStp) (b : List GStp), Ok (laws_eqStepS a b) e_laws_eqStepS (dn FTA n_laws_eqStepS [.t (.sl false (a.map (GStp.row false))), .t (.sl false (b.map (GStp.row false)))]) := by
  intro a b
  rw [den_ev FTA (fn := k_laws_eqStepS) rfl (cloneX_none rfl _) (Nat.le_of_ble_eq_true rfl)]
  simp only [SSA, RS, c_laws_eqStepS, k_laws_eqStepS, laws_eqStepS, Nat.reduceAdd, Nat.reduceSub, Nat.reduceMul, Nat.reduceLeDiff, Nat.reduceLT, Nat.reduceEqDiff, Nat.reduceBEq, ↓reduceIte, reduceCtorEq]
  repeat' first
    | with_reducible exact Ok_none
    | ((with_reducible refine Ok_ret ?_); first | rfl | (simp only [SSA, RS, e_laws_eqStepS, Nat.reduceAdd, Nat.reduceSub, Nat.reduceMul, Nat.reduceLeDiff, Nat.reduceLT, Nat.reduceEqDiff, Nat.reduceBEq, ↓reduceIte, reduceCtorEq]; done))
    | ((with_reducible refine Ok_tail (laws_eqStepS_l14_ok _ _ _) ?_); first | rfl | (simp only [SSA, RS, c_laws_eqStepS, Nat.reduceAdd, Nat.reduceSub, Nat.reduceMul, Nat.reduceLeDiff, Nat.reduceLT, Nat.reduceEqDiff, Nat.reduceBEq, ↓reduceIte, reduceCtorEq]; done) | (simp only [SSA, RS, c_laws_eqStepS, Nat.reduceAdd, Nat.reduceSub, Nat.reduceMul, Nat.reduceLeDiff, Nat.reduceLT, Nat.reduceEqDiff, Nat.reduceBEq, ↓reduceIte, reduceCtorEq]; rfl))
    | ((first | with_reducible refine Ok_if (fun h => ?_) (fun h => ?_)) <;> simp only [SSA, RS, *, Nat.reduceAdd, Nat.reduceSub, Nat.reduceMul, Nat.reduceLeDiff, Nat.reduceLT, Nat.reduceEqDiff, Nat.reduceBEq, ↓reduceIte, reduceCtorEq])

def e_laws_eqSel (r : Bool) : Res := ⟨[.t (.v (.bool r))], []⟩
def c_laws_eqSel : Cx := ⟨2, [0, 0], [.tmp 4]⟩
theorem laws_eqSel_ok : ∀ (a : GSel) (b : GSel), Ok (laws_eqSel a b) e_laws_eqSel (dn FTA n_laws_eqSel [.agg (((GSel.row false) a).map .t), .agg (((GSel.row false) b).map .t)]) := by
  intro a b
  rw [den_ev FTA (fn := k_laws_eqSel) rfl (cloneX_none rfl _) (Nat.le_of_ble_eq_true rfl)]
  have g0 := laws_eqStepS_ok; try simp only [SSA, RS, Nat.reduceAdd, Nat.reduceSub, Nat.reduceMul, Nat.reduceLeDiff, Nat.reduceLT, Nat.reduceEqDiff, Nat.reduceBEq, ↓reduceIte, reduceCtorEq] at g0
  simp only [SSA, RS, c_laws_eqSel, k_laws_eqSel, laws_eqSel, e_laws_eqStepS, Nat.reduceAdd, Nat.reduceSub, Nat.reduceMul, Nat.reduceLeDiff, Nat.reduceLT, Nat.reduceEqDiff, Nat.reduceBEq, ↓reduceIte, reduceCtorEq]
  repeat' first
    | with_reducible exact Ok_none
    | ((with_reducible refine Ok_ret ?_); first | rfl | (simp only [SSA, RS, e_laws_eqSel, Nat.reduceAdd, Nat.reduceSub, Nat.reduceMul, Nat.reduceLeDiff, Nat.reduceLT, Nat.reduceEqDiff, Nat.reduceBEq, ↓reduceIte, reduceCtorEq]; done))
    | ((first | with_reducible refine Ok_if (fun h => ?_) (fun h => ?_) | with_reducible refine Ok_call (g0 _ _) fun v => ?_ | refine Ok_call (g0 _ _) fun v => ?_) <;> simp only [SSA, RS, *, e_laws_eqStepS, Nat.reduceAdd, Nat.reduceSub, Nat.reduceMul, Nat.reduceLeDiff, Nat.reduceLT, Nat.reduceEqDiff, Nat.reduceBEq, ↓reduceIte, reduceCtorEq])

def e_laws_eqDecl (r : Bool) : Res := ⟨[.t (.v (.bool r))], []⟩
def c_laws_eqDecl : Cx := ⟨2, [0, 0], [.tmp 4]⟩
theorem laws_eqDecl_ok : ∀ (a : GDecl) (b : GDecl), Ok (laws_eqDecl a b) e_laws_eqDecl (dn FTA n_laws_eqDecl [.agg ((GDecl.row a).map .t), .agg ((GDecl.row b).map .t)]) := by
  intro a b
  rw [den_ev FTA (fn := k_laws_eqDecl) rfl (cloneX_none rfl _) (Nat.le_of_ble_eq_true rfl)]
  simp only [SSA, RS, c_laws_eqDecl, k_laws_eqDecl, laws_eqDecl, Nat.reduceAdd, Nat.reduceSub, Nat.reduceMul, Nat.reduceLeDiff, Nat.reduceLT, Nat.reduceEqDiff, Nat.reduceBEq, ↓reduceIte, reduceCtorEq]
  repeat' first
    | with_reducible exact Ok_none
    | ((with_reducible refine Ok_ret ?_); first | rfl | (simp only [SSA, RS, e_laws_eqDecl, Nat.reduceAdd, Nat.reduceSub, Nat.reduceMul, Nat.reduceLeDiff, Nat.reduceLT, Nat.reduceEqDiff, Nat.reduceBEq, ↓reduceIte, reduceCtorEq]; done))
    | ((first | with_reducible refine Ok_if (fun h => ?_) (fun h => ?_)) <;> simp only [SSA, RS, *, Nat.reduceAdd, Nat.reduceSub, Nat.reduceMul, Nat.reduceLeDiff, Nat.reduceLT, Nat.reduceEqDiff, Nat.reduceBEq, ↓reduceIte, reduceCtorEq])

def e_laws_eqDeclS (r : Bool) : Res := ⟨[.t (.v (.bool r))], []⟩
def c_laws_eqDeclS : Cx := ⟨2, [0, 0], [.tmp 4]⟩
theorem laws_eqDeclS_l14_ok' (a : List GDecl) (b : List GDecl) : ∀ (i : Int), Ok (laws_eqDeclS_l14 a b i) e_laws_eqDeclS (ev FTA c_laws_eqDeclS (.loop k_laws_eqDeclS_l14) [.lv 0, .th k_laws_eqDeclS_r10] (putS (List.replicate 27 .dead) [(0, .t (.sl false (a.map GDecl.row))), (1, .t (.sl false (b.map GDecl.row))), (5, .t (.v (.int .i64 i)))]) (putR (List.replicate 27 []) [])) := by
  unfold Ok
  refine laws_eqDeclS_l14.partial_correctness a b _ ?_
  intro F ih i
  show Ok _ _ _
  have ih : ∀ (i : Int), Ok (F i) _ _ := ih
  rw [ev_loop]
  have g0 := laws_eqDecl_ok; try simp only [SSA, RS, Nat.reduceAdd, Nat.reduceSub, Nat.reduceMul, Nat.reduceLeDiff, Nat.reduceLT, Nat.reduceEqDiff, Nat.reduceBEq, ↓reduceIte, reduceCtorEq] at g0
  simp only [SSA, RS, c_laws_eqDeclS, k_laws_eqDeclS_l14, k_laws_eqDeclS_r10, e_laws_eqDecl, Nat.reduceAdd, Nat.reduceSub, Nat.reduceMul, Nat.reduceLeDiff, Nat.reduceLT, Nat.reduceEqDiff, Nat.reduceBEq, ↓reduceIte, reduceCtorEq]
  repeat' first
    | with_reducible exact Ok_none
    | ((with_reducible refine Ok_ret ?_); first | rfl | (simp only [SSA, RS, e_laws_eqDeclS, Nat.reduceAdd, Nat.reduceSub, Nat.reduceMul, Nat.reduceLeDiff, Nat.reduceLT, Nat.reduceEqDiff, Nat.reduceBEq, ↓reduceIte, reduceCtorEq]; done))
    | ((with_reducible refine Ok_tail (ih _) ?_); first | rfl | (simp only [SSA, RS, c_laws_eqDeclS, Nat.reduceAdd, Nat.reduceSub, Nat.reduceMul, Nat.reduceLeDiff, Nat.reduceLT, Nat.reduceEqDiff, Nat.reduceBEq, ↓reduceIte, reduceCtorEq]; done) | (simp only [SSA, RS, c_laws_eqDeclS, Nat.reduceAdd, Nat.reduceSub, Nat.reduceMul, Nat.reduceLeDiff, Nat.reduceLT, Nat.reduceEqDiff, Nat.reduceBEq, ↓reduceIte, reduceCtorEq]; rfl))
    | ((first | with_reducible refine Ok_if (fun h => ?_) (fun h => ?_) | with_reducible refine Ok_get fun a h => ?_ | with_reducible refine Ok_call (g0 _ _) fun v => ?_ | refine Ok_call (g0 _ _) fun v => ?_) <;> simp only [SSA, RS, *, k_laws_eqDeclS_r10, e_laws_eqDecl, Nat.reduceAdd, Nat.reduceSub, Nat.reduceMul, Nat.reduceLeDiff, Nat.reduceLT, Nat.reduceEqDiff, Nat.reduceBEq, ↓reduceIte, reduceCtorEq])
theorem laws_eqDeclS_l14_ok (a : List GDecl) (b : List GDecl) (i : Int) : Ok (laws_eqDeclS_l14 a b i) e_laws_eqDeclS (ev FTA c_laws_eqDeclS (.loop k_laws_eqDeclS_l14) [.lv 0, .th k_laws_eqDeclS_r10] (putS (List.replicate 27 .dead) [(0, .t (.sl false (a.map GDecl.row))), (1, .t (.sl false (b.map GDecl.row))), (5, .t (.v (.int .i64 i)))]) (putR (List.replicate 27 []) [])) := laws_eqDeclS_l14_ok' a b i

theorem laws_eqDeclS_ok : ∀ (a : List GDecl) (b : List GDecl), Ok (laws_eqDeclS a b) e_laws_eqDeclS (dn FTA n_laws_eqDeclS [.t (.sl false (a.map GDecl.row)), .t (.sl false (b.map GDecl.row))]) := by
  intro a b
  rw [den_ev FTA (fn := k_laws_eqDeclS) rfl (cloneX_none rfl _) (Nat.le_of_ble_eq_true rfl)]
  simp only [SSA, RS, c_laws_eqDeclS, k_laws_eqDeclS, laws_eqDeclS, Nat.reduceAdd, Nat.reduceSub, Nat.reduceMul, Nat.reduceLeDiff, Nat.reduceLT, Nat.reduceEqDiff, Nat.reduceBEq, ↓reduceIte, reduceCtorEq]
  repeat' first
    | with_reducible exact Ok_none
    | ((with_reducible refine Ok_ret ?_); first | rfl | (simp only [SSA, RS, e_laws_eqDeclS, Nat.reduceAdd, Nat.reduceSub, Nat.reduceMul, Nat.reduceLeDiff, Nat.reduceLT, Nat.reduceEqDiff, Nat.reduceBEq, ↓reduceIte, reduceCtorEq]; done))
    | ((with_reducible refine Ok_tail (laws_eqDeclS_l14_ok _ _ _) ?_); first | rfl | (simp only [SSA, RS, c_laws_eqDeclS, Nat.reduceAdd, Nat.reduceSub, Nat.reduceMul, Nat.reduceLeDiff, Nat.reduceLT, Nat.reduceEqDiff, Nat.reduceBEq, ↓reduceIte, reduceCtorEq]; done) | (simp only [SSA, RS, c_laws_eqDeclS, Nat.reduceAdd, Nat.reduceSub, Nat.reduceMul, Nat.reduceLeDiff, Nat.reduceLT, Nat.reduceEqDiff, Nat.reduceBEq, ↓reduceIte, reduceCtorEq]; rfl))
    | ((first | with_reducible refine Ok_if (fun h => ?_) (fun h => ?_)) <;> simp only [SSA, RS, *, Nat.reduceAdd, Nat.reduceSub, Nat.reduceMul, Nat.reduceLeDiff, Nat.reduceLT, Nat.reduceEqDiff, Nat.reduceBEq, ↓reduceIte, reduceCtorEq])

def e_laws_eqAttr (r : Bool) : Res := ⟨[.t (.v (.bool r))], []⟩
def c_laws_eqAttr : Cx := ⟨2, [0, 0], [.tmp 4]⟩
theorem laws_eqAttr_ok : ∀ (a : GAttr) (b : GAttr), Ok (laws_eqAttr a b) e_laws_eqAttr (dn FTA n_laws_eqAttr [.agg ((GAttr.row a).map .t), .agg ((GAttr.row b).map .t)]) := by
  intro a b
  rw [den_ev FTA (fn := k_laws_eqAttr) rfl (cloneX_none rfl _) (Nat.le_of_ble_eq_true rfl)]
  simp only [SSA, RS, c_laws_eqAttr, k_laws_eqAttr, laws_eqAttr, Nat.reduceAdd, Nat.reduceSub, Nat.reduceMul, Nat.reduceLeDiff, Nat.reduceLT, Nat.reduceEqDiff, Nat.reduceBEq, ↓reduceIte, reduceCtorEq]
  repeat' first
    | with_reducible exact Ok_none
    | ((with_reducible refine Ok_ret ?_); first | rfl | (simp only [SSA, RS, e_laws_eqAttr, Nat.reduceAdd, Nat.reduceSub, Nat.reduceMul, Nat.reduceLeDiff, Nat.reduceLT, Nat.reduceEqDiff, Nat.reduceBEq, ↓reduceIte, reduceCtorEq]; done))
    | ((first | with_reducible refine Ok_if (fun h => ?_) (fun h => ?_)) <;> simp only [SSA, RS, *, Nat.reduceAdd, Nat.reduceSub, Nat.reduceMul, Nat.reduceLeDiff, Nat.reduceLT, Nat.reduceEqDiff, Nat.reduceBEq, ↓reduceIte, reduceCtorEq])

def e_laws_eqAttrS (r : Bool) : Res := ⟨[.t (.v (.bool r))], []⟩
def c_laws_eqAttrS : Cx := ⟨2, [0, 0], [.tmp 4]⟩
theorem laws_eqAttrS_l14_ok' (a : List GAttr) (b : List GAttr) : ∀ (i : Int), Ok (laws_eqAttrS_l14 a b i) e_laws_eqAttrS (ev FTA c_laws_eqAttrS (.loop k_laws_eqAttrS_l14) [.lv 0, .th k_laws_eqAttrS_r10] (putS (List.replicate 27 .dead) [(0, .t (.sl false (a.map GAttr.row))), (1, .t (.sl false (b.map GAttr.row))), (5, .t (.v (.int .i64 i)))]) (putR (List.replicate 27 []) [])) := by
  unfold Ok
  refine laws_eqAttrS_l14.partial_correctness a b _ ?_
  intro F ih i
  show Ok _ _ _
  have ih : ∀ (i : Int), Ok (F i) _ _ := ih
  rw [ev_loop]
  have g0 := laws_eqAttr_ok; try simp only [SSA, RS, Nat.reduceAdd, Nat.reduceSub, Nat.reduceMul, Nat.reduceLeDiff, Nat.reduceLT, Nat.reduceEqDiff, Nat.reduceBEq, ↓reduceIte, reduceCtorEq] at g0
  simp only [SSA, RS, c_laws_eqAttrS, k_laws_eqAttrS_l14, k_laws_eqAttrS_r10, e_laws_eqAttr, Nat.reduceAdd, Nat.reduceSub, Nat.reduceMul, Nat.reduceLeDiff, Nat.reduceLT, Nat.reduceEqDiff, Nat.reduceBEq, ↓reduceIte, reduceCtorEq]
  repeat' first
    | with_reducible exact Ok_none
    | ((with_reducible refine Ok_ret ?_); first | rfl | (simp only [SSA, RS, e_laws_eqAttrS, Nat.reduceAdd, Nat.reduceSub, Nat.reduceMul, Nat.reduceLeDiff, Nat.reduceLT, Nat.reduceEqDiff, Nat.reduceBEq, ↓reduceIte, reduceCtorEq]; done))
    | ((with_reducible refine Ok_tail (ih _) ?_); first | rfl | (simp only [SSA, RS, c_laws_eqAttrS, Nat.reduceAdd, Nat.reduceSub, Nat.reduceMul, Nat.reduceLeDiff, Nat.reduceLT, Nat.reduceEqDiff, Nat.reduceBEq, ↓reduceIte, reduceCtorEq]; done) | (simp only [SSA, RS, c_laws_eqAttrS, Nat.reduceAdd, Nat.reduceSub, Nat.reduceMul, Nat.reduceLeDiff, Nat.reduceLT, Nat.reduceEqDiff, Nat.reduceBEq, ↓reduceIte, reduceCtorEq]; rfl))
    | ((first | with_reducible refine Ok_if (fun h => ?_) (fun h => ?_) | with_reducible refine Ok_get fun a h => ?_ | with_reducible refine Ok_call (g0 _ _) fun v => ?_ | refine Ok_call (g0 _ _) fun v => ?_) <;> simp only [SSA, RS, *, k_laws_eqAttrS_r10, e_laws_eqAttr, Nat.reduceAdd, Nat.reduceSub, Nat.reduceMul, Nat.reduceLeDiff, Nat.reduceLT, Nat.reduceEqDiff, Nat.reduceBEq, ↓reduceIte, reduceCtorEq])
theorem laws_eqAttrS_l14_ok (a : List GAttr) (b : List GAttr) (i : Int) : Ok (laws_eqAttrS_l14 a b i) e_laws_eqAttrS (ev FTA c_laws_eqAttrS (.loop k_laws_eqAttrS_l14) [.lv 0, .th k_laws_eqAttrS_r10] (putS (List.replicate 27 .dead) [(0, .t (.sl false (a.map GAttr.row))), (1, .t (.sl false (b.map GAttr.row))), (5, .t (.v (.int .i64 i)))]) (putR (List.replicate 27 []) [])) := laws_eqAttrS_l14_ok' a b i

theorem laws_eqAttrS_ok : ∀ (a : List GAttr) (b : List GAttr), Ok (laws_eqAttrS a b) e_laws_eqAttrS (dn FTA n_laws_eqAttrS [.t (.sl false (a.map GAttr.row)), .t (.sl false (b.map GAttr.row))]) := by
  intro a b
  rw [den_ev FTA (fn := k_laws_eqAttrS) rfl (cloneX_none rfl _) (Nat.le_of_ble_eq_true rfl)]
  simp only [SSA, RS, c_laws_eqAttrS, k_laws_eqAttrS, laws_eqAttrS, Nat.reduceAdd, Nat.reduceSub, Nat.reduceMul, Nat.reduceLeDiff, Nat.reduceLT, Nat.reduceEqDiff, Nat.reduceBEq, ↓reduceIte, reduceCtorEq]
  repeat' first
    | with_reducible exact Ok_none
    | ((with_reducible refine Ok_ret ?_); first | rfl | (simp only [SSA, RS, e_laws_eqAttrS, Nat.reduceAdd, Nat.reduceSub, Nat.reduceMul, Nat.reduceLeDiff, Nat.reduceLT, Nat.reduceEqDiff, Nat.reduceBEq, ↓reduceIte, reduceCtorEq]; done))
    | ((with_reducible refine Ok_tail (laws_eqAttrS_l14_ok _ _ _) ?_); first | rfl | (simp only [SSA, RS, c_laws_eqAttrS, Nat.reduceAdd, Nat.reduceSub, Nat.reduceMul, Nat.reduceLeDiff, Nat.reduceLT, Nat.reduceEqDiff, Nat.reduceBEq, ↓reduceIte, reduceCtorEq]; done) | (simp only [SSA, RS, c_laws_eqAttrS, Nat.reduceAdd, Nat.reduceSub, Nat.reduceMul, Nat.reduceLeDiff, Nat.reduceLT, Nat.reduceEqDiff, Nat.reduceBEq, ↓reduceIte, reduceCtorEq]; rfl))
    | ((first | with_reducible refine Ok_if (fun h => ?_) (fun h => ?_)) <;> simp only [SSA, RS, *, Nat.reduceAdd, Nat.reduceSub, Nat.reduceMul, Nat.reduceLeDiff, Nat.reduceLT, Nat.reduceEqDiff, Nat.reduceBEq, ↓reduceIte, reduceCtorEq])

def e_laws_eqNode (r : Bool) : Res := ⟨[.t (.v (.bool r))], []⟩
def c_laws_eqNode : Cx := ⟨2, [0, 0], [.tmp 4]⟩
def e_laws_eqNodeS (r : Bool) : Res := ⟨[.t (.v (.bool r))], []⟩
def c_laws_eqNodeS : Cx := ⟨2, [0, 0], [.tmp 4]⟩
theorem G_laws_eqNode : (∀ (a : GNode) (b : GNode), Ok (laws_eqNode a b) e_laws_eqNode (dn FTA n_laws_eqNode [.agg (((GNode.row false) a).map .t), .agg (((GNode.row false) b).map .t)])) ∧
    (∀ (a : List GNode) (b : List GNode), Ok (laws_eqNodeS a b) e_laws_eqNodeS (dn FTA n_laws_eqNodeS [.t (.sl false (a.map (GNode.row false))), .t (.sl false (b.map (GNode.row false)))])) ∧
    (∀ (a : List GNode) (b : List GNode) (i : Int), Ok (laws_eqNodeS_l14 a b i) e_laws_eqNodeS (ev FTA c_laws_eqNodeS (.loop k_laws_eqNodeS_l14) [.lv 0, .th k_laws_eqNodeS_r10] (putS (List.replicate 27 .dead) [(0, .t (.sl false (a.map (GNode.row false)))), (1, .t (.sl false (b.map (GNode.row false)))), (5, .t (.v (.int .i64 i)))]) (putR (List.replicate 27 []) []))) := by
  unfold Ok
  refine laws_eqNode.mutual_partial_correctness _ _ _ ?_ ?_ ?_ 
  · intro F1 ih1 a b
    show Ok _ _ _
    have ih1 : ∀ (a : List GNode) (b : List GNode), Ok (F1 a b) _ _ := ih1
    rw [den_ev FTA (fn := k_laws_eqNode) rfl (cloneX_none rfl _) (Nat.le_of_ble_eq_true rfl)]
    have g0 := laws_eqDeclS_ok; try simp only [SSA, RS, Nat.reduceAdd, Nat.reduceSub, Nat.reduceMul, Nat.reduceLeDiff, Nat.reduceLT, Nat.reduceEqDiff, Nat.reduceBEq, ↓reduceIte, reduceCtorEq] at g0
    have g1 := laws_eqAttrS_ok; try simp only [SSA, RS, Nat.reduceAdd, Nat.reduceSub, Nat.reduceMul, Nat.reduceLeDiff, Nat.reduceLT, Nat.reduceEqDiff, Nat.reduceBEq, ↓reduceIte, reduceCtorEq] at g1
    have g2 := ih1; try simp only [SSA, RS, Nat.reduceAdd, Nat.reduceSub, Nat.reduceMul, Nat.reduceLeDiff, Nat.reduceLT, Nat.reduceEqDiff, Nat.reduceBEq, ↓reduceIte, reduceCtorEq] at g2
    simp only [SSA, RS, c_laws_eqNode, k_laws_eqNode, e_laws_eqAttrS, e_laws_eqDeclS, e_laws_eqNodeS, Nat.reduceAdd, Nat.reduceSub, Nat.reduceMul, Nat.reduceLeDiff, Nat.reduceLT, Nat.reduceEqDiff, Nat.reduceBEq, ↓reduceIte, reduceCtorEq]
    repeat' first
      | with_reducible exact Ok_none
      | ((with_reducible refine Ok_ret ?_); first | rfl | (simp only [SSA, RS, e_laws_eqNode, Nat.reduceAdd, Nat.reduceSub, Nat.reduceMul, Nat.reduceLeDiff, Nat.reduceLT, Nat.reduceEqDiff, Nat.reduceBEq, ↓reduceIte, reduceCtorEq]; done))
      | ((first | with_reducible refine Ok_if (fun h => ?_) (fun h => ?_) | with_reducible refine Ok_call (g0 _ _) fun v => ?_ | with_reducible refine Ok_call (g1 _ _) fun v => ?_ | with_reducible refine Ok_call (g2 _ _) fun v => ?_ | refine Ok_call (g0 _ _) fun v => ?_ | refine Ok_call (g1 _ _) fun v => ?_ | refine Ok_call (g2 _ _) fun v => ?_) <;> simp only [SSA, RS, *, e_laws_eqAttrS, e_laws_eqDeclS, e_laws_eqNodeS, Nat.reduceAdd, Nat.reduceSub, Nat.reduceMul, Nat.reduceLeDiff, Nat.reduceLT, Nat.reduceEqDiff, Nat.reduceBEq, ↓reduceIte, reduceCtorEq])
  · intro F2 ih2 a b
    show Ok _ _ _
    have ih2 : ∀ (a : List GNode) (b : List GNode) (i : Int), Ok (F2 a b i) _ _ := ih2
    rw [den_ev FTA (fn := k_laws_eqNodeS) rfl (cloneX_none rfl _) (Nat.le_of_ble_eq_true rfl)]
    simp only [SSA, RS, c_laws_eqNodeS, k_laws_eqNodeS, Nat.reduceAdd, Nat.reduceSub, Nat.reduceMul, Nat.reduceLeDiff, Nat.reduceLT, Nat.reduceEqDiff, Nat.reduceBEq, ↓reduceIte, reduceCtorEq]
    repeat' first
      | with_reducible exact Ok_none
      | ((with_reducible refine Ok_ret ?_); first | rfl | (simp only [SSA, RS, e_laws_eqNodeS, Nat.reduceAdd, Nat.reduceSub, Nat.reduceMul, Nat.reduceLeDiff, Nat.reduceLT, Nat.reduceEqDiff, Nat.reduceBEq, ↓reduceIte, reduceCtorEq]; done))
      | ((with_reducible refine Ok_tail (ih2 _ _ _) ?_); first | rfl | (simp only [SSA, RS, c_laws_eqNodeS, Nat.reduceAdd, Nat.reduceSub, Nat.reduceMul, Nat.reduceLeDiff, Nat.reduceLT, Nat.reduceEqDiff, Nat.reduceBEq, ↓reduceIte, reduceCtorEq]; done) | (simp only [SSA, RS, c_laws_eqNodeS, Nat.reduceAdd, Nat.reduceSub, Nat.reduceMul, Nat.reduceLeDiff, Nat.reduceLT, Nat.reduceEqDiff, Nat.reduceBEq, ↓reduceIte, reduceCtorEq]; rfl))
      | ((first | with_reducible refine Ok_if (fun h => ?_) (fun h => ?_)) <;> simp only [SSA, RS, *, Nat.reduceAdd, Nat.reduceSub, Nat.reduceMul, Nat.reduceLeDiff, Nat.reduceLT, Nat.reduceEqDiff, Nat.reduceBEq, ↓reduceIte, reduceCtorEq])
  · intro F0 F2 ih0 ih2 a b i
    show Ok _ _ _
    have ih0 : ∀ (a : GNode) (b : GNode), Ok (F0 a b) _ _ := ih0
    have ih2 : ∀ (a : List GNode) (b : List GNode) (i : Int), Ok (F2 a b i) _ _ := ih2
    rw [ev_loop]
    have g0 := ih0; try simp only [SSA, RS, Nat.reduceAdd, Nat.reduceSub, Nat.reduceMul, Nat.reduceLeDiff, Nat.reduceLT, Nat.reduceEqDiff, Nat.reduceBEq, ↓reduceIte, reduceCtorEq] at g0
    simp only [SSA, RS, c_laws_eqNodeS, k_laws_eqNodeS_l14, k_laws_eqNodeS_r10, e_laws_eqNode, Nat.reduceAdd, Nat.reduceSub, Nat.reduceMul, Nat.reduceLeDiff, Nat.reduceLT, Nat.reduceEqDiff, Nat.reduceBEq, ↓reduceIte, reduceCtorEq]
    repeat' first
      | with_reducible exact Ok_none
      | ((with_reducible refine Ok_ret ?_); first | rfl | (simp only [SSA, RS, e_laws_eqNodeS, Nat.reduceAdd, Nat.reduceSub, Nat.reduceMul, Nat.reduceLeDiff, Nat.reduceLT, Nat.reduceEqDiff, Nat.reduceBEq, ↓reduceIte, reduceCtorEq]; done))
      | ((with_reducible refine Ok_tail (ih2 _ _ _) ?_); first | rfl | (simp only [SSA, RS, c_laws_eqNodeS, Nat.reduceAdd, Nat.reduceSub, Nat.reduceMul, Nat.reduceLeDiff, Nat.reduceLT, Nat.reduceEqDiff, Nat.reduceBEq, ↓reduceIte, reduceCtorEq]; done) | (simp only [SSA, RS, c_laws_eqNodeS, Nat.reduceAdd, Nat.reduceSub, Nat.reduceMul, Nat.reduceLeDiff, Nat.reduceLT, Nat.reduceEqDiff, Nat.reduceBEq, ↓reduceIte, reduceCtorEq]; rfl))
      | ((first | with_reducible refine Ok_if (fun h => ?_) (fun h => ?_) | with_reducible refine Ok_get fun a h => ?_ | with_reducible refine Ok_call (g0 _ _) fun v => ?_ | refine Ok_call (g0 _ _) fun v => ?_) <;> simp only [SSA, RS, *, k_laws_eqNodeS_r10, e_laws_eqNode, Nat.reduceAdd, Nat.reduceSub, Nat.reduceMul, Nat.reduceLeDiff, Nat.reduceLT, Nat.reduceEqDiff, Nat.reduceBEq, ↓reduceIte, reduceCtorEq])
theorem laws_eqNode_ok (a : GNode) (b : GNode) : Ok (laws_eqNode a b) e_laws_eqNode (dn FTA n_laws_eqNode [.agg (((GNode.row false) a).map .t), .agg (((GNode.row false) b).map .t)]) := G_laws_eqNode.1 a b
theorem laws_eqNodeS_ok (a : List GNode) (b : List GNode) : Ok (laws_eqNodeS a b) e_laws_eqNodeS (dn FTA n_laws_eqNodeS [.t (.sl false (a.map (GNode.row false))), .t (.sl false (b.map (GNode.row false)))]) := G_laws_eqNode.2.1 a b
theorem laws_eqNodeS_l14_ok (a : List GNode) (b : List GNode) (i : Int) : Ok (laws_eqNodeS_l14 a b i) e_laws_eqNodeS (ev FTA c_laws_eqNodeS (.loop k_laws_eqNodeS_l14) [.lv 0, .th k_laws_eqNodeS_r10] (putS (List.replicate 27 .dead) [(0, .t (.sl false (a.map (GNode.row false)))), (1, .t (.sl false (b.map (GNode.row false)))), (5, .t (.v (.int .i64 i)))]) (putR (List.replicate 27 []) [])) := G_laws_eqNode.2.2 a b i

def e_laws_eqOp (r : Bool) : Res := ⟨[.t (.v (.bool r))], []⟩
def c_laws_eqOp : Cx := ⟨2, [0, 0], [.tmp 4]⟩
theorem laws_eqOp_ok : ∀ (a : GOp) (b : GOp), Ok (laws_eqOp a b) e_laws_eqOp (dn FTA n_laws_eqOp [.agg (((GOp.row false) a).map .t), .agg (((GOp.row false) b).map .t)]) := by
  intro a b
  rw [den_ev FTA (fn := k_laws_eqOp) rfl (cloneX_none rfl _) (Nat.le_of_ble_eq_true rfl)]
  have g0 := laws_eqSel_ok; try simp only [SSA, RS, Nat.reduceAdd, Nat.reduceSub, Nat.reduceMul, Nat.reduceLeDiff, Nat.reduceLT, Nat.reduceEqDiff, Nat.reduceBEq, ↓reduceIte, reduceCtorEq] at g0
  have g1 := laws_eqNodeS_ok; try simp only [SSA, RS, Nat.reduceAdd, Nat.reduceSub, Nat.reduceMul, Nat.reduceLeDiff, Nat.reduceLT, Nat.reduceEqDiff, Nat.reduceBEq, ↓reduceIte, reduceCtorEq] at g1
  have g2 := laws_eqDeclS_ok; try simp only [SSA, RS, Nat.reduceAdd, Nat.reduceSub, Nat.reduceMul, Nat.reduceLeDiff, Nat.reduceLT, Nat.reduceEqDiff, Nat.reduceBEq, ↓reduceIte, reduceCtorEq] at g2
  simp only [SSA, RS, c_laws_eqOp, k_laws_eqOp, laws_eqOp, e_laws_eqDeclS, e_laws_eqNodeS, e_laws_eqSel, Nat.reduceAdd, Nat.reduceSub, Nat.reduceMul, Nat.reduceLeDiff, Nat.reduceLT, Nat.reduceEqDiff, Nat.reduceBEq, ↓reduceIte, reduceCtorEq]
  repeat' first
    | with_reducible exact Ok_none
    | ((with_reducible refine Ok_ret ?_); first | rfl | (simp only [SSA, RS, e_laws_eqOp, Nat.reduceAdd, Nat.reduceSub, Nat.reduceMul, Nat.reduceLeDiff, Nat.reduceLT, Nat.reduceEqDiff, Nat.reduceBEq, ↓reduceIte, reduceCtorEq]; done))
    | ((first | with_reducible refine Ok_if (fun h => ?_) (fun h => ?_) | with_reducible refine Ok_call (g0 _ _) fun v => ?_ | with_reducible refine Ok_call (g1 _ _) fun v => ?_ | with_reducible refine Ok_call (g2 _ _) fun v => ?_ | refine Ok_call (g0 _ _) fun v => ?_ | refine Ok_call (g1 _ _) fun v => ?_ | refine Ok_call (g2 _ _) fun v => ?_) <;> simp only [SSA, RS, *, e_laws_eqDeclS, e_laws_eqNodeS, e_laws_eqSel, Nat.reduceAdd, Nat.reduceSub, Nat.reduceMul, Nat.reduceLeDiff, Nat.reduceLT, Nat.reduceEqDiff, Nat.reduceBEq, ↓reduceIte, reduceCtorEq])

def e_laws_eqOpS (r : Bool) : Res := ⟨[.t (.v (.bool r))], []⟩
def c_laws_eqOpS : Cx := ⟨2, [0, 0], [.tmp 4]⟩
theorem laws_eqOpS_l14_ok' (a : List GOp) (b : List GOp) : ∀ (i : Int), Ok (laws_eqOpS_l14 a b i) e_laws_eqOpS (ev FTA c_laws_eqOpS (.loop k_laws_eqOpS_l14) [.lv 0, .th k_laws_eqOpS_r10] (putS (List.replicate 27 .dead) [(0, .t (.sl false (a.map (GOp.row false)))), (1, .t (.sl false (b.map (GOp.row false)))), (5, .t (.v (.int .i64 i)))]) (putR (List.replicate 27 []) [])) := by
  unfold Ok
  refine laws_eqOpS_l14.partial_correctness a b _ ?_
  intro F ih i
  show Ok _ _ _
  have ih : ∀ (i : Int), Ok (F i) _ _ := ih
  rw [ev_loop]
  have g0 := laws_eqOp_ok; try simp only [SSA, RS, Nat.reduceAdd, Nat.reduceSub, Nat.reduceMul, Nat.reduceLeDiff, Nat.reduceLT, Nat.reduceEqDiff, Nat.reduceBEq, ↓reduceIte, reduceCtorEq] at g0
  simp only [SSA, RS, c_laws_eqOpS, k_laws_eqOpS_l14, k_laws_eqOpS_r10, e_laws_eqOp, Nat.reduceAdd, Nat.reduceSub, Nat.reduceMul, Nat.reduceLeDiff, Nat.reduceLT, Nat.reduceEqDiff, Nat.reduceBEq, ↓reduceIte, reduceCtorEq]
  repeat' first
    | with_reducible exact Ok_none
    | ((with_reducible refine Ok_ret ?_); first | rfl | (simp only [SSA, RS, e_laws_eqOpS, Nat.reduceAdd, Nat.reduceSub, Nat.reduceMul, Nat.reduceLeDiff, Nat.reduceLT, Nat.reduceEqDiff, Nat.reduceBEq, ↓reduceIte, reduceCtorEq]; done))
    | ((with_reducible refine Ok_tail (ih _) ?_); first | rfl | (simp only [SSA, RS, c_laws_eqOpS, Nat.reduceAdd, Nat.reduceSub, Nat.reduceMul, Nat.reduceLeDiff, Nat.reduceLT, Nat.reduceEqDiff, Nat.reduceBEq, ↓reduceIte, reduceCtorEq]; done) | (simp only [SSA, RS, c_laws_eqOpS, Nat.reduceAdd, Nat.reduceSub, Nat.reduceMul, Nat.reduceLeDiff, Nat.reduceLT, Nat.reduceEqDiff, Nat.reduceBEq, ↓reduceIte, reduceCtorEq]; rfl))
    | ((first | with_reducible refine Ok_if (fun h => ?_) (fun h => ?_) | with_reducible refine Ok_get fun a h => ?_ | with_reducible refine Ok_call (g0 _ _) fun v => ?_ | refine Ok_call (g0 _ _) fun v => ?_) <;> simp only [SSA, RS, *, k_laws_eqOpS_r10, e_laws_eqOp, Nat.reduceAdd, Nat.reduceSub, Nat.reduceMul, Nat.reduceLeDiff, Nat.reduceLT, Nat.reduceEqDiff, Nat.reduceBEq, ↓reduceIte, reduceCtorEq])
theorem laws_eqOpS_l14_ok (a : List GOp) (b : List GOp) (i : Int) : Ok (laws_eqOpS_l14 a b i) e_laws_eqOpS (ev FTA c_laws_eqOpS (.loop k_laws_eqOpS_l14) [.lv 0, .th k_laws_eqOpS_r10] (putS (List.replicate 27 .dead) [(0, .t (.sl false (a.map (GOp.row false)))), (1, .t (.sl false (b.map (GOp.row false)))), (5, .t (.v (.int .i64 i)))]) (putR (List.replicate 27 []) [])) := laws_eqOpS_l14_ok' a b i

theorem laws_eqOpS_ok : ∀ (a : List GOp) (b : List GOp), Ok (laws_eqOpS a b) e_laws_eqOpS (dn FTA n_laws_eqOpS [.t (.sl false (a.map (GOp.row false))), .t (.sl false (b.map (GOp.row false)))]) := by
  intro a b
  rw [den_ev FTA (fn := k_laws_eqOpS) rfl (cloneX_none rfl _) (Nat.le_of_ble_eq_true rfl)]
  simp only [SSA, RS, c_laws_eqOpS, k_laws_eqOpS, laws_eqOpS, Nat.reduceAdd, Nat.reduceSub, Nat.reduceMul, Nat.reduceLeDiff, Nat.reduceLT, Nat.reduceEqDiff, Nat.reduceBEq, ↓reduceIte, reduceCtorEq]
  repeat' first
    | with_reducible exact Ok_none
    | ((with_reducible refine Ok_ret ?_); first | rfl | (simp only [SSA, RS, e_laws_eqOpS, Nat.reduceAdd, Nat.reduceSub, Nat.reduceMul, Nat.reduceLeDiff, Nat.reduceLT, Nat.reduceEqDiff, Nat.reduceBEq, ↓reduceIte, reduceCtorEq]; done))
    | ((with_reducible refine Ok_tail (laws_eqOpS_l14_ok _ _ _) ?_); first | rfl | (simp only [SSA, RS, c_laws_eqOpS, Nat.reduceAdd, Nat.reduceSub, Nat.reduceMul, Nat.reduceLeDiff, Nat.reduceLT, Nat.reduceEqDiff, Nat.reduceBEq, ↓reduceIte, reduceCtorEq]; done) | (simp only [SSA, RS, c_laws_eqOpS, Nat.reduceAdd, Nat.reduceSub, Nat.reduceMul, Nat.reduceLeDiff, Nat.reduceLT, Nat.reduceEqDiff, Nat.reduceBEq, ↓reduceIte, reduceCtorEq]; rfl))
    | ((first | with_reducible refine Ok_if (fun h => ?_) (fun h => ?_)) <;> simp only [SSA, RS, *, Nat.reduceAdd, Nat.reduceSub, Nat.reduceMul, Nat.reduceLeDiff, Nat.reduceLT, Nat.reduceEqDiff, Nat.reduceBEq, ↓reduceIte, reduceCtorEq])

def e_laws_FnExactCost (r : Bool) : Res := ⟨[.t (.v (.bool r))], []⟩
def c_laws_FnExactCost : Cx := ⟨1, [0], [.tmp 2]⟩
theorem laws_FnExactCost_ok : ∀ (aL : List GOp), Ok (laws_FnExactCost aL) e_laws_FnExactCost (dn FTA n_laws_FnExactCost [.t (.sl false (aL.map (GOp.row false)))]) := by
  intro aL
  rw [den_ev FTA (fn := k_laws_FnExactCost) rfl (cloneX_none rfl _) (Nat.le_of_ble_eq_true rfl)]
  have g0 := laws_szOpS_ok; try simp only [SSA, RS, Nat.reduceAdd, Nat.reduceSub, Nat.reduceMul, Nat.reduceLeDiff, Nat.reduceLT, Nat.reduceEqDiff, Nat.reduceBEq, ↓reduceIte, reduceCtorEq] at g0
  have g1 := laws_toOpS_ok; try simp only [SSA, RS, Nat.reduceAdd, Nat.reduceSub, Nat.reduceMul, Nat.reduceLeDiff, Nat.reduceLT, Nat.reduceEqDiff, Nat.reduceBEq, ↓reduceIte, reduceCtorEq] at g1
  have g2 := spec_Cost_ok; try simp only [SSA, RS, Nat.reduceAdd, Nat.reduceSub, Nat.reduceMul, Nat.reduceLeDiff, Nat.reduceLT, Nat.reduceEqDiff, Nat.reduceBEq, ↓reduceIte, reduceCtorEq] at g2
  have g3 := impl_Cost_ok; try simp only [SSA, RS, Nat.reduceAdd, Nat.reduceSub, Nat.reduceMul, Nat.reduceLeDiff, Nat.reduceLT, Nat.reduceEqDiff, Nat.reduceBEq, ↓reduceIte, reduceCtorEq] at g3
  have g4 := laws_eqOpS_ok; try simp only [SSA, RS, Nat.reduceAdd, Nat.reduceSub, Nat.reduceMul, Nat.reduceLeDiff, Nat.reduceLT, Nat.reduceEqDiff, Nat.reduceBEq, ↓reduceIte, reduceCtorEq] at g4
  simp only [SSA, RS, c_laws_FnExactCost, k_laws_FnExactCost, laws_FnExactCost, e_impl_Cost, e_laws_eqOpS, e_laws_szOpS, e_laws_toOpS, e_spec_Cost, Nat.reduceAdd, Nat.reduceSub, Nat.reduceMul, Nat.reduceLeDiff, Nat.reduceLT, Nat.reduceEqDiff, Nat.reduceBEq, ↓reduceIte, reduceCtorEq]
  repeat' first
    | with_reducible exact Ok_none
    | ((with_reducible refine Ok_ret ?_); first | rfl | (simp only [SSA, RS, e_laws_FnExactCost, Nat.reduceAdd, Nat.reduceSub, Nat.reduceMul, Nat.reduceLeDiff, Nat.reduceLT, Nat.reduceEqDiff, Nat.reduceBEq, ↓reduceIte, reduceCtorEq]; done))
    | ((first | with_reducible refine Ok_if (fun h => ?_) (fun h => ?_) | with_reducible refine Ok_call (g0 _ _) fun v => ?_ | with_reducible refine Ok_call (g1 _) fun v => ?_ | with_reducible refine Ok_call (g2 _) fun v => ?_ | with_reducible refine Ok_call (g3 _) fun v => ?_ | with_reducible refine Ok_call (g4 _ _) fun v => ?_ | refine Ok_call (g0 _ _) fun v => ?_ | refine Ok_call (g1 _) fun v => ?_ | refine Ok_call (g2 _) fun v => ?_ | refine Ok_call (g3 _) fun v => ?_ | refine Ok_call (g4 _ _) fun v => ?_) <;> simp only [SSA, RS, *, e_impl_Cost, e_laws_eqOpS, e_laws_szOpS, e_laws_toOpS, e_spec_Cost, Nat.reduceAdd, Nat.reduceSub, Nat.reduceMul, Nat.reduceLeDiff, Nat.reduceLT, Nat.reduceEqDiff, Nat.reduceBEq, ↓reduceIte, reduceCtorEq])

end TT
