import Derived.Test.YtknfhlnfombmgaaDoorTC
set_option linter.unusedVariables false
set_option linter.unusedSimpArgs false
namespace TT
open Go

def Le {α : Type} (a b : Option α) : Prop := ∀ r, a = some r → b = some r
theorem Le.refl {α : Type} (a : Option α) : Le a a := fun _ h => h
theorem Le.none {α : Type} (b : Option α) : Le none b := fun _ h => by cases h
theorem Le.trans {α : Type} {a b c : Option α} (h : Le a b) (h' : Le b c) : Le a c := fun r hr => h' r (h r hr)
theorem Le.bind {α β : Type} {a b : Option α} {f g : α → Option β} (h : Le a b) (hf : ∀ x, Le (f x) (g x)) : Le (a.bind f) (b.bind g) := by
  intro r hr
  obtain ⟨x, hx, hy⟩ := Option.bind_eq_some_iff.1 hr
  exact Option.bind_eq_some_iff.2 ⟨x, h x hx, hf x r hy⟩
theorem Le.map {α β : Type} {a b : Option α} {f : α → β} (h : Le a b) : Le (a.map f) (b.map f) := by
  intro r hr
  obtain ⟨x, hx, hy⟩ := Option.map_eq_some_iff.1 hr
  exact Option.map_eq_some_iff.2 ⟨x, h x hx, hy⟩
theorem Le.ite {α : Type} {c : Prop} [Decidable c] {a b a' b' : Option α} (h : Le a a') (h' : Le b b') : Le (if c then a else b) (if c then a' else b') := by
  split
  · exact h
  · exact h'

def CLe (c c' : CallF) : Prop := ∀ f args, Le (c f args) (c' f args)

theorem M.run_mono {α : Type} {c c' : CallF} (h : CLe c c') (d : Nat) (m : M α) : ∀ r, Le (m.run c d r) (m.run c' d r) := by
  induction m with
  | ret v => intro r; exact Le.refl _
  | fail => intro r; exact Le.refl _
  | get id k ih => intro r; simpa [M.run] using ih _ r
  | set id e m ih => intro r; simpa [M.run] using ih _
  | new es m ih => intro r; simp only [M.run]; exact Le.ite (ih _) (Le.refl _)
  | call f args k ih => intro r; simp only [M.run]; exact Le.bind (h f args) fun x => ih x r
theorem M.runA_mono {α : Type} {c c' : CallF} (h : CLe c c') (d : Nat) (rd wr : List Nat) (m : M α) : ∀ r, Le (m.runA c d rd wr r) (m.runA c' d rd wr r) := by
  induction m with
  | ret v => intro r; exact Le.refl _
  | fail => intro r; exact Le.refl _
  | get id k ih => intro r; simp only [M.runA]; exact Le.ite (ih _ r) (Le.refl _)
  | set id e m ih => intro r; simp only [M.runA]; exact Le.ite (ih _) (Le.refl _)
  | new es m ih => intro r; simp only [M.runA]; exact Le.ite (ih _) (Le.refl _)
  | call f args k ih => intro r; simp only [M.runA]; exact Le.bind (h f args) fun x => ih x r

theorem stepO_mono {c c' : CallF} (h : CLe c c') (draw : Bool) (e : OpE) (st : St) : Le (stepO c draw e st) (stepO c' draw e st) := by
  unfold stepO
  refine Le.bind (Le.refl _) fun w => ?_
  refine Le.ite (Le.map ?_) (Le.refl _)
  exact Le.ite (M.runA_mono h _ _ _ _ _) (M.run_mono h _ _ _)
theorem stepsO_mono {c c' : CallF} (h : CLe c c') (draw : Bool) : ∀ (es : List OpE) (st : St), Le (stepsO c draw es st) (stepsO c' draw es st)
  | [], st => Le.refl _
  | e :: es, st => by simp only [stepsO]; exact Le.bind (stepO_mono h draw e st) fun st' => stepsO_mono h draw es st'

theorem iter_mono {f g : St → Option (Ex × St)} (h : ∀ st, Le (f st) (g st)) : ∀ n m, n ≤ m → ∀ st, Le (iter f n st) (iter g m st)
  | 0, m, _, st => Le.none _
  | n + 1, 0, h', st => absurd h' (by omega)
  | n + 1, m + 1, h', st => by
    simp only [iter]
    refine Le.bind (h st) fun q => ?_
    obtain ⟨e, st'⟩ := q
    cases e with
    | normal => exact iter_mono h n m (by omega) st'
    | exit id => exact Le.refl _
    | ret => exact Le.refl _

theorem runK_mono {c c' : CallF} (h : CLe c c') {n m : Nat} (hn : n ≤ m) : ∀ (k : K) (st : St), Le (runK c n k st) (runK c' m k st)
  | .skip, st => Le.refl _
  | .reg draw ops, st => by simp only [runK]; exact Le.map (stepsO_mono h draw ops st)
  | .seq a b, st => by
    simp only [runK]
    refine Le.bind (runK_mono h hn a st) fun q => ?_
    obtain ⟨e, st'⟩ := q
    cases e with
    | normal => exact runK_mono h hn b st'
    | exit id => exact Le.refl _
    | ret => exact Le.refl _
  | .cond x a b, st => by
    simp only [runK]
    split
    · exact runK_mono h hn a st
    · exact runK_mono h hn b st
    · exact Le.refl _
  | .blk id b, st => by simp only [runK]; exact Le.map (runK_mono h hn b st)
  | .loop b, st => by simp only [runK]; exact iter_mono (fun st => runK_mono h hn b st) n m hn st
  | .ex id, st => Le.refl _
  | .ret, st => Le.refl _
  | .h hs k, st => by
    simp only [runK]
    refine Le.bind (runK_mono h hn k st) fun q => ?_
    exact Le.refl _

theorem runF_mono {c c' : CallF} (h : CLe c c') {n m : Nat} (hn : n ≤ m) (fn : F) (args : List Arg) : Le (runF c n fn args) (runF c' m fn args) := by
  unfold runF
  refine Le.ite (Le.bind (runK_mono h hn _ _) fun q => Le.refl _) (Le.refl _)

theorem callN_step (FT : FTab) (X : CallF) : ∀ n, CLe (callN FT X n) (callN FT X (n + 1))
  | 0 => fun f args => Le.none _
  | n + 1 => fun f args => by
    simp only [callN]
    split
    · exact Le.refl _
    · exact Le.bind (Le.refl _) fun fn => runF_mono (callN_step FT X n) (Nat.le_succ n) fn args
theorem callN_mono (FT : FTab) (X : CallF) {n m : Nat} (h : n ≤ m) : CLe (callN FT X n) (callN FT X m) := by
  induction h with
  | refl => exact fun f args => Le.refl _
  | step _ ih => exact fun f args => (ih f args).trans (callN_step FT X _ f args)

/-! ### The limit -/

open Classical in
noncomputable def lim {α : Type} (f : Nat → Option α) : Option α := if h : ∃ a n, f n = some a then some (Classical.choose h) else none

theorem lim_some {α : Type} {f : Nat → Option α} (hm : ∀ n m, n ≤ m → Le (f n) (f m)) {a : α} : lim f = some a ↔ ∃ n, f n = some a := by
  constructor
  · intro h
    unfold lim at h
    split at h
    · rename_i hx
      obtain ⟨n, hn⟩ := Classical.choose_spec hx
      simp only [Option.some.injEq] at h
      exact ⟨n, h ▸ hn⟩
    · cases h
  · rintro ⟨n, hn⟩
    unfold lim
    have hx : ∃ a n, f n = some a := ⟨a, n, hn⟩
    rw [dif_pos hx]
    obtain ⟨m, hm'⟩ := Classical.choose_spec hx
    have h1 := hm n (max n m) (Nat.le_max_left ..) a hn
    have h2 := hm m (max n m) (Nat.le_max_right ..) _ hm'
    rw [h1] at h2
    exact h2.symm

theorem lim_congr {α : Type} {f : Nat → Option α} (hm : ∀ n m, n ≤ m → Le (f n) (f m)) {x : Option α} (h : ∀ a, (∃ n, f n = some a) ↔ x = some a) : lim f = x := by
  cases hx : x with
  | none =>
    cases hl : lim f with
    | none => rfl
    | some a =>
      have := (h a).1 ((lim_some hm).1 hl)
      rw [hx] at this
      cases this
  | some a => exact (lim_some hm).2 ((h a).2 hx)

variable (FT : FTab) (X : CallF)

/-- What a function gives. -/
noncomputable def den (f : FuncId) (args : List Arg) : Option Res := lim fun n => callN FT X n f args
/-- What code gives. -/
noncomputable def rk (k : K) (st : St) : Option (Ex × St) := lim fun n => runK (callN FT X n) n k st
noncomputable def ops (draw : Bool) (es : List OpE) (st : St) : Option St := lim fun n => stepsO (callN FT X n) draw es st

theorem den_mono (f : FuncId) (args : List Arg) : ∀ n m, n ≤ m → Le (callN FT X n f args) (callN FT X m f args) := fun n m h => callN_mono FT X h f args
theorem rk_mono (k : K) (st : St) : ∀ n m, n ≤ m → Le (runK (callN FT X n) n k st) (runK (callN FT X m) m k st) := fun n m h => runK_mono (callN_mono FT X h) h k st

theorem den_some {f : FuncId} {args : List Arg} {r : Res} : den FT X f args = some r ↔ ∃ n, callN FT X n f args = some r := lim_some (den_mono FT X f args)
theorem rk_some {k : K} {st : St} {r : Ex × St} : rk FT X k st = some r ↔ ∃ n, runK (callN FT X n) n k st = some r := lim_some (rk_mono FT X k st)

/-- Whatever is run with the limit for calls is run with some number of rounds. -/
theorem M.run_den {α : Type} (d : Nat) (m : M α) : ∀ r x, m.run (den FT X) d r = some x ↔ ∃ n, m.run (callN FT X n) d r = some x := by
  induction m with
  | ret v => intro r x; simp [M.run]
  | fail => intro r x; simp [M.run]
  | get id k ih => intro r x; simpa [M.run] using ih _ r x
  | set id e m ih => intro r x; simpa [M.run] using ih _ x
  | new es m ih =>
    intro r x
    simp only [M.run]
    split
    · exact ih _ x
    · simp
  | call f args k ih =>
    intro r x
    simp only [M.run, Option.bind_eq_some_iff]
    constructor
    · rintro ⟨res, h1, h2⟩
      obtain ⟨n, hn⟩ := (den_some FT X).1 h1
      obtain ⟨m, hm⟩ := (ih res r x).1 h2
      exact ⟨max n m, res, callN_mono FT X (Nat.le_max_left ..) f args res hn, M.run_mono (callN_mono FT X (Nat.le_max_right ..)) d _ _ _ hm⟩
    · rintro ⟨n, res, h1, h2⟩
      exact ⟨res, (den_some FT X).2 ⟨n, h1⟩, (ih res r x).2 ⟨n, h2⟩⟩
theorem M.runA_den {α : Type} (d : Nat) (rd wr : List Nat) (m : M α) : ∀ r x, m.runA (den FT X) d rd wr r = some x ↔ ∃ n, m.runA (callN FT X n) d rd wr r = some x := by
  induction m with
  | ret v => intro r x; simp [M.runA]
  | fail => intro r x; simp [M.runA]
  | get id k ih => intro r x; simp only [M.runA]; split; exact ih _ r x; simp
  | set id e m ih => intro r x; simp only [M.runA]; split; exact ih _ x; simp
  | new es m ih =>
    intro r x
    simp only [M.runA]
    split
    · exact ih _ x
    · simp
  | call f args k ih =>
    intro r x
    simp only [M.runA, Option.bind_eq_some_iff]
    constructor
    · rintro ⟨res, h1, h2⟩
      obtain ⟨n, hn⟩ := (den_some FT X).1 h1
      obtain ⟨m, hm⟩ := (ih res r x).1 h2
      exact ⟨max n m, res, callN_mono FT X (Nat.le_max_left ..) f args res hn, M.runA_mono (callN_mono FT X (Nat.le_max_right ..)) d rd wr _ _ _ hm⟩
    · rintro ⟨n, res, h1, h2⟩
      exact ⟨res, (den_some FT X).2 ⟨n, h1⟩, (ih res r x).2 ⟨n, h2⟩⟩

theorem stepO_den (draw : Bool) (e : OpE) (st st' : St) : stepO (den FT X) draw e st = some st' ↔ ∃ n, stepO (callN FT X n) draw e st = some st' := by
  unfold stepO
  cases hg : guardV st.s e.g with
  | none => simp
  | some w =>
    simp only [Option.bind_some]
    cases w with
    | false => simp
    | true =>
      simp only [if_true, Option.map_eq_some_iff]
      constructor
      · rintro ⟨q, h1, h2⟩
        cases draw with
        | true =>
          simp only [if_true] at h1
          obtain ⟨n, hn⟩ := (M.runA_den FT X _ _ _ _ _ _).1 h1
          exact ⟨n, q, by simpa using hn, h2⟩
        | false =>
          simp only [Bool.false_eq_true, if_false] at h1
          obtain ⟨n, hn⟩ := (M.run_den FT X _ _ _ _).1 h1
          exact ⟨n, q, by simpa using hn, h2⟩
      · rintro ⟨n, q, h1, h2⟩
        cases draw with
        | true => exact ⟨q, by simpa using (M.runA_den FT X _ _ _ _ _ _).2 ⟨n, by simpa using h1⟩, h2⟩
        | false => exact ⟨q, by simpa using (M.run_den FT X _ _ _ _).2 ⟨n, by simpa using h1⟩, h2⟩
theorem stepsO_den (draw : Bool) : ∀ (es : List OpE) (st st' : St), stepsO (den FT X) draw es st = some st' ↔ ∃ n, stepsO (callN FT X n) draw es st = some st'
  | [], st, st' => by simp [stepsO]
  | e :: es, st, st' => by
    simp only [stepsO, Option.bind_eq_some_iff]
    constructor
    · rintro ⟨s1, h1, h2⟩
      obtain ⟨n, hn⟩ := (stepO_den FT X draw e st s1).1 h1
      obtain ⟨m, hm⟩ := (stepsO_den draw es s1 st').1 h2
      exact ⟨max n m, s1, stepO_mono (callN_mono FT X (Nat.le_max_left ..)) draw e st _ hn, stepsO_mono (callN_mono FT X (Nat.le_max_right ..)) draw es _ _ hm⟩
    · rintro ⟨n, s1, h1, h2⟩
      exact ⟨s1, (stepO_den FT X draw e st s1).2 ⟨n, h1⟩, (stepsO_den draw es s1 st').2 ⟨n, h2⟩⟩

/-! ### Equations -/

theorem rk_skip (st : St) : rk FT X .skip st = some (.normal, st) := (rk_some FT X).2 ⟨0, rfl⟩
theorem rk_ex (id : Nat) (st : St) : rk FT X (.ex id) st = some (.exit id, st) := (rk_some FT X).2 ⟨0, rfl⟩
theorem rk_ret (st : St) : rk FT X .ret st = some (.ret, st) := (rk_some FT X).2 ⟨0, rfl⟩
theorem rk_reg (draw : Bool) (es : List OpE) (st : St) : rk FT X (.reg draw es) st = (stepsO (den FT X) draw es st).map fun st' => (.normal, st') := by
  refine lim_congr (rk_mono FT X _ _) fun a => ?_
  simp only [runK, Option.map_eq_some_iff]
  constructor
  · rintro ⟨n, s, h1, h2⟩; exact ⟨s, (stepsO_den FT X draw es st s).2 ⟨n, h1⟩, h2⟩
  · rintro ⟨s, h1, h2⟩
    obtain ⟨n, hn⟩ := (stepsO_den FT X draw es st s).1 h1
    exact ⟨n, s, hn, h2⟩
/-- Going on behind a piece. -/
noncomputable def thenK (FT : FTab) (X : CallF) (b : K) (q : Ex × St) : Option (Ex × St) := match q.1 with
  | .normal => rk FT X b q.2
  | e => some (e, q.2)
theorem rk_seq (a b : K) (st : St) : rk FT X (.seq a b) st = (rk FT X a st).bind (thenK FT X b) := by
  refine lim_congr (rk_mono FT X _ _) fun r => ?_
  simp only [runK, Option.bind_eq_some_iff]
  constructor
  · rintro ⟨n, ⟨e, s⟩, h1, h2⟩
    refine ⟨(e, s), (rk_some FT X).2 ⟨n, h1⟩, ?_⟩
    cases e with
    | normal => exact (rk_some FT X).2 ⟨n, h2⟩
    | exit id => exact h2
    | ret => exact h2
  · rintro ⟨⟨e, s⟩, h1, h2⟩
    obtain ⟨n, hn⟩ := (rk_some FT X).1 h1
    cases e with
    | normal =>
      obtain ⟨m, hm⟩ := (rk_some FT X).1 h2
      exact ⟨max n m, (.normal, s), rk_mono FT X _ _ _ _ (Nat.le_max_left ..) _ hn, rk_mono FT X _ _ _ _ (Nat.le_max_right ..) _ hm⟩
    | exit id => exact ⟨n, _, hn, h2⟩
    | ret => exact ⟨n, _, hn, h2⟩
theorem thenK_normal (b : K) (st : St) : thenK FT X b (.normal, st) = rk FT X b st := rfl
theorem thenK_exit (b : K) (id : Nat) (st : St) : thenK FT X b (.exit id, st) = some (.exit id, st) := rfl
theorem thenK_ret (b : K) (st : St) : thenK FT X b (.ret, st) = some (.ret, st) := rfl
theorem rk_cond_true {x : Opd} {a b : K} {st : St} (h : evalO st.s x = .t (.v (.bool true))) : rk FT X (.cond x a b) st = rk FT X a st := by
  refine lim_congr (rk_mono FT X _ _) fun r => ?_
  simp only [runK, h]
  exact (rk_some FT X).symm
theorem rk_cond_false {x : Opd} {a b : K} {st : St} (h : evalO st.s x = .t (.v (.bool false))) : rk FT X (.cond x a b) st = rk FT X b st := by
  refine lim_congr (rk_mono FT X _ _) fun r => ?_
  simp only [runK, h]
  exact (rk_some FT X).symm
/-- A test. -/
noncomputable def ckV (v : V) (a b : Option (Ex × St)) : Option (Ex × St) := match v with
  | .t (.v (.bool true)) => a
  | .t (.v (.bool false)) => b
  | _ => none
theorem rk_cond (x : Opd) (a b : K) (st : St) : rk FT X (.cond x a b) st = ckV (evalO st.s x) (rk FT X a st) (rk FT X b st) := by
  refine lim_congr (rk_mono FT X _ _) fun r => ?_
  simp only [runK]
  split
  · rename_i h; rw [h]; exact (rk_some FT X).symm
  · rename_i h; rw [h]; exact (rk_some FT X).symm
  · rename_i h1 h2
    unfold ckV
    split
    · rename_i h; exact absurd h h1
    · rename_i h; exact absurd h h2
    · simp
theorem ckV_bool (c : Bool) (a b : Option (Ex × St)) : ckV (.t (.v (.bool c))) a b = if c then a else b := by cases c <;> rfl
def leave (id : Nat) (q : Ex × St) : Ex × St := match q.1 with
  | .exit j => if j = id then (.normal, q.2) else (.exit j, q.2)
  | e => (e, q.2)
theorem leave_normal (id : Nat) (st : St) : leave id (.normal, st) = (.normal, st) := rfl
theorem leave_ret (id : Nat) (st : St) : leave id (.ret, st) = (.ret, st) := rfl
theorem leave_exit (id j : Nat) (st : St) : leave id (.exit j, st) = if j = id then (.normal, st) else (.exit j, st) := rfl
theorem rk_blk (id : Nat) (b : K) (st : St) : rk FT X (.blk id b) st = (rk FT X b st).map (leave id) := by
  refine lim_congr (rk_mono FT X _ _) fun r => ?_
  simp only [runK, Option.map_eq_some_iff]
  constructor
  · rintro ⟨n, q, h1, h2⟩; exact ⟨q, (rk_some FT X).2 ⟨n, h1⟩, h2⟩
  · rintro ⟨q, h1, h2⟩
    obtain ⟨n, hn⟩ := (rk_some FT X).1 h1
    exact ⟨n, q, hn, h2⟩
theorem rk_loop (b : K) (st : St) : rk FT X (.loop b) st = (rk FT X b st).bind (thenK FT X (.loop b)) := by
  refine lim_congr (rk_mono FT X _ _) fun r => ?_
  simp only [runK, Option.bind_eq_some_iff]
  constructor
  · rintro ⟨n, h⟩
    cases n with
    | zero => simp [iter] at h
    | succ n =>
      simp only [iter, Option.bind_eq_some_iff] at h
      obtain ⟨⟨e, s⟩, h1, h2⟩ := h
      refine ⟨(e, s), (rk_some FT X).2 ⟨n + 1, h1⟩, ?_⟩
      cases e with
      | normal =>
        refine (rk_some FT X).2 ⟨n + 1, ?_⟩
        simp only [runK]
        exact iter_mono (fun st => Le.refl _) n (n + 1) (by omega) s r h2
      | exit id => exact h2
      | ret => exact h2
  · rintro ⟨⟨e, s⟩, h1, h2⟩
    obtain ⟨n, hn⟩ := (rk_some FT X).1 h1
    cases e with
    | normal =>
      obtain ⟨m, hm⟩ := (rk_some FT X).1 h2
      simp only [runK] at hm
      refine ⟨max n m + 1, ?_⟩
      simp only [iter, Option.bind_eq_some_iff]
      refine ⟨(.normal, s), rk_mono FT X _ _ _ _ (by omega) _ hn, ?_⟩
      exact iter_mono (fun st => runK_mono (callN_mono FT X (by omega)) (by omega) b st) m (max n m) (Nat.le_max_right ..) s r hm
    | exit id =>
      refine ⟨n + 1, ?_⟩
      simp only [iter, Option.bind_eq_some_iff]
      exact ⟨_, rk_mono FT X _ _ _ _ (by omega) _ hn, h2⟩
    | ret =>
      refine ⟨n + 1, ?_⟩
      simp only [iter, Option.bind_eq_some_iff]
      exact ⟨_, rk_mono FT X _ _ _ _ (by omega) _ hn, h2⟩
def hintK (hs : List H) (q : Ex × St) : Option (Ex × St) := match q.1 with
  | .normal => (doHs hs q.2).map fun st' => (.normal, st')
  | e => some (e, q.2)
theorem hintK_normal (hs : List H) (st : St) : hintK hs (.normal, st) = (doHs hs st).map fun st' => (.normal, st') := rfl
theorem hintK_exit (hs : List H) (id : Nat) (st : St) : hintK hs (.exit id, st) = some (.exit id, st) := rfl
theorem hintK_ret (hs : List H) (st : St) : hintK hs (.ret, st) = some (.ret, st) := rfl
theorem rk_h (hs : List H) (k : K) (st : St) : rk FT X (.h hs k) st = (rk FT X k st).bind (hintK hs) := by
  refine lim_congr (rk_mono FT X _ _) fun r => ?_
  simp only [runK, Option.bind_eq_some_iff]
  constructor
  · rintro ⟨n, q, h1, h2⟩; exact ⟨q, (rk_some FT X).2 ⟨n, h1⟩, h2⟩
  · rintro ⟨q, h1, h2⟩
    obtain ⟨n, hn⟩ := (rk_some FT X).1 h1
    exact ⟨n, q, hn, h2⟩

/-- The end of a function. -/
def finF (nt : Nat) (res : List RK) (args : List Arg) (q : Ex × St) : Option Res := match q.1 with
  | .exit _ => none
  | _ => ((outs q.2.s res M.ret).run (fun _ _ => none) 0 q.2.r).bind fun o =>
      if shape o.2 args.length = shape (enter nt args).r args.length then some { vals := o.1, after := afters o.2 args.length } else none
theorem den_eq {f : FuncId} {fn : F} {args : List Arg} (hf : FT f = some fn) (hx : X f args = none) (hl : args.length ≤ fn.nt) :
    den FT X f args = (rk FT X fn.body (enter fn.nt args)).bind (finF fn.nt fn.res args) := by
  refine lim_congr (den_mono FT X _ _) fun r => ?_
  simp only [Option.bind_eq_some_iff]
  constructor
  · rintro ⟨n, h⟩
    cases n with
    | zero => simp [callN] at h
    | succ n =>
      simp only [callN, hx, hf, Option.bind_some, runF, hl, if_true, Option.bind_eq_some_iff] at h
      obtain ⟨q, h1, h2⟩ := h
      exact ⟨q, (rk_some FT X).2 ⟨n, h1⟩, h2⟩
  · rintro ⟨q, h1, h2⟩
    obtain ⟨n, hn⟩ := (rk_some FT X).1 h1
    refine ⟨n + 1, ?_⟩
    simp only [callN, hx, hf, Option.bind_some, runF, hl, if_true, Option.bind_eq_some_iff]
    exact ⟨q, hn, h2⟩
theorem den_ext {f : FuncId} {args : List Arg} {r : Res} (hx : X f args = some r) : den FT X f args = some r :=
  (den_some FT X).2 ⟨1, by simp [callN, hx]⟩

end TT
