import Derived.Test.YtknfhlnfombmgaaDoorTD23
import Derived.LoopN
set_option linter.unusedVariables false
set_option linter.unusedSimpArgs false
namespace TT
open Go

section
variable {P : Program} {c : Ctx} {w w' : World} {a : Act} {o : Oper} {ops : Array Oper} {Q : Exit → Act → World → Prop} {call : CallF} {es : List OpE}

/-- All orders lead to st'. -/
def AnyR (call : CallF) (es : List OpE) (ops : Array Oper) (st' : St) : Nat → Array Bool → St → Prop
  | 0, listed, st => Region.ready .any ops listed = [] ∧ st = st'
  | n + 1, listed, st => (Region.ready .any ops listed = [] → st = st') ∧ ∀ i ∈ Region.ready .any ops listed, ∃ e st1, es[i]? = some e ∧ stepO call true e st = some st1 ∧ AnyR call es ops st' n (listed.setIfInBounds i true) st1

theorem anyR_sound (hS : Sound c.G P call) (hag : ∀ (j : Nat) e, es[j]? = some e → ∃ o, ops[j]? = some o ∧ agE P ops e o = true) {st' : St} (hK : ∀ a' w', Sim c st' a' w' → Q .normal a' w') :
    ∀ (n : Nat) {listed : Array Bool} {st : St} {a : Act} {w : World}, AnyR call es ops st' n listed st → Sim c st a w → wpAny P .any ops Q n listed a w
  | 0, listed, st, a, w, h, hs => ⟨h.1, hK _ _ (h.2 ▸ hs)⟩
  | n + 1, listed, st, a, w, h, hs => by
    refine ⟨fun h0 => hK _ _ (h.1 h0 ▸ hs), fun i hi => ?_⟩
    obtain ⟨e, st1, h1, h2, h3⟩ := h.2 i hi
    obtain ⟨o, g1, g2⟩ := hag i e h1
    exact step_sound hS g1 g2 h2 hs fun a' w' hs' => anyR_sound hS hag hK n h3 hs'

theorem anyR_first {st' : St} {i : Nat} {ei : OpE} (hi : es[i]? = some ei) : ∀ (n : Nat) {listed : Array Bool} {st s1 : St},
    (∀ j ej oj, es[j]? = some ej → ops[j]? = some oj → j ≠ i → listed.getD j true = false → (∀ e ∈ oj.after, Region.binds .any e = true → e.on ≠ i) → commB ei ej = true) →
    i ∈ Region.ready .any ops listed → stepO call true ei st = some s1 → AnyR call es ops st' n (listed.setIfInBounds i true) s1 → AnyR call es ops st' (n + 1) listed st := by
  intro n
  induction n with
  | zero =>
    intro listed st s1 _ hr h1 H
    refine ⟨fun h => (by rw [h] at hr; cases hr), fun j hj => ?_⟩
    by_cases hji : j = i
    · subst hji; exact ⟨ei, s1, hi, h1, H⟩
    · have := ready_mono hj hji
      rw [H.1] at this
      cases this
  | succ n ih =>
    intro listed st s1 hfree hr h1 H
    refine ⟨fun h => (by rw [h] at hr; cases hr), fun j hj => ?_⟩
    by_cases hji : j = i
    · subst hji; exact ⟨ei, s1, hi, h1, H⟩
    · obtain ⟨ej, s2, g1, g2, g3⟩ := H.2 j (ready_mono hj hji)
      obtain ⟨hjun, oj, hoj, hall⟩ := mem_ready.1 hj
      have hnot : ∀ e ∈ oj.after, Region.binds .any e = true → e.on ≠ i := fun e he hb heq => by
        have h1 := hall e he hb
        have h0 := (mem_ready.1 hr).1
        rw [heq] at h1
        rcases Nat.lt_or_ge i listed.size with h' | h'
        · simp [h'] at h0 h1; rw [h0] at h1; cases h1
        · simp [Array.getElem?_eq_none h'] at h1
      obtain ⟨s1', k1, k2⟩ := comm_step (hfree j ej oj g1 hoj hji hjun hnot) h1 g2
      refine ⟨ej, s1', g1, k1, ?_⟩
      refine ih (fun k ek ok hek hk hki hun hno => ?_) (ready_mono hr (Ne.symm hji)) k2 (by rw [Array.setIfInBounds_comm _ _ hji]; exact g3)
      refine hfree k ek ok hek hk hki ?_ hno
      by_cases hjk : j = k
      · subst hjk; exact hjun
      · rw [getD_set_ne true hjk] at hun; exact hun

theorem anyR_firstD {st' : St} {i : Nat} {ei : OpE} {dep : Nat → Bool} (hi : es[i]? = some ei) (hd : ∀ j oj, ops[j]? = some oj → dep j = true → ∃ e ∈ oj.after, Region.binds .any e = true ∧ (e.on = i ∨ dep e.on = true)) : ∀ (n : Nat) {listed : Array Bool} {st s1 : St},
    (∀ m, listed.getD m false = true → dep m = false) → (∀ j ej oj, es[j]? = some ej → ops[j]? = some oj → j ≠ i → listed.getD j true = false → dep j = false → commB ei ej = true) →
    i ∈ Region.ready .any ops listed → stepO call true ei st = some s1 → AnyR call es ops st' n (listed.setIfInBounds i true) s1 → AnyR call es ops st' (n + 1) listed st := by
  intro n
  induction n with
  | zero =>
    intro listed st s1 _ _ hr h1 H
    refine ⟨fun h => (by rw [h] at hr; cases hr), fun j hj => ?_⟩
    by_cases hji : j = i
    · subst hji; exact ⟨ei, s1, hi, h1, H⟩
    · have := ready_mono hj hji
      rw [H.1] at this
      cases this
  | succ n ih =>
    intro listed st s1 hl hfree hr h1 H
    refine ⟨fun h => (by rw [h] at hr; cases hr), fun j hj => ?_⟩
    by_cases hji : j = i
    · subst hji; exact ⟨ei, s1, hi, h1, H⟩
    · obtain ⟨ej, s2, g1, g2, g3⟩ := H.2 j (ready_mono hj hji)
      obtain ⟨hjun, oj, hoj, hall⟩ := mem_ready.1 hj
      have hdj : dep j = false := by
        cases hdj : dep j with
        | false => rfl
        | true =>
          obtain ⟨e, he, hb, hor⟩ := hd j oj hoj hdj
          have h1 := hall e he hb
          rcases hor with heq | hor
          · have h0 := (mem_ready.1 hr).1
            rw [heq] at h1
            rcases Nat.lt_or_ge i listed.size with h' | h'
            · simp [h'] at h0 h1; rw [h0] at h1; cases h1
            · simp [Array.getElem?_eq_none h'] at h1
          · have := hl e.on (by
              rcases Nat.lt_or_ge e.on listed.size with h' | h'
              · simpa [h'] using h1
              · simp [Array.getElem?_eq_none h'] at h1)
            rw [hor] at this
            cases this
      obtain ⟨s1', k1, k2⟩ := comm_step (hfree j ej oj g1 hoj hji hjun hdj) h1 g2
      refine ⟨ej, s1', g1, k1, ?_⟩
      refine ih (fun m hm => ?_) (fun k ek ok hek hk hki hun hno => ?_) (ready_mono hr (Ne.symm hji)) k2 (by rw [Array.setIfInBounds_comm _ _ hji]; exact g3)
      · by_cases hjm : j = m
        · subst hjm; exact hdj
        · rw [getD_set_ne false hjm] at hm; exact hl m hm
      · refine hfree k ek ok hek hk hki ?_ hno
        by_cases hjk : j = k
        · subst hjk; exact hjun
        · rw [getD_set_ne true hjk] at hun; exact hun

/-- What waits for i, straight or by others. -/
def depA (ops : Array Oper) (i : Nat) : Array Bool := (List.range ops.size).foldl (fun dep j => dep.push (match ops[j]? with | some oj => oj.after.any (fun e => Region.binds .any e && (e.on == i || dep.getD e.on false)) | none => false)) #[]
def depOk (ops : Array Oper) (listed : Array Bool) (i : Nat) (dep : Array Bool) : Bool := (List.range ops.size).all fun j => !dep.getD j false || (!listed.getD j false && (match ops[j]? with | some oj => oj.after.any (fun e => Region.binds .any e && (e.on == i || dep.getD e.on false)) | none => false))
def freeE (es : List OpE) (ops : Array Oper) (listed : Array Bool) (i : Nat) (dep : Array Bool) : Bool := match es[i]? with
  | none => false
  | some ei => depOk ops listed i dep && dep.size == ops.size && (List.range ops.size).all fun j => j == i || listed.getD j true || dep.getD j false || (match es[j]? with | some ej => commB ei ej | none => true)
def freeD (es : List OpE) (ops : Array Oper) (listed : Array Bool) (i : Nat) : Bool := freeE es ops listed i (depA ops i)

theorem freeE_spec {i : Nat} {ei : OpE} {listed dep : Array Bool} (hi : es[i]? = some ei) (h : freeE es ops listed i dep = true) :
    (∀ j oj, ops[j]? = some oj → dep.getD j false = true → ∃ e ∈ oj.after, Region.binds .any e = true ∧ (e.on = i ∨ dep.getD e.on false = true)) ∧ (∀ m, listed.getD m false = true → dep.getD m false = false) ∧
    (∀ j ej oj, es[j]? = some ej → ops[j]? = some oj → j ≠ i → listed.getD j true = false → dep.getD j false = false → commB ei ej = true) := by
  simp only [freeE, hi, depOk, Bool.and_eq_true, List.all_eq_true, List.mem_range, beq_iff_eq] at h
  obtain ⟨⟨h1, h2⟩, h3⟩ := h
  refine ⟨fun j oj hoj hd => ?_, fun m hm => ?_, fun j ej oj hej hoj hne hun hd => ?_⟩
  · have := h1 j (Array.getElem?_eq_some_iff.1 hoj).1
    rw [hd, hoj] at this
    simp only [Bool.not_true, Bool.false_or, Bool.and_eq_true] at this
    obtain ⟨e, he, hb⟩ := Array.any_eq_true'.1 this.2
    simp only [Bool.and_eq_true, Bool.or_eq_true, beq_iff_eq] at hb
    exact ⟨e, he, hb.1, hb.2⟩
  · cases hd : dep.getD m false with
    | false => rfl
    | true =>
      rcases Nat.lt_or_ge m ops.size with h' | h'
      · have := h1 m h'
        rw [hd, hm] at this
        simp at this
      · rw [← h2] at h'
        simp [Array.getD, Nat.not_lt.2 h'] at hd
  · have := h3 j (Array.getElem?_eq_some_iff.1 hoj).1
    simpa [hej, hne, hun, hd] using this

/-- Those behind i that need not wait for it may change places with it. -/
def freeC (es : List OpE) (ops : Array Oper) (listed : Array Bool) (i : Nat) : Bool :=
  match es[i]? with
  | none => false
  | some ei => (List.range ops.size).all fun j => j == i || listed.getD j true || (match ops[j]? with | some oj => oj.after.any (fun e => Region.binds .any e && e.on == i) | none => true) || (match es[j]? with | some ej => commB ei ej | none => true)

def lexC (es : List OpE) (ops : Array Oper) : Nat → Nat → Array Bool → Bool
  | 0, _, listed => (Region.ready .any ops listed).isEmpty
  | n + 1, k, listed => (Region.ready .any ops listed).contains k && (freeC es ops listed k || freeD es ops listed k) && lexC es ops n (k + 1) (listed.setIfInBounds k true)

theorem freeC_spec {i : Nat} {ei : OpE} {listed : Array Bool} (hi : es[i]? = some ei) (h : freeC es ops listed i = true) (j : Nat) (ej : OpE) (oj : Oper) (hej : es[j]? = some ej) (hoj : ops[j]? = some oj) (hne : j ≠ i) (hun : listed.getD j true = false) (hno : ∀ e ∈ oj.after, Region.binds .any e = true → e.on ≠ i) : commB ei ej = true := by
  simp only [freeC, hi, List.all_eq_true, List.mem_range] at h
  have h1 := h j (Array.getElem?_eq_some_iff.1 hoj).1
  simp only [hoj, hej, Bool.or_eq_true, beq_iff_eq, hne, false_or, hun, Bool.false_eq_true] at h1
  rcases h1 with h1 | h1
  · obtain ⟨e, he, hb⟩ := Array.any_eq_true'.1 h1
    simp only [Bool.and_eq_true, beq_iff_eq] at hb
    exact absurd hb.2 (hno e he hb.1)
  · exact h1

theorem anyR_lex {st' : St} : ∀ (l : List OpE) (k : Nat) {listed : Array Bool} {st : St}, (∀ j, l[j]? = es[k + j]?) → lexC es ops l.length k listed = true → stepsO call true l st = some st' → AnyR call es ops st' l.length listed st
  | [], k, listed, st, hl, hB, h => by
    simp only [stepsO, Option.some.injEq] at h
    exact ⟨by simpa [lexC] using hB, h⟩
  | e :: l, k, listed, st, hl, hB, h => by
    have h0 : es[k]? = some e := by simpa using (hl 0).symm
    simp only [List.length_cons, lexC, Bool.and_eq_true] at hB
    obtain ⟨⟨hr, hf⟩, hB'⟩ := hB
    simp only [stepsO] at h
    obtain ⟨st1, h1, h2⟩ := Option.bind_eq_some_iff.1 h
    have hrest := (anyR_lex l (k + 1) (fun j => by have := hl (j + 1); simpa [Nat.add_assoc, Nat.add_comm 1 j] using this) hB' h2)
    rw [Bool.or_eq_true] at hf
    rcases hf with hf | hf
    · exact anyR_first h0 l.length (freeC_spec h0 hf) (by simpa using hr) h1 hrest
    · obtain ⟨f1, f2, f3⟩ := freeE_spec h0 hf
      exact anyR_firstD (dep := fun j => (depA ops k).getD j false) h0 f1 l.length f2 f3 (by simpa using hr) h1 hrest

/-- The operations of a region agree. -/
def agEs (P : Program) (ops : Array Oper) : List OpE → List Oper → Bool
  | [], [] => true
  | e :: es, o :: os => agE P ops e o && agEs P ops es os
  | _, _ => false

theorem agEs_spec : ∀ {es : List OpE} {os : List Oper}, agEs P ops es os = true → es.length = os.length ∧ ∀ (j : Nat) e, es[j]? = some e → ∃ o, os[j]? = some o ∧ agE P ops e o = true
  | [], [], h => ⟨rfl, fun j e h => by simp at h⟩
  | [], o :: os, h => by simp [agEs] at h
  | e :: es, [], h => by simp [agEs] at h
  | e :: es, o :: os, h => by
    simp only [agEs, Bool.and_eq_true] at h
    obtain ⟨h1, h2⟩ := agEs_spec h.2
    refine ⟨by simp [h1], fun j e' hj => ?_⟩
    cases j with
    | zero => simp at hj; subst hj; exact ⟨o, by simp, h.1⟩
    | succ j => obtain ⟨o', g1, g2⟩ := h2 j e' (by simpa using hj); exact ⟨o', by simpa using g1, g2⟩

def agVs (P : Program) (ops : Array Oper) : List OpE → List Oper → Bool
  | [], [] => true
  | e :: es, o :: os => (agE P ops e o || agV P e o) && agVs P ops es os
  | _, _ => false

theorem agVs_spec : ∀ {es : List OpE} {os : List Oper}, agVs P ops es os = true → es.length = os.length ∧ ∀ (j : Nat) e, es[j]? = some e → ∃ o, os[j]? = some o ∧ (agE P ops e o || agV P e o) = true
  | [], [], h => ⟨rfl, fun j e h => by simp at h⟩
  | [], o :: os, h => by simp [agVs] at h
  | e :: es, [], h => by simp [agVs] at h
  | e :: es, o :: os, h => by
    simp only [agVs] at h
    rw [Bool.and_eq_true] at h
    obtain ⟨h1, h2⟩ := agVs_spec h.2
    refine ⟨by simp [h1], fun j e' hj => ?_⟩
    cases j with
    | zero => simp at hj; subst hj; exact ⟨o, by simp, h.1⟩
    | succ j => obtain ⟨o', g1, g2⟩ := h2 j e' (by simpa using hj); exact ⟨o', by simpa using g1, g2⟩

def agR (P : Program) (draw draw' : Bool) (es : List OpE) (ops : Array Oper) : Bool := draw == draw' && (if draw then agEs P ops es ops.toList && lexC es ops es.length 0 (Array.replicate ops.size false) else agVs P ops es ops.toList)

theorem Sim.drew {st : St} {a : Act} {w : World} (h : Sim c st a w) : Sim c st a { w with drawn := w.drawn + 1 } := by
  obtain ⟨B, ρ, Sf, hI, hs, hz, hl, hd⟩ := h
  refine ⟨B, ρ, Sf, ?_, ?_, hz, hl, hd⟩
  · exact hI.world (fun _ _ _ => rfl) (Nat.le_refl _) rfl rfl rfl (fun _ h => h) (fun _ h => .inl h) hI.inB (fun _ h => .inl h) (fun _ h => h.elim) (fun _ h => h.elim)
  · exact fun t => claims_world (w := w) (w' := { w with drawn := w.drawn + 1 }) (fun _ h => h) (fun _ _ => rfl) (fun id rows stt fx hg => ⟨Sf id, (hI.mem hg).1, fun _ _ => rfl⟩) (hs t)

theorem region_sound (hS : Sound c.G P call) (hm : P.follows .mixedOrders = true) {draw draw' : Bool} {id : Nat} (hag : agR P draw draw' es ops = true) {st st' : St} (h : stepsO call draw es st = some st') {a : Act} {w : World} (hs : Sim c st a w) (hK : ∀ a' w', Sim c st' a' w' → Q .normal a' w') :
    (Code.region id ops draw').wp P Q a w := by
  simp only [agR, Bool.and_eq_true, beq_iff_eq] at hag
  obtain ⟨rfl, h1⟩ := hag
  cases draw with
  | false =>
    simp only [Bool.false_eq_true, if_false] at h1
    obtain ⟨hl, hA⟩ := agVs_spec h1
    have hl' : es.length = ops.size := by simpa using hl
    refine wp_region ?_
    rw [List.range_eq_range', ← hl']
    exact steps_soundV hS es 0 (fun j e hj => by
      rw [Nat.zero_add]
      obtain ⟨o, g1, g2⟩ := hA j e hj
      exact ⟨o, by simpa using g1, g2⟩) h hs hK
  | true =>
    simp only [if_true, Bool.and_eq_true] at h1
    obtain ⟨h1, h2⟩ := h1
    obtain ⟨hl, hA⟩ := agEs_spec h1
    have hA' : ∀ (j : Nat) e, es[j]? = some e → ∃ o, ops[j]? = some o ∧ agE P ops e o = true := fun j e hj => by
      obtain ⟨o, g1, g2⟩ := hA j e hj
      exact ⟨o, by simpa using g1, g2⟩
    have hl' : es.length = ops.size := by simpa using hl
    refine wp_region_any hm ?_
    rw [← hl']
    refine anyR_sound hS hA' hK es.length (anyR_lex es 0 (fun j => by simp) ?_ h) hs.drew
    rw [← hl'] at h2
    exact h2

/-! ### Housekeeping -/

theorem Sim.kill {st : St} {a : Act} {w : World} (h : Sim c st a w) (ts : List Nat) : Sim c { st with s := ts.foldl (fun s t => s.set t .dead) st.s } a w := by
  obtain ⟨B, ρ, Sf, hI, hs, hz, hl, hd⟩ := h
  have key : ∀ (ts : List Nat) (s : List V), Slots w B ρ st.r s a → Slots w B ρ st.r (ts.foldl (fun s t => s.set t .dead) s) a ∧ (ts.foldl (fun s t => s.set t .dead) s).length = s.length := by
    intro ts
    induction ts with
    | nil => exact fun s h => ⟨h, rfl⟩
    | cons t ts ih =>
      intro s h
      have h1 : Slots w B ρ st.r (s.set t .dead) a := by
        intro t'
        by_cases e : t = t'
        · subst e
          have : (s.set t .dead).getD t .dead = .dead := by
            simp only [List.getD, List.getElem?_set]
            by_cases hl : t < s.length <;> simp [hl]
          rw [this]; simp only [RepV]
        · have : (s.set t .dead).getD t' .dead = s.getD t' .dead := by simp [List.getD, List.getElem?_set, e]
          rw [this]; exact h t'
      obtain ⟨g1, g2⟩ := ih _ h1
      exact ⟨g1, by simpa using g2⟩
  obtain ⟨g1, g2⟩ := key ts st.s hs
  exact ⟨B, ρ, Sf, hI, g1, by rw [hz, g2], by rw [hl, g2], hd⟩

theorem Sim.freeze {st : St} {a : Act} {w : World} (h : Sim c st a w) {t : Nat} {x : V × R} (hrun : (freezeV (st.s.getD t .dead) .ret).run (fun _ _ => none) 0 st.r = some x) : Sim c { s := st.s.set t x.1, r := x.2 } a w := by
  obtain ⟨B, ρ, Sf, hI, hs, hz, hl, hd⟩ := h
  have ht := hs t
  cases hv : st.s.getD t .dead with
  | ref id n =>
    rw [hv] at hrun ht
    simp only [freezeV, M.run] at hrun
    cases he : getE st.r id with
    | dead => rw [he] at hrun; simp [M.run] at hrun
    | mem rows stt fx =>
      rw [he] at hrun
      simp only at hrun
      split at hrun
      · rename_i hc
        simp only [M.run, Option.some.injEq] at hrun
        subst hrun
        have ht0 := ht
        simp only [RepV] at ht
        have hu := (ht.2.2 rows stt fx he).2 hc.1
        have hL := lend_root (r0 := st.r) hI he
        have hI2 := hL.inv.share (Y := Sf id) (X' := fun _ => False) (fun b hb => .inr hb) (fun b hb => hb.elim) (fun b hb => hb.elim)
        have hcl : ∀ v u, RepV w B ρ st.r v u → RepV w (fun b => B b ∨ Sf id b) ρ (setE st.r id .dead) v u := fun v u hh => claims_world (fun _ h => .inl h) (fun _ _ => rfl) (fun j => kept_refl hL.inv j) (hL.claims v u hh)
        have hf := OwC.frz (B := B) (B' := fun b => B b ∨ Sf id b) (fun _ h => .inl h) (t := .sl true rows) (u := a.tmps.getD t undef) (S := Sf id) (fun _ h => .inr h) (OwC_sl.2 ⟨_, _, by rw [hc.1]; exact hu, (hI.mem he).1⟩)
        simp only [TT.frz] at hf
        refine ⟨_, ρ, _, hI2, ?_, by simpa using hz, by rw [length_setE]; simpa using hl, hd⟩
        intro t'
        by_cases e : t = t'
        · subst e
          by_cases hlt : t < st.s.length
          · have : (st.s.set t (.t (.sl false (frzRs rows)))).getD t .dead = .t (.sl false (frzRs rows)) := by simp [List.getD, hlt]
            rw [this]
            simp only [RepV]
            exact ⟨hf, by rw [hu]; rfl⟩
          · have : (st.s.set t (.t (.sl false (frzRs rows)))).getD t .dead = .dead := by simp [List.getD, List.getElem?_set, hlt]
            rw [this]; simp only [RepV]
        · have : (st.s.set t (.t (.sl false (frzRs rows)))).getD t' .dead = st.s.getD t' .dead := by simp [List.getD, List.getElem?_set, e]
          rw [this]; exact hcl _ _ (hs t')
      · simp [M.run] at hrun
  | nil =>
    rw [hv] at hrun ht
    simp only [freezeV, M.run, Option.some.injEq] at hrun
    subst hrun
    refine ⟨B, ρ, Sf, hI, ?_, by simpa using hz, by simpa using hl, hd⟩
    intro t'
    by_cases e : t = t'
    · subst e
      by_cases hlt : t < st.s.length
      · have : (st.s.set t (.t (.sl false []))).getD t .dead = .t (.sl false []) := by simp [List.getD, hlt]
        rw [this]
        simp only [RepV] at ht ⊢
        rw [ht]
        refine ⟨?_, rfl⟩
        simp only [ShC]
        exact ⟨none, 0, rfl, Nat.le_refl _, by decide, .inl trivial⟩
      · have : (st.s.set t (.t (.sl false []))).getD t .dead = .dead := by simp [List.getD, List.getElem?_set, hlt]
        rw [this]; simp only [RepV]
    · have : (st.s.set t (.t (.sl false []))).getD t' .dead = st.s.getD t' .dead := by simp [List.getD, List.getElem?_set, e]
      rw [this]; exact hs t'
  | t c =>
    rw [hv] at hrun ht
    cases c <;> try (simp [freezeV, M.run] at hrun; done)
    simp only [freezeV, M.run, Option.some.injEq] at hrun
    subst hrun
    refine ⟨B, ρ, Sf, hI, ?_, by simpa using hz, by simpa using hl, hd⟩
    intro t'
    by_cases e : t = t'
    · subst e
      have : (st.s.set t (st.s.getD t .dead)).getD t .dead = st.s.getD t .dead := by
        by_cases hlt : t < st.s.length <;> simp [List.getD, hlt]
      rw [hv] at this
      show RepV w B ρ st.r ((st.s.set t _).getD t .dead) _
      rw [this]; exact ht
    · have : ∀ v, (st.s.set t v).getD t' .dead = st.s.getD t' .dead := by intro v; simp [List.getD, List.getElem?_set, e]
      show RepV w B ρ st.r ((st.s.set t _).getD t' .dead) _
      rw [this]; exact hs t'
  | _ => rw [hv] at hrun; simp [freezeV, M.run] at hrun

theorem Sim.own {st st' : St} {a : Act} {w : World} (h : Sim c st a w) {t d : Nat} (hrun : doH st (.own t d) = some st') : Sim c st' a w := by
  obtain ⟨B, ρ, Sf, hI, hs, hz, hl, hd⟩ := h
  have ht := hs t
  simp only [doH] at hrun
  split at hrun
  · rename_i hv
    rw [hv] at ht
    simp only [RepV] at ht
    split at hrun
    · rename_i hc
      simp only [Bool.and_eq_true, decide_eq_true_eq, List.isEmpty_iff] at hc
      cases hrun
      have hE : EntsRep w B [.mem [] 0 false] [(none, 0)] (fun _ => False) := by
        simp only [EntsRep]
        exact ⟨[], (none, 0), [], fun _ => False, fun _ => False, rfl, rfl, .inl ⟨rfl, rfl, rfl, fun _ h => h⟩, ⟨rfl, fun _ h => h⟩, ⟨fun b => by simp, fun b (h : False) => h.elim⟩⟩
      obtain ⟨ρ', Sf', k1, k2, k3⟩ := hI.news hc.1 hc.2 hE (fun _ h => h.elim)
      refine ⟨B, ρ', Sf', k1, ?_, by simpa using hz, by simpa using hl, hd⟩
      intro t'
      by_cases e : t = t'
      · subst e
        by_cases hlt : t < st.s.length
        · have : (st.s.set t (.ref (d, 0) 0)).getD t .dead = .ref (d, 0) 0 := by simp [List.getD, hlt]
          rw [this, ht]
          exact new_ref (rows := []) hc.1 hc.2 (by have := k3.1 0 (none, 0) rfl; simpa using this) (Nat.le_refl _)
        · have : (st.s.set t (.ref (d, 0) 0)).getD t .dead = .dead := by simp [List.getD, List.getElem?_set, hlt]
          rw [this]; simp only [RepV]
      · have : (st.s.set t (.ref (d, 0) 0)).getD t' .dead = st.s.getD t' .dead := by simp [List.getD, List.getElem?_set, e]
        rw [this]; exact k2 _ _ (hs t')
    · cases hrun
  · cases hrun; exact ⟨B, ρ, Sf, hI, hs, hz, hl, hd⟩
  · cases hrun

theorem clean_getD (r : R) (ts : List Nat) (t : Nat) : (r.mapIdx (cleanR ts)).getD t [] = if ts.contains t then [] else (r.getD t []).map Ent.calm := by
  simp only [List.getD, List.getElem?_mapIdx]
  cases h : r[t]? with
  | none => simp
  | some es => simp [cleanR]

theorem clean_getE (r : R) (ts : List Nat) (id : Id) : getE (r.mapIdx (cleanR ts)) id = if ts.contains id.1 then .dead else (getE r id).calm := by
  simp only [getE, clean_getD]
  split
  · simp
  · simp only [List.getD, List.getElem?_map]
    cases h : (r[id.1]?.getD [])[id.2]? with
    | none => simp [Ent.calm]
    | some e => simp

theorem clean_there {r : R} {ts : List Nat} {id : Id} (h : There r id) (ht : ts.contains id.1 = false) : There (r.mapIdx (cleanR ts)) id := by
  unfold There at h ⊢
  rw [clean_getD, ht]
  simpa using h

theorem clean_mem {r : R} {ts : List Nat} {id : Id} {rows : Rows} {stt : Nat} {fx : Bool} (h : getE (r.mapIdx (cleanR ts)) id = .mem rows stt fx) : ts.contains id.1 = false ∧ stt = 0 ∧ ∃ stt', getE r id = .mem rows stt' fx := by
  rw [clean_getE] at h
  split at h
  · cases h
  · rename_i hc
    refine ⟨by simpa using hc, ?_⟩
    cases he : getE r id with
    | dead => rw [he] at h; cases h
    | mem rows' stt' fx' =>
      rw [he] at h
      simp only [Ent.calm, Ent.mem.injEq] at h
      obtain ⟨rfl, rfl, rfl⟩ := h
      exact ⟨rfl, stt', rfl⟩

section
variable {B : Nat → Prop} {ρ : Id → Loc} {Sf : Id → Nat → Prop} {X : Nat → Prop} {r : R} {ts : List Nat}
mutual
theorem clean_rep : ∀ {v : V} {u : Value}, v.mentions ts = false → RepV w B ρ r v u → RepV w B ρ (r.mapIdx (cleanR ts)) v u
  | .t c, u, hm, h => by simpa only [RepV] using h
  | .nil, u, hm, h => by simpa only [RepV] using h
  | .agg cs, u, hm, h => by
    simp only [V.mentions] at hm
    simp only [RepV] at h ⊢
    obtain ⟨us, e, h⟩ := h
    exact ⟨us, e, clean_reps hm h⟩
  | .ref id n, u, hm, h => by
    simp only [V.mentions] at hm
    simp only [RepV] at h ⊢
    refine ⟨clean_there h.1 hm, h.2.1, fun rows stt fx hg => ?_⟩
    obtain ⟨_, _, stt', hg'⟩ := clean_mem hg
    exact h.2.2 rows stt' fx hg'
  | .sub id p i k n st, u, hm, h => by simp [V.mentions] at hm
  | .ptr id p i off n st, u, hm, h => by
    simp only [V.mentions, Bool.or_eq_false_iff, Bool.not_eq_false'] at hm
    have hp : p = [] := by simpa using hm.1
    subst hp
    simp only [RepV] at h ⊢
    obtain ⟨h1, ad, h2, h3⟩ := h
    refine ⟨clean_there h1 hm.2, ad, h2, fun rows stt fx hg => ?_⟩
    obtain ⟨_, _, stt', hg'⟩ := clean_mem hg
    obtain ⟨g1, g2, g3⟩ := h3 rows stt' fx hg'
    exact ⟨g1, fun h => absurd rfl h, fun e _ => g3 e (fun h => absurd rfl h)⟩
  | .pp cs, u, hm, h => by simpa only [RepV] using h
  | .fn f cs, u, hm, h => by
    simp only [V.mentions] at hm
    simp only [RepV] at h ⊢
    obtain ⟨us, e, h⟩ := h
    exact ⟨us, e, clean_reps hm h⟩
  | .tup cs, u, hm, h => by
    simp only [V.mentions] at hm
    simp only [RepV] at h ⊢
    obtain ⟨us, e, h⟩ := h
    exact ⟨us, e, clean_reps hm h⟩
  | .dead, u, hm, h => by simp only [RepV]
theorem clean_reps : ∀ {vs : List V} {us : List Value}, mentionsL ts vs = false → RepVs w B ρ r vs us → RepVs w B ρ (r.mapIdx (cleanR ts)) vs us
  | [], us, hm, h => by simpa only [RepVs] using h
  | v :: vs, us, hm, h => by
    simp only [mentionsL, Bool.or_eq_false_iff] at hm
    simp only [RepVs] at h ⊢
    obtain ⟨u, us', e, h1, h2⟩ := h
    exact ⟨u, us', e, clean_rep hm.1 h1, clean_reps hm.2 h2⟩
end
end

theorem Sim.clean {st : St} {a : Act} {w : World} (h : Sim c st a w) (ts : List Nat) : Sim c { s := st.s.mapIdx (cleanS ts), r := st.r.mapIdx (cleanR ts) } a w := by
  obtain ⟨B, ρ, Sf, hI, hs, hz, hl, hd⟩ := h
  refine ⟨B, ρ, fun id b => ts.contains id.1 = false ∧ Sf id b, ?_, ?_, by simpa using hz, by simpa using hl, hd⟩
  · refine { hI with ents := fun id => ?_, disj := fun id id' b h h' => hI.disj id id' b h.2 h'.2, nb := fun id b h => hI.nb id b h.2, xd := fun id b h => h.elim, own := fun id b h => hI.own id b h.2 }
    have h1 := hI.ents id
    cases he : getE (st.r.mapIdx (cleanR ts)) id with
    | dead =>
      rw [clean_getE] at he
      split at he
      · rename_i hc
        intro b hb
        rw [hc] at hb; cases hb.1
      · cases hr : getE st.r id with
        | dead => rw [hr] at h1; exact fun b hb => h1 b hb.2
        | mem rows stt fx => rw [hr] at he; cases he
    | mem rows stt fx =>
      obtain ⟨hc, rfl, stt', hg⟩ := clean_mem he
      rw [hg] at h1
      have : (fun b => ts.contains id.1 = false ∧ Sf id b) = Sf id := funext fun b => propext ⟨fun h => h.2, fun h => ⟨hc, h⟩⟩
      rw [this]
      exact h1
  · intro t
    have hg : (st.s.mapIdx (cleanS ts)).getD t .dead = .dead ∨ ((st.s.mapIdx (cleanS ts)).getD t .dead = st.s.getD t .dead ∧ (st.s.getD t .dead).mentions ts = false) := by
      simp only [List.getD, List.getElem?_mapIdx]
      cases hh : st.s[t]? with
      | none => simp
      | some v =>
        simp only [Option.map_some, Option.getD_some, cleanS]
        split
        · exact .inl rfl
        · rename_i hc
          simp only [Bool.or_eq_true, not_or, Bool.not_eq_true] at hc
          exact .inr ⟨rfl, hc.2⟩
    rcases hg with hg | ⟨hg, hm⟩
    · rw [hg]; simp only [RepV]
    · rw [hg]; exact clean_rep hm (hs t)

theorem Sim.hs : ∀ {hs : List H} {st st' : St} {a : Act} {w : World}, doHs hs st = some st' → Sim c st a w → Sim c st' a w
  | [], st, st', a, w, h, hsim => by
    simp only [doHs, Option.some.injEq] at h
    subst h; exact hsim
  | x :: hs, st, st', a, w, h, hsim => by
    simp only [doHs] at h
    obtain ⟨st1, h1, h2⟩ := Option.bind_eq_some_iff.1 h
    refine Sim.hs h2 ?_
    cases x with
    | kill ts => simp only [doH, Option.some.injEq] at h1; subst h1; exact hsim.kill ts
    | clean ts => simp only [doH, Option.some.injEq] at h1; subst h1; exact hsim.clean ts
    | freeze t =>
      simp only [doH] at h1
      obtain ⟨q, g1, g2⟩ := Option.map_eq_some_iff.1 h1
      subst g2
      exact hsim.freeze g1
    | own t d => exact hsim.own h1

/-! ### Code -/

/-- The compact code and the loaded code agree. -/
def agK (P : Program) : K → Code → Bool
  | .skip, .skip => true
  | .reg draw es, .region _ ops draw' => agR P draw draw' es ops
  | .seq a b, .seq a' b' => agK P a a' && agK P b b'
  | .cond x a b, .cond x' a' b' => agO x x' && agK P a a' && agK P b b'
  | .blk id b, .block id' b' => id == id' && agK P b b'
  | .loop b, .loop b' => agK P b b'
  | .ex id, .exit id' => id == id'
  | .ret, .ret => true
  | .h _ k, k' => agK P k k'
  | _, _ => false

def exOf : Ex → Exit
  | .normal => .normal
  | .exit id => .exit id
  | .ret => .ret

theorem code_sound (hS : Sound c.G P call) (hm : P.follows .mixedOrders = true) {lf : Nat} : ∀ {k : K} {code : Code} {st : St} {q : Ex × St} {a : Act} {w : World} {Q : Exit → Act → World → Prop}, agK P k code = true → runK call lf k st = some q → Sim c st a w → (∀ a' w', Sim c q.2 a' w' → Q (exOf q.1) a' w') → code.wp P Q a w
  | .h hs k, code, st, q, a, w, Q, hag, hrun, hsim, hK => by
    have hag' : agK P k code = true := by cases code <;> simpa only [agK] using hag
    simp only [runK] at hrun
    obtain ⟨q1, h1, h2⟩ := Option.bind_eq_some_iff.1 hrun
    refine code_sound hS hm hag' h1 hsim fun a' w' hs' => ?_
    obtain ⟨e1, s1⟩ := q1
    cases e1 with
    | normal =>
      simp only at h2
      obtain ⟨st', g1, g2⟩ := Option.map_eq_some_iff.1 h2
      subst g2
      exact hK a' w' (Sim.hs g1 hs')
    | exit id => simp only [Option.some.injEq] at h2; subst h2; exact hK a' w' hs'
    | ret => simp only [Option.some.injEq] at h2; subst h2; exact hK a' w' hs'
  | .skip, code, st, q, a, w, Q, hag, hrun, hsim, hK => by
    cases code <;> simp only [agK] at hag <;> try (cases hag; done)
    simp only [runK, Option.some.injEq] at hrun
    subst hrun
    exact wp_skip (hK a w hsim)
  | .reg draw es, code, st, q, a, w, Q, hag, hrun, hsim, hK => by
    cases code <;> simp only [agK] at hag <;> try (cases hag; done)
    simp only [runK] at hrun
    obtain ⟨st', g1, g2⟩ := Option.map_eq_some_iff.1 hrun
    subst g2
    exact region_sound hS hm hag g1 hsim hK
  | .seq x y, code, st, q, a, w, Q, hag, hrun, hsim, hK => by
    cases code <;> simp only [agK] at hag <;> try (cases hag; done)
    simp only [Bool.and_eq_true] at hag
    simp only [runK] at hrun
    obtain ⟨q1, h1, h2⟩ := Option.bind_eq_some_iff.1 hrun
    refine wp_seq (code_sound hS hm hag.1 h1 hsim fun a' w' hs' => ?_)
    obtain ⟨e1, s1⟩ := q1
    cases e1 with
    | normal => exact code_sound hS hm hag.2 h2 hs' hK
    | exit id => simp only [Option.some.injEq] at h2; subst h2; exact hK a' w' hs'
    | ret => simp only [Option.some.injEq] at h2; subst h2; exact hK a' w' hs'
  | .cond x y z, code, st, q, a, w, Q, hag, hrun, hsim, hK => by
    cases code <;> simp only [agK] at hag <;> try (cases hag; done)
    simp only [Bool.and_eq_true] at hag
    obtain ⟨⟨h1, h2⟩, h3⟩ := hag
    obtain ⟨B, ρ, Sf, hI, hs, hz, hl, hd⟩ := hsim
    have hx := hs.eval h1
    simp only [runK] at hrun
    split at hrun
    · rename_i he
      rw [he] at hx
      exact wp_cond_true (rep_t hx).1 (code_sound hS hm h2 hrun ⟨B, ρ, Sf, hI, hs, hz, hl, hd⟩ hK)
    · rename_i he
      rw [he] at hx
      exact wp_cond_false (rep_t hx).1 (code_sound hS hm h3 hrun ⟨B, ρ, Sf, hI, hs, hz, hl, hd⟩ hK)
    · cases hrun
  | .blk id b, code, st, q, a, w, Q, hag, hrun, hsim, hK => by
    cases code <;> simp only [agK] at hag <;> try (cases hag; done)
    simp only [Bool.and_eq_true, beq_iff_eq] at hag
    obtain ⟨rfl, hag⟩ := hag
    simp only [runK] at hrun
    obtain ⟨q1, h1, h2⟩ := Option.map_eq_some_iff.1 hrun
    refine wp_block (code_sound hS hm hag h1 hsim fun a' w' hs' => ?_)
    obtain ⟨e1, s1⟩ := q1
    cases e1 with
    | normal => simp only at h2; subst h2; exact hK a' w' hs'
    | exit j =>
      simp only at h2
      simp only [exOf, Exit.inBlock]
      by_cases hj : j = id
      · rw [if_pos hj] at h2 ⊢; subst h2; exact hK a' w' hs'
      · rw [if_neg hj] at h2 ⊢; subst h2; exact hK a' w' hs'
    | ret => simp only at h2; subst h2; exact hK a' w' hs'
  | .loop b, code, st, q, a, w, Q, hag, hrun, hsim, hK => by
    cases code <;> simp only [agK] at hag <;> try (cases hag; done)
    rename_i cb
    simp only [runK] at hrun
    refine wp_loop_rounds lf ?_
    have key : ∀ (n : Nat) {st : St} {a : Act} {w : World}, iter (fun st => runK call lf b st) n st = some q → Sim c st a w → Code.rounds P cb Q n a w := by
      intro n
      induction n with
      | zero => intro st a w h _; simp [iter] at h
      | succ n ih =>
        intro st a w h hs
        simp only [iter] at h
        obtain ⟨q1, h1, h2⟩ := Option.bind_eq_some_iff.1 h
        rw [rounds_succ]
        refine code_sound hS hm hag h1 hs fun a' w' hs' => ?_
        obtain ⟨e1, s1⟩ := q1
        cases e1 with
        | normal => exact ih h2 hs'
        | exit id => simp only [Option.some.injEq] at h2; subst h2; exact hK a' w' hs'
        | ret => simp only [Option.some.injEq] at h2; subst h2; exact hK a' w' hs'
    exact key lf hrun hsim
  | .ex id, code, st, q, a, w, Q, hag, hrun, hsim, hK => by
    cases code <;> simp only [agK] at hag <;> try (cases hag; done)
    simp only [beq_iff_eq] at hag
    subst hag
    simp only [runK, Option.some.injEq] at hrun
    subst hrun
    exact wp_exit (hK a w hsim)
  | .ret, code, st, q, a, w, Q, hag, hrun, hsim, hK => by
    cases code <;> simp only [agK] at hag <;> try (cases hag; done)
    simp only [runK, Option.some.injEq] at hrun
    subst hrun
    exact wp_ret (hK a w hsim)

end
end TT
