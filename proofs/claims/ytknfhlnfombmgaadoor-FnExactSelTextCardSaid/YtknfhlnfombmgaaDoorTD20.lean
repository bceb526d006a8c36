import Derived.Test.YtknfhlnfombmgaaDoorTD19
set_option linter.unusedVariables false
set_option linter.unusedSimpArgs false
namespace TT
open Go

/-! ### What is owned through and through does not ask what is shared -/

mutual
theorem OwC.reB {w : World} {B B' : Nat → Prop} : ∀ {t : T} {u : Value} {S : Nat → Prop}, allOwn t = true → OwC w B t u S → OwC w B' t u S
  | .v x, u, S, _, h => by simpa only [OwC] using h
  | .hole, u, S, _, h => by simpa only [OwC] using h
  | .sl false rows, u, S, ha, h => by simp [allOwn] at ha
  | .sl true rows, u, S, ha, h => by
    simp only [allOwn, Bool.true_and] at ha
    simp only [OwC] at h ⊢
    obtain ⟨q, cap, h1, h2⟩ := h
    refine ⟨q, cap, h1, ?_⟩
    rcases h2 with h2 | ⟨b, sz, e, cur, S', h3, h4, h5, h6, h7, h8, h9, h10⟩
    · exact .inl h2
    · exact .inr ⟨b, sz, e, cur, S', h3, h4, h5, h6, h7, h8, h9, OwRs.reB ha h10⟩
theorem OwR.reB {w : World} {B B' : Nat → Prop} : ∀ {ts : List T} {b o : Nat} {S : Nat → Prop}, allOwnR ts = true → OwR w B b o ts S → OwR w B' b o ts S
  | [], b, o, S, _, h => by simpa only [OwR] using h
  | t :: ts, b, o, S, ha, h => by
    simp only [allOwnR, Bool.and_eq_true] at ha
    simp only [OwR] at h ⊢
    obtain ⟨u, S1, S2, h1, h2, h3, h4, h5⟩ := h
    exact ⟨u, S1, S2, h1, h2, OwC.reB ha.1 h3, OwR.reB ha.2 h4, h5⟩
theorem OwRs.reB {w : World} {B B' : Nat → Prop} : ∀ {rs : List (List T)} {b o sz : Nat} {S : Nat → Prop}, allOwnRs rs = true → OwRs w B b o sz rs S → OwRs w B' b o sz rs S
  | [], b, o, sz, S, _, h => by simpa only [OwRs] using h
  | t :: ts, b, o, sz, S, ha, h => by
    simp only [allOwnRs, Bool.and_eq_true] at ha
    simp only [OwRs] at h ⊢
    obtain ⟨S1, S2, h1, h2, h3, h4⟩ := h
    exact ⟨S1, S2, h1, OwR.reB ha.1 h2, OwRs.reB ha.2 h3, h4⟩
end

theorem OwS.reB {w : World} {B B' : Nat → Prop} {q : Option Addr} {cap : Nat} {rows : Rows} {S : Nat → Prop} (ha : allOwnRs rows = true) (h : OwS w B q cap rows S) : OwS w B' q cap rows S := by
  rcases h with h | ⟨b, sz, e, cur, S', h3, h4, h5, h6, h7, h8, h9, h10⟩
  · exact .inl h
  · exact .inr ⟨b, sz, e, cur, S', h3, h4, h5, h6, h7, h8, h9, OwRs.reB ha h10⟩

theorem OwVs.reB {w : World} {B B' : Nat → Prop} : ∀ {ts : List T} {us : List Value} {S : Nat → Prop}, allOwnR ts = true → OwVs w B ts us S → OwVs w B' ts us S
  | [], us, S, _, h => by simpa only [OwVs] using h
  | t :: ts, us, S, ha, h => by
    simp only [allOwnR, Bool.and_eq_true] at ha
    simp only [OwVs] at h ⊢
    obtain ⟨u, us', S1, S2, h1, h2, h3, h4, h5⟩ := h
    exact ⟨u, us', S1, S2, h1, h2, OwC.reB ha.1 h3, OwVs.reB ha.2 h4, h5⟩

theorem RVRep.reB {w : World} {B B' : Nat → Prop} {v : RV} {u : Value} {S : Nat → Prop} (ha : v.allOwn = true) (h : RVRep w B v u S) : RVRep w B' v u S := by
  cases v with
  | t c => exact ⟨OwC.reB ha h.1, h.2⟩
  | agg cs => obtain ⟨us, h1, h2⟩ := h; exact ⟨us, h1, OwVs.reB ha h2⟩
  | box cs => obtain ⟨b, cap, h1, h2⟩ := h; exact ⟨b, cap, h1, OwS.reB (by simpa [allOwnRs, RV.allOwn] using ha) h2⟩
theorem RVReps.reB {w : World} {B B' : Nat → Prop} : ∀ {vs : List RV} {us : List Value} {S : Nat → Prop}, vs.all RV.allOwn = true → RVReps w B vs us S → RVReps w B' vs us S
  | [], us, S, _, h => by simpa only [RVReps] using h
  | v :: vs, us, S, ha, h => by
    simp only [List.all_cons, Bool.and_eq_true] at ha
    simp only [RVReps] at h ⊢
    obtain ⟨u, us', S1, S2, h1, h2, h3, h4⟩ := h
    exact ⟨u, us', S1, S2, h1, h2.reB ha.1, RVReps.reB ha.2 h3, h4⟩
theorem AfterRep.reB {w : World} {B B' : Nat → Prop} : ∀ {ls : List Lent} {os : List (Option Rows)} {S : Nat → Prop}, (os.all fun o => match o with | some rows => allOwnRs rows | none => true) = true → AfterRep w B ls os S → AfterRep w B' ls os S
  | [], os, S, _, h => by simpa only [AfterRep] using h
  | l :: ls, os, S, ha, h => by
    simp only [AfterRep] at h ⊢
    obtain ⟨ov, os', S1, S2, rfl, h2, h3, h4⟩ := h
    simp only [List.all_cons, Bool.and_eq_true] at ha
    refine ⟨ov, os', S1, S2, rfl, ?_, AfterRep.reB ha.2 h3, h4⟩
    cases ov with
    | none => exact h2
    | some rows => exact ⟨OwS.reB ha.1 h2.1, h2.2⟩

theorem RVRep.inHeap {w : World} {B : Nat → Prop} {v : RV} {u : Value} {S : Nat → Prop} (h : RVRep w B v u S) : InHeap w S := by
  cases v with
  | t c => exact OwC.inHeap h.1
  | agg cs => obtain ⟨us, h1, h2⟩ := h; exact OwVs.inHeap h2
  | box cs => obtain ⟨b, cap, h1, h2⟩ := h; exact OwS.inHeap h2
theorem RVReps.inHeap {w : World} {B : Nat → Prop} : ∀ {vs : List RV} {us : List Value} {S : Nat → Prop}, RVReps w B vs us S → InHeap w S
  | [], us, S, h => by simp only [RVReps] at h; exact fun b hb => absurd hb (h.2 b)
  | v :: vs, us, S, h => by
    simp only [RVReps] at h
    obtain ⟨u, us', S1, S2, h1, h2, h3, h4⟩ := h
    intro b hb
    rcases (h4.1 b).1 hb with hb | hb
    · exact h2.inHeap b hb
    · exact RVReps.inHeap h3 b hb
theorem AfterRep.inHeap {w : World} {B : Nat → Prop} : ∀ {ls : List Lent} {os : List (Option Rows)} {S : Nat → Prop}, AfterRep w B ls os S → InHeap w S
  | [], os, S, h => by simp only [AfterRep] at h; exact fun b hb => absurd hb (h.2 b)
  | l :: ls, os, S, h => by
    simp only [AfterRep] at h
    obtain ⟨ov, os', S1, S2, rfl, h2, h3, h4⟩ := h
    intro b hb
    rcases (h4.1 b).1 hb with hb | hb
    · cases ov with
      | none => exact absurd hb (h2 b)
      | some rows => exact OwS.inHeap h2.1 b hb
    · exact AfterRep.inHeap h3 b hb

/-! ### Results come in -/

def EntsRep (w : World) (B : Nat → Prop) : List Ent → List Loc → (Nat → Prop) → Prop
  | [], locs, S => locs = [] ∧ Emp S
  | e :: es, locs, S => ∃ rows l locs' S1 S2, e = .mem rows 0 false ∧ locs = l :: locs' ∧ OwS w B l.1 l.2 rows S1 ∧ EntsRep w B es locs' S2 ∧ Split S S1 S2

theorem EntsRep.length {w : World} {B : Nat → Prop} : ∀ {es : List Ent} {locs : List Loc} {S : Nat → Prop}, EntsRep w B es locs S → locs.length = es.length
  | [], locs, S, h => by simp only [EntsRep] at h; simp [h.1]
  | e :: es, locs, S, h => by
    simp only [EntsRep] at h
    obtain ⟨rows, l, locs', S1, S2, _, rfl, _, h2, _⟩ := h
    simp [EntsRep.length h2]

theorem EntsRep.append {w : World} {B : Nat → Prop} : ∀ {es es' : List Ent} {locs locs' : List Loc} {S S' : Nat → Prop}, EntsRep w B es locs S → EntsRep w B es' locs' S' → (∀ b, S b → ¬ S' b) → EntsRep w B (es ++ es') (locs ++ locs') (fun b => S b ∨ S' b)
  | [], es', locs, locs', S, S', h, h', hd => by
    simp only [EntsRep] at h
    obtain ⟨rfl, he⟩ := h
    have : (fun b => S b ∨ S' b) = S' := funext fun b => propext ⟨fun h => h.resolve_left (he b), .inr⟩
    rw [this]; exact h'
  | e :: es, es', locs, locs', S, S', h, h', hd => by
    simp only [EntsRep] at h
    obtain ⟨rows, l, locs1, S1, S2, rfl, rfl, h1, h2, h3⟩ := h
    simp only [List.cons_append, EntsRep]
    refine ⟨rows, l, locs1 ++ locs', S1, _, rfl, rfl, h1, EntsRep.append h2 h' (fun b hb => hd b (h3.right hb)), ⟨fun b => ?_, fun b hb hb' => ?_⟩⟩
    · show (S b ∨ S' b) ↔ _
      rw [h3.1]; exact or_assoc
    · rcases hb' with h | h
      · exact h3.2 b hb h
      · exact hd b (h3.left hb) h

/-- The parts of new roots, by number. -/
theorem EntsRep.parts {w : World} {B : Nat → Prop} : ∀ {es : List Ent} {locs : List Loc} {S : Nat → Prop}, EntsRep w B es locs S → ∃ part : Nat → Nat → Prop,
    (∀ (j : Nat) e, es[j]? = some e → ∃ rows l, e = .mem rows 0 false ∧ locs[j]? = some l ∧ OwS w B l.1 l.2 rows (part j)) ∧ (∀ j j' b, part j b → part j' b → j = j') ∧ (∀ j b, part j b → S b) ∧ (∀ j, es.length ≤ j → Emp (part j))
  | [], locs, S, h => ⟨fun _ _ => False, fun j e h => by simp at h, fun _ _ _ h => h.elim, fun _ _ h => h.elim, fun _ _ _ h => h⟩
  | e :: es, locs, S, h => by
    simp only [EntsRep] at h
    obtain ⟨rows, l, locs1, S1, S2, rfl, rfl, h1, h2, h3⟩ := h
    obtain ⟨part, p1, p2, p3, p4⟩ := EntsRep.parts h2
    refine ⟨fun j => match j with | 0 => S1 | j + 1 => part j, ?_, ?_, ?_, ?_⟩
    · intro j e hj
      cases j with
      | zero => simp at hj; subst hj; exact ⟨rows, l, rfl, by simp, h1⟩
      | succ j => obtain ⟨rows', l', g1, g2, g3⟩ := p1 j e (by simpa using hj); exact ⟨rows', l', g1, by simpa using g2, g3⟩
    · intro j j' b hj hj'
      cases j with
      | zero => cases j' with
        | zero => rfl
        | succ j' => exact absurd (p3 j' b hj') (h3.2 b hj)
      | succ j => cases j' with
        | zero => exact absurd (p3 j b hj) (h3.2 b hj')
        | succ j' => rw [p2 j j' b hj hj']
    · intro j b hj
      cases j with
      | zero => exact h3.left hj
      | succ j => exact h3.right (p3 j b hj)
    · intro j hj
      cases j with
      | zero => simp at hj
      | succ j => exact p4 j (by simpa using hj)

section
variable {P : Program} {c : Ctx} {w w' : World} {B B' B2 : Nat → Prop} {ρ ρ' : Id → Loc} {Sf : Id → Nat → Prop} {X : Nat → Prop} {r r' r0 : R} {a : Act} {o : Oper} {id0 : Id}

def Places (d k : Nat) (es : List Ent) (locs : List Loc) (ρ' : Id → Loc) (r' : R) : Prop := (∀ (j : Nat) l, locs[j]? = some l → ρ' (d, k + j) = l) ∧ (∀ (j : Nat) e, es[j]? = some e → getE r' (d, k + j) = e ∧ There r' (d, k + j))

theorem Places.left {d k : Nat} {es es' : List Ent} {locs locs' : List Loc} (h : Places d k (es ++ es') (locs ++ locs') ρ' r') : Places d k es locs ρ' r' :=
  ⟨fun j l hj => h.1 j l (by rw [List.getElem?_append_left (List.getElem?_eq_some_iff.1 hj).1]; exact hj), fun j l hj => h.2 j l (by rw [List.getElem?_append_left (List.getElem?_eq_some_iff.1 hj).1]; exact hj)⟩
theorem Places.right {d k : Nat} {es es' : List Ent} {locs locs' : List Loc} (hl : locs.length = es.length) (h : Places d k (es ++ es') (locs ++ locs') ρ' r') : Places d (k + es.length) es' locs' ρ' r' :=
  ⟨fun j l hj => by have := h.1 (es.length + j) l (by rw [List.getElem?_append_right (by omega), hl, Nat.add_sub_cancel_left]; exact hj); rwa [← Nat.add_assoc] at this,
   fun j l hj => by have := h.2 (es.length + j) l (by rw [List.getElem?_append_right (by omega), Nat.add_sub_cancel_left]; exact hj); rwa [← Nat.add_assoc] at this⟩

def ImpOK (w : World) (B : Nat → Prop) (d k : Nat) (v : V) (es : List Ent) (u : Value) (S : Nat → Prop) : Prop :=
  ∃ locs SO SF, EntsRep w B es locs SO ∧ Split S SO SF ∧ ∀ B' ρ' r', (∀ b, B b → B' b) → (∀ b, SF b → B' b) → Places d k es locs ρ' r' → RepV w B' ρ' r' v u
def ImpsOK (w : World) (B : Nat → Prop) (d k : Nat) (vs : List V) (es : List Ent) (us : List Value) (S : Nat → Prop) : Prop :=
  ∃ locs SO SF, EntsRep w B es locs SO ∧ Split S SO SF ∧ ∀ B' ρ' r', (∀ b, B b → B' b) → (∀ b, SF b → B' b) → Places d k es locs ρ' r' → RepVs w B' ρ' r' vs us

theorem ImpOK.join {d k : Nat} {v : V} {vs : List V} {es es' : List Ent} {u : Value} {us : List Value} {S S1 S2 : Nat → Prop} (h : ImpOK w B d k v es u S1) (h' : ImpsOK w B d (k + es.length) vs es' us S2) (hs : Split S S1 S2) : ImpsOK w B d k (v :: vs) (es ++ es') (u :: us) S := by
  obtain ⟨l1, O1, F1, g1, g2, g3⟩ := h
  obtain ⟨l2, O2, F2, k1, k2, k3⟩ := h'
  refine ⟨l1 ++ l2, fun b => O1 b ∨ O2 b, fun b => F1 b ∨ F2 b, g1.append k1 (fun b h h' => hs.2 b (g2.left h) (k2.left h')), ⟨fun b => ?_, fun b hb hb' => ?_⟩, fun B' ρ' r' hB hF hp => ?_⟩
  · rw [hs.1, g2.1, k2.1]
    constructor
    · rintro ((h | h) | (h | h))
      · exact .inl (.inl h)
      · exact .inr (.inl h)
      · exact .inl (.inr h)
      · exact .inr (.inr h)
    · rintro ((h | h) | (h | h))
      · exact .inl (.inl h)
      · exact .inr (.inl h)
      · exact .inl (.inr h)
      · exact .inr (.inr h)
  · rcases hb with h | h <;> rcases hb' with h' | h'
    · exact g2.2 b h h'
    · exact hs.2 b (g2.left h) (k2.right h')
    · exact hs.2 b (g2.right h') (k2.left h)
    · exact k2.2 b h h'
  · simp only [RepVs]
    exact ⟨u, us, rfl, g3 B' ρ' r' hB (fun b h => hF b (.inl h)) hp.left, k3 B' ρ' r' hB (fun b h => hF b (.inr h)) (hp.right g1.length)⟩

theorem imp1_ok {d k : Nat} {own : Bool} {t : T} {u : Value} {S : Nat → Prop} (h : OwC w B t u S) (h1 : u.oneCell' = true) : ImpOK w B d k (imp1 d own k t).1 (imp1 d own k t).2 u S := by
  cases t with
  | v x =>
    simp only [OwC] at h
    refine ⟨[], fun _ => False, S, ⟨rfl, fun _ h => h⟩, Split.of_emp_left (fun _ h => h), fun B' ρ' r' hB hF hp => ?_⟩
    simp only [imp1, RepV, ShC]; exact ⟨h.1, h1⟩
  | hole =>
    refine ⟨[], fun _ => False, S, ⟨rfl, fun _ h => h⟩, Split.of_emp_left (fun _ h => h), fun B' ρ' r' hB hF hp => ?_⟩
    simp only [imp1, RepV]
  | sl ow rows =>
    cases hc : own && ow with
    | true =>
      simp only [Bool.and_eq_true] at hc
      obtain ⟨rfl, rfl⟩ := hc
      obtain ⟨q, cap, rfl, hs⟩ := OwC_sl.1 h
      simp only [imp1, Bool.and_self, if_true]
      refine ⟨[(q, cap)], S, fun _ => False, ?_, (Split.of_emp_left (fun _ h => h)).comm, fun B' ρ' r' hB hF hp => ?_⟩
      · simp only [EntsRep]
        exact ⟨rows, (q, cap), [], S, fun _ => False, rfl, rfl, hs, ⟨rfl, fun _ h => h⟩, (Split.of_emp_left (fun _ h => h)).comm⟩
      · obtain ⟨e1, e2⟩ := hp.2 0 _ rfl
        have e3 := hp.1 0 _ rfl
        rw [Nat.add_zero] at e1 e2 e3
        simp only [RepV]
        refine ⟨e2, ⟨q, cap, rfl, ?_⟩, ?_⟩
        · rcases hs with ⟨_, f1, f2, _⟩ | ⟨_, _, _, _, _, _, _, f3, _⟩
          · simp [f2]
          · exact f3.1
        · intro rows' stt fx hg
          rw [e1] at hg; cases hg
          exact ⟨Nat.le_refl _, fun _ => by rw [e3]⟩
    | false =>
      have he : imp1 d own k (.sl ow rows) = (.t (.sl false (frzRs rows)), []) := by simp only [imp1, hc]; rfl
      rw [he]
      refine ⟨[], fun _ => False, S, ⟨rfl, fun _ h => h⟩, Split.of_emp_left (fun _ h => h), fun B' ρ' r' hB hF hp => ?_⟩
      have hf := OwC.frz (B := B) (B' := B') hB hF h
      simp only [TT.frz] at hf
      simp only [RepV]; exact ⟨hf, h1⟩

theorem imps_ok {d : Nat} {own : Bool} : ∀ {ts : List T} {us : List Value} {S : Nat → Prop} {k : Nat}, OwVs w B ts us S → ImpsOK w B d k (imps d own k ts).1 (imps d own k ts).2 us S
  | [], us, S, k, h => by
    simp only [OwVs] at h
    refine ⟨[], fun _ => False, S, ⟨rfl, fun _ h => h⟩, Split.of_emp_left (fun _ h => h), fun B' ρ' r' hB hF hp => ?_⟩
    simp only [imps, RepVs]; exact h.1
  | t :: ts, us, S, k, h => by
    simp only [OwVs] at h
    obtain ⟨u, us', S1, S2, rfl, h1, h2, h3, h4⟩ := h
    exact ImpOK.join (imp1_ok h2 h1) (imps_ok h3) h4

theorem impRV_ok {d k : Nat} {own : Bool} {v : RV} {u : Value} {S : Nat → Prop} (h : RVRep w B v u S) : ImpOK w B d k (impRV d own k v).1 (impRV d own k v).2 u S := by
  cases v with
  | t c => exact imp1_ok h.1 h.2
  | agg cs =>
    obtain ⟨us, rfl, h⟩ := h
    obtain ⟨locs, SO, SF, g1, g2, g3⟩ := imps_ok (d := d) (k := k) (own := own) h
    refine ⟨locs, SO, SF, g1, g2, fun B' ρ' r' hB hF hp => ?_⟩
    simp only [impRV, RepV]
    exact ⟨us, rfl, g3 B' ρ' r' hB hF hp⟩
  | box cells =>
    obtain ⟨b, cap, rfl, h⟩ := h
    refine ⟨[(some ⟨b, 0, none⟩, cap)], S, fun _ => False, ?_, (Split.of_emp_left (fun _ h => h)).comm, fun B' ρ' r' hB hF hp => ?_⟩
    · simp only [impRV, EntsRep]
      exact ⟨[cells], (some ⟨b, 0, none⟩, cap), [], S, fun _ => False, rfl, rfl, h, ⟨rfl, fun _ h => h⟩, (Split.of_emp_left (fun _ h => h)).comm⟩
    · obtain ⟨e1, e2⟩ := hp.2 0 _ rfl
      have e3 := hp.1 0 _ rfl
      rw [Nat.add_zero] at e1 e2 e3
      simp only [impRV, RepV]
      refine ⟨e2, _, rfl, ?_⟩
      intro rows' stt fx hg
      rw [e1] at hg; cases hg
      refine ⟨fun _ => by simp, fun h => absurd rfl h, fun _ _ => ⟨fun h => absurd rfl h, fun row' hr' hl => ⟨b, 0, ⟨by rw [e3], row', by simpa [getP] using hr', hl, by omega⟩, rfl⟩⟩⟩

theorem impRVs_ok {d : Nat} : ∀ {vs : List RV} {us : List Value} {S : Nat → Prop} {k : Nat} {own : List Bool}, RVReps w B vs us S → ImpsOK w B d k (impRVs d k own vs).1 (impRVs d k own vs).2 us S
  | [], us, S, k, own, h => by
    simp only [RVReps] at h
    refine ⟨[], fun _ => False, S, by cases own <;> exact ⟨rfl, fun _ h => h⟩, Split.of_emp_left (fun _ h => h), fun B' ρ' r' hB hF hp => ?_⟩
    simp only [impRVs, RepVs]; exact h.1
  | v :: vs, us, S, k, own, h => by
    simp only [RVReps] at h
    obtain ⟨u, us', S1, S2, rfl, h1, h2, h3⟩ := h
    simp only [impRVs]
    exact ImpOK.join (impRV_ok h1) (impRVs_ok h2) h3

theorem one_rep {vs : List V} {us : List Value} (h : RepVs w B ρ r vs us) : RepV w B ρ r (oneOr vs) (retV us) := by
  match vs with
  | [] => simp only [RepVs] at h; subst h; simp only [oneOr, retV, RepV]; exact ⟨_, rfl, by simp [RepVs]⟩
  | [v] => simp only [RepVs] at h; obtain ⟨u, us', rfl, h1, rfl⟩ := h; exact h1
  | v :: v' :: vs =>
    have h0 := h
    simp only [RepVs] at h
    obtain ⟨u, us', rfl, h1, u', us2, rfl, h2, h3⟩ := h
    simp only [oneOr, retV, RepV]
    exact ⟨_, rfl, by simpa using h0⟩

end
end TT
