import Derived.Test.YtknfhlnfombmgaaDoorTD3
set_option linter.unusedVariables false
set_option linter.unusedSimpArgs false
namespace TT
open Go

/-- Entries have turned, nothing else; whatever a slot's value told still holds. -/
structure Step (w : World) (B : Nat → Prop) (ρ : Id → Loc) (r r' : R) : Prop where
  claims : ∀ v u, RepV w B ρ r v u → RepV w B ρ r' v u
  len : ∀ t, (r'.getD t []).length = (r.getD t []).length
  size : r'.length = r.length
theorem Step.refl (w : World) (B : Nat → Prop) (ρ : Id → Loc) (r : R) : Step w B ρ r r := ⟨fun _ _ h => h, fun _ => rfl, rfl⟩
theorem Step.trans {w : World} {B : Nat → Prop} {ρ : Id → Loc} {r r' r'' : R} (h : Step w B ρ r r') (h' : Step w B ρ r' r'') : Step w B ρ r r'' :=
  ⟨fun v u hh => h'.claims v u (h.claims v u hh), fun t => (h'.len t).trans (h.len t), h'.size.trans h.size⟩
theorem len_setE {r : R} {id : Id} (e : Ent) (t : Nat) : ((setE r id e).getD t []).length = (r.getD t []).length := by
  rw [setE_getD]; split <;> simp

section
variable {c : Ctx} {w : World} {B : Nat → Prop} {ρ : Id → Loc} {Sf : Id → Nat → Prop} {X : Nat → Prop} {r : R} {id0 : Id}

theorem Inv.mem (hI : Inv c w B ρ Sf X r) {rows : Rows} {stt : Nat} {fx : Bool} (h0 : getE r id0 = .mem rows stt fx) : OwS w B (ρ id0).1 (ρ id0).2 rows (Sf id0) ∧ (fx = true → ρ id0 = c.q0 id0 ∧ rows.length = c.n0 id0) := by
  have := hI.ents id0
  rw [h0] at this
  exact this

theorem EntRep.claims {r' : R} (h : ∀ v u, RepV w B ρ r v u → RepV w B ρ r' v u) {id : Id} {S : Nat → Prop} {e : Ent} (hh : EntRep c w B ρ r id S e) : EntRep c w B ρ r' id S e := by
  cases e with
  | dead => exact hh
  | mem rows stt fx => exact hh

/-- A root leaves: its blocks are on the way. -/
theorem Inv.gone (hI : Inv c w B ρ Sf X r) {rows : Rows} {stt : Nat} {fx : Bool} (h0 : getE r id0 = .mem rows stt fx) {e : Ent} (he : e = .dead) :
    Inv c w B ρ (fun id b => id ≠ id0 ∧ Sf id b) (fun b => X b ∨ Sf id0 b) (setE r id0 e) ∧ Step w B ρ r (setE r id0 e) := by
  have hne : ∀ rows stt fx, e ≠ .mem rows stt fx := by rw [he]; simp
  have hth : There r id0 := getE_there (by rw [h0]; simp)
  have hst : Step w B ρ r (setE r id0 e) := ⟨fun v u h => claims_gone hne h, len_setE e, length_setE e⟩
  refine ⟨?_, hst⟩
  constructor
  · intro id
    by_cases e1 : id0 = id
    · subst e1
      rw [getE_setE_same hth]
      rw [he]
      exact fun b hb => hb.1 rfl
    · rw [getE_setE_other e1]
      have h1 := EntRep.claims hst.claims (hI.ents id)
      have heq : (fun b => id ≠ id0 ∧ Sf id b) = Sf id := funext fun b => propext ⟨fun h => h.2, fun h => ⟨Ne.symm e1, h⟩⟩
      rw [heq]; exact h1
  · exact fun id id' b h h' => hI.disj id id' b h.2 h'.2
  · exact fun id b h => hI.nb id b h.2
  · exact fun b h => h.elim (hI.xb b) (hI.nb id0 b)
  · intro id b h h'
    rcases h with h | h
    · exact hI.xd id b h h'.2
    · exact h'.1 (hI.disj id id0 b h'.2 h)
  · exact hI.inB
  · intro b h
    rcases h with h | h
    · exact hI.inX b h
    · rcases (hI.mem h0).1 with ⟨_, _, _, h4⟩ | ⟨b', sz, e', cur, S', h3, h4, h5, h6, h7, h8, h9, h10⟩
      · exact absurd h (h4 b)
      · rcases (h9.1 b).1 h with rfl | h'
        · exact lt_of_heap h4
        · exact OwRs.inHeap h10 b h'
  · exact fun id b h => hI.own id b h.2
  · exact fun b h => h.elim (hI.ownX b) (hI.own id0 b)
  · exact hI.old
  · exact hI.sh
  · exact hI.size
  · exact hI.frame
  · exact hI.os
  · exact hI.tape
  · exact hI.output

theorem set_same {cur : Array Value} {k : Nat} {u : Value} (h : cur[k]? = some u) : cur.setIfInBounds k u = cur := by
  apply Array.ext_getElem?
  intro i
  rw [Array.getElem?_setIfInBounds]
  by_cases e : k = i
  · subst e
    have hlt : k < cur.size := by
      rcases Nat.lt_or_ge k cur.size with h' | h'
      · exact h'
      · rw [Array.getElem?_eq_none h'] at h; cases h
    rw [if_pos rfl, if_pos hlt]; exact h.symm
  · rw [if_neg e]

/-- A nested slice leaves its cell: a hole stays. -/
theorem Inv.hole (hI : Inv c w B ρ Sf X r) {rows rs : Rows} {stt : Nat} {fx : Bool} (h0 : getE r id0 = .mem rows stt fx) {p : Path} {i k : Nat} (hg : getC rows p i k = some (.sl true rs)) :
    ∃ b o u S1 S2, LocAt w (ρ id0).1 rows p i k b o ∧ w.cell? ⟨b, o, none⟩ = some u ∧ u.oneCell' = true ∧ OwC w B (.sl true rs) u S1 ∧ Split (Sf id0) S1 S2 ∧
      Inv c w B ρ (fun id b => (id ≠ id0 ∧ Sf id b) ∨ (id = id0 ∧ S2 b)) (fun b => X b ∨ S1 b) (setE r id0 (.mem (setC rows p i k .hole) stt fx)) ∧
      Step w B ρ r (setE r id0 (.mem (setC rows p i k .hole) stt fx)) := by
  obtain ⟨hm1, hm2⟩ := hI.mem h0
  obtain ⟨b, o, cur, e, u, S1, S2, l1, l2, l3, l4, l5, l6, l7, l8⟩ := OwS.lens p hm1 hg
  have hth : There r id0 := getE_there (by rw [h0]; simp)
  have hst : Step w B ρ r (setE r id0 (.mem (setC rows p i k .hole) stt fx)) := ⟨fun v u h => claims_hole h0 rfl h, len_setE _, length_setE _⟩
  have hnew := l8 w B .hole u (fun _ => False) (fun _ h => h) (fun _ _ => rfl) (fun _ _ _ => rfl) (by rw [set_same l3]; exact l2) l4 (by simp only [OwC]; exact fun b h => h) (fun _ h => h.elim)
  have hS2 : (fun x => False ∨ S2 x) = S2 := funext fun x => by simp
  rw [hS2] at hnew
  refine ⟨b, o, u, S1, S2, l1, by rw [cell_row l2]; exact l3, l4, l5, l6, ?_, hst⟩
  have sub1 : ∀ x, S1 x → Sf id0 x := fun x h => l6.left h
  have sub2 : ∀ x, S2 x → Sf id0 x := fun x h => l6.right h
  have sub : ∀ id x, ((id ≠ id0 ∧ Sf id x) ∨ (id = id0 ∧ S2 x)) → Sf id x := fun id x h => by
    rcases h with h | ⟨h, h'⟩
    · exact h.2
    · subst h; exact sub2 x h'
  constructor
  · intro id
    by_cases e1 : id0 = id
    · subst e1
      rw [getE_setE_same hth]
      have heq : (fun b => (id0 ≠ id0 ∧ Sf id0 b) ∨ (id0 = id0 ∧ S2 b)) = S2 := funext fun b => propext ⟨fun h => h.elim (fun h => absurd rfl h.1) (fun h => h.2), fun h => .inr ⟨rfl, h⟩⟩
      rw [heq]
      exact ⟨hnew, fun hf => ⟨(hm2 hf).1, by rw [setC_length]; exact (hm2 hf).2⟩⟩
    · rw [getE_setE_other e1]
      have heq : (fun b => (id ≠ id0 ∧ Sf id b) ∨ (id = id0 ∧ S2 b)) = Sf id := funext fun b => propext ⟨fun h => sub id b h, fun h => .inl ⟨Ne.symm e1, h⟩⟩
      rw [heq]
      exact EntRep.claims hst.claims (hI.ents id)
  · exact fun id id' b h h' => hI.disj id id' b (sub _ _ h) (sub _ _ h')
  · exact fun id b h => hI.nb id b (sub _ _ h)
  · exact fun b h => h.elim (hI.xb b) (fun h => hI.nb id0 b (sub1 b h))
  · intro id x h h'
    rcases h with h | h
    · exact hI.xd id x h (sub _ _ h')
    · have e1 := hI.disj id id0 x (sub _ _ h') (sub1 x h)
      subst e1
      rcases h' with h' | h'
      · exact h'.1 rfl
      · exact l6.2 x h h'.2
  · exact hI.inB
  · exact fun b h => h.elim (hI.inX b) (fun h => OwC.inHeap l5 b h)
  · exact fun id b h => hI.own id b (sub _ _ h)
  · exact fun b h => h.elim (hI.ownX b) (fun h => hI.own id0 b (sub1 b h))
  · exact hI.old
  · exact hI.sh
  · exact hI.size
  · exact hI.frame
  · exact hI.os
  · exact hI.tape
  · exact hI.output

theorem Inv.congrX {X' : Nat → Prop} (hI : Inv c w B ρ Sf X r) (h : ∀ b, X b ↔ X' b) : Inv c w B ρ Sf X' r := by
  have : X = X' := funext fun b => propext (h b)
  rwa [← this]

/-- What 'take' gives. -/
theorem take_run {α : Type} {call : CallF} {d : Nat} {v : V} {u : Value} {k : T → M α} {x : α × R} (hrun : (take v k).run call d r = some x) (hI : Inv c w B ρ Sf X r) (hv : RepV w B ρ r v u) :
    ∃ t S Sf' r', (k t).run call d r' = some x ∧ OwC w B t u S ∧ u.oneCell' = true ∧ Inv c w B ρ Sf' (fun b => X b ∨ S b) r' ∧ (∀ b, S b → ¬ X b) ∧ Step w B ρ r r' ∧ (∀ id b, Sf' id b → Sf id b) := by
  cases v with
  | t t =>
    simp only [take] at hrun
    simp only [RepV] at hv
    refine ⟨t, fun _ => False, Sf, r, hrun, ?_, hv.2, hI.congrX (fun b => by simp), fun _ h => h.elim, Step.refl .., fun _ _ h => h⟩
    cases t with
    | v x => have := hv.1; simp only [ShC] at this; simp only [OwC]; exact ⟨this, fun _ h => h⟩
    | sl o rows => cases o with
      | false => simp only [OwC]; exact ⟨hv.1, fun _ h => h⟩
      | true => have := hv.1; simp only [ShC] at this
    | hole => simp only [OwC]; exact fun _ h => h
  | nil =>
    simp only [take] at hrun
    simp only [RepV] at hv
    subst hv
    refine ⟨.sl true [], fun _ => False, Sf, r, hrun, ?_, rfl, hI.congrX (fun b => by simp), fun _ h => h.elim, Step.refl .., fun _ _ h => h⟩
    simp only [OwC]
    exact ⟨none, 0, rfl, .inl ⟨rfl, rfl, trivial, fun _ h => h⟩⟩
  | ref id n =>
    simp only [take, M.run] at hrun
    cases he : getE r id with
    | dead => rw [he] at hrun; simp [M.run] at hrun
    | mem rows stt fx =>
      rw [he] at hrun
      simp only at hrun
      split at hrun
      · rename_i hl
        simp only [M.run] at hrun
        obtain ⟨h1, h2⟩ := hI.gone he (e := .dead) rfl
        simp only [RepV] at hv
        have hu := (hv.2.2 rows stt fx he).2 hl
        obtain ⟨hm, _⟩ := hI.mem he
        refine ⟨.sl true rows, Sf id, _, _, hrun, OwC_sl.2 ⟨_, _, by rw [hl]; exact hu, hm⟩, by rw [hu]; rfl, h1, fun b h h' => hI.xd id b h' h, h2, fun _ _ h => h.2⟩
      · simp [M.run] at hrun
  | sub id p i ci n st =>
    simp only [take, M.run] at hrun
    cases he : getE r id with
    | dead => rw [he] at hrun; simp [M.run] at hrun
    | mem rows stt fx =>
      rw [he] at hrun
      simp only at hrun
      split at hrun
      · rename_i hs
        cases hc : getC rows p i ci with
        | none => rw [hc] at hrun; simp [M.run] at hrun
        | some t =>
          rw [hc] at hrun
          cases t with
          | v x => simp [M.run] at hrun
          | hole => simp [M.run] at hrun
          | sl o rs => cases o with
            | false => simp [M.run] at hrun
            | true =>
              simp only at hrun
              split at hrun
              · rename_i hl
                simp only [M.run] at hrun
                obtain ⟨b, o, u', S1, S2, l1, l2, l3, l4, l5, l6, l7⟩ := hI.hole he hc
                simp only [RepV] at hv
                obtain ⟨b', o', m1, m2⟩ := ((hv.2.2 rows stt fx he).2 hs).2 rs hc hl
                obtain ⟨rfl, rfl⟩ := LocAt.unique p l1 m1
                rw [l2] at m2
                simp only [Option.some.injEq] at m2
                subst m2
                refine ⟨.sl true rs, S1, _, _, hrun, l4, l3, l6, fun x h h' => hI.xd id x h' (l5.left h), l7, ?_⟩
                rintro id' x (h | ⟨h, h'⟩)
                · exact h.2
                · subst h; exact l5.right h'
              · simp [M.run] at hrun
      · simp [M.run] at hrun
  | agg cs => simp [take, M.run] at hrun
  | ptr id p i off n st => simp [take, M.run] at hrun
  | pp cs => simp [take, M.run] at hrun
  | fn f caps => simp [take, M.run] at hrun
  | tup vs => simp [take, M.run] at hrun
  | vb id off st cs => simp [take, M.run] at hrun
  | dead => simp [take, M.run] at hrun

/-- Cells that are values, with what they own. -/
def OwVs (w : World) (B : Nat → Prop) : List T → List Value → (Nat → Prop) → Prop
  | [], us, S => us = [] ∧ Emp S
  | t :: ts, us, S => ∃ u us' S1 S2, us = u :: us' ∧ u.oneCell' = true ∧ OwC w B t u S1 ∧ OwVs w B ts us' S2 ∧ Split S S1 S2

theorem takes_run {α : Type} {call : CallF} {d : Nat} : ∀ {vs : List V} {us : List Value} {k : List T → M α} {x : α × R} {Sf : Id → Nat → Prop} {X : Nat → Prop} {r : R}, (takes vs k).run call d r = some x → Inv c w B ρ Sf X r → RepVs w B ρ r vs us →
    ∃ ts S Sf' r', (k ts).run call d r' = some x ∧ OwVs w B ts us S ∧ Inv c w B ρ Sf' (fun b => X b ∨ S b) r' ∧ (∀ b, S b → ¬ X b) ∧ Step w B ρ r r' ∧ ts.length = vs.length ∧ (∀ id b, Sf' id b → Sf id b)
  | [], us, k, x, Sf, X, r, hrun, hI, hv => by
    simp only [takes] at hrun
    simp only [RepVs] at hv
    exact ⟨[], fun _ => False, Sf, r, hrun, by simp only [OwVs]; exact ⟨hv, fun _ h => h⟩, hI.congrX (fun b => by simp), fun _ h => h.elim, Step.refl .., rfl, fun _ _ h => h⟩
  | v :: vs, us, k, x, Sf, X, r, hrun, hI, hv => by
    simp only [takes] at hrun
    simp only [RepVs] at hv
    obtain ⟨u, us', rfl, h1, h2⟩ := hv
    obtain ⟨t, S1, Sf1, r1, g1, g2, g3, g4, g5, g6, g7⟩ := take_run hrun hI h1
    have h2' : RepVs w B ρ r1 vs us' := by
      have : ∀ {vs : List V} {us : List Value}, RepVs w B ρ r vs us → RepVs w B ρ r1 vs us := by
        intro vs
        induction vs with
        | nil => intro us h; simpa only [RepVs] using h
        | cons a vs ih =>
          intro us h
          simp only [RepVs] at h ⊢
          obtain ⟨u, us', rfl, h1, h2⟩ := h
          exact ⟨u, us', rfl, g6.claims _ _ h1, ih h2⟩
      exact this h2
    obtain ⟨ts, S2, Sf2, r2, m1, m2, m3, m4, m5, m6, m7⟩ := takes_run g1 g4 h2'
    refine ⟨t :: ts, fun b => S1 b ∨ S2 b, Sf2, r2, m1, ?_, m3.congrX (fun b => by simp [or_assoc]), ?_, g6.trans m5, by simp [m6], fun id b h => g7 id b (m7 id b h)⟩
    · simp only [OwVs]
      exact ⟨u, us', S1, S2, rfl, g3, g2, m2, Split.mk' fun b h h' => m4 b h' (.inr h)⟩
    · intro b h
      rcases h with h | h
      · exact g5 b h
      · exact fun hx => m4 b h (.inl hx)

theorem RepVs.step {r' : R} (h : Step w B ρ r r') : ∀ {vs : List V} {us : List Value}, RepVs w B ρ r vs us → RepVs w B ρ r' vs us
  | [], us, hh => by simpa only [RepVs] using hh
  | v :: vs, us, hh => by
    simp only [RepVs] at hh ⊢
    obtain ⟨u, us', rfl, h1, h2⟩ := hh
    exact ⟨u, us', rfl, h.claims _ _ h1, RepVs.step h h2⟩

theorem OwVs.length : ∀ {ts : List T} {us : List Value} {S : Nat → Prop}, OwVs w B ts us S → us.length = ts.length
  | [], us, S, h => by simp only [OwVs] at h; simp [h.1]
  | t :: ts, us, S, h => by
    simp only [OwVs] at h
    obtain ⟨u, us', S1, S2, rfl, _, _, h2, _⟩ := h
    simp [OwVs.length h2]
theorem OwVs.one : ∀ {ts : List T} {us : List Value} {S : Nat → Prop}, OwVs w B ts us S → ∀ u ∈ us, u.oneCell' = true
  | [], us, S, h => by simp only [OwVs] at h; simp [h.1]
  | t :: ts, us, S, h => by
    simp only [OwVs] at h
    obtain ⟨u, us', S1, S2, rfl, h1, _, h2, _⟩ := h
    intro x hx
    rcases List.mem_cons.1 hx with rfl | hx
    · exact h1
    · exact OwVs.one h2 x hx
theorem OwVs.same {w' : World} {B' : Nat → Prop} (hB : ∀ b, B b → B' b) (h : Same B w w') : ∀ {ts : List T} {us : List Value} {S : Nat → Prop}, Same S w w' → OwVs w B ts us S → OwVs w' B' ts us S
  | [], us, S, _, hh => by simpa only [OwVs] using hh
  | t :: ts, us, S, hS, hh => by
    simp only [OwVs] at hh ⊢
    obtain ⟨u, us', S1, S2, rfl, h0, h1, h2, h3⟩ := hh
    exact ⟨u, us', S1, S2, rfl, h0, OwC.same hB h (fun x hx => hS x (h3.left hx)) h1, OwVs.same hB h (fun x hx => hS x (h3.right hx)) h2, h3⟩
theorem OwVs.inHeap : ∀ {ts : List T} {us : List Value} {S : Nat → Prop}, OwVs w B ts us S → InHeap w S
  | [], us, S, h => by simp only [OwVs] at h; exact fun b hb => absurd hb (h.2 b)
  | t :: ts, us, S, h => by
    simp only [OwVs] at h
    obtain ⟨u, us', S1, S2, rfl, _, h1, h2, h3⟩ := h
    intro x hx
    rcases (h3.1 x).1 hx with hx | hx
    · exact OwC.inHeap h1 x hx
    · exact OwVs.inHeap h2 x hx

/-- Cells that lie in a block, one behind the other. -/
theorem OwR.of_values {b : Nat} : ∀ {ts : List T} {us : List Value} {S : Nat → Prop} {o : Nat}, OwVs w B ts us S → (∀ (j : Nat) u, us[j]? = some u → w.cell? ⟨b, o + j, none⟩ = some u) → OwR w B b o ts S
  | [], us, S, o, h, hc => by simp only [OwVs] at h; simp only [OwR]; exact h.2
  | t :: ts, us, S, o, h, hc => by
    simp only [OwVs] at h
    obtain ⟨u, us', S1, S2, rfl, h0, h1, h2, h3⟩ := h
    simp only [OwR]
    exact ⟨u, S1, S2, by simpa using hc 0 u (by simp), h0, h1, OwR.of_values h2 (fun j u' hj => by have := hc (j + 1) u' (by simpa using hj); rwa [show o + 1 + j = o + (j + 1) by omega]), h3⟩

end
end TT
