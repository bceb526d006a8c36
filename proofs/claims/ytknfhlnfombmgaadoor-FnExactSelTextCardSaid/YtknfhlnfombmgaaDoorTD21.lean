import Derived.Test.YtknfhlnfombmgaaDoorTD20
set_option linter.unusedVariables false
set_option linter.unusedSimpArgs false
namespace TT
open Go

section
variable {P : Program} {c : Ctx} {w w' : World} {B B' B2 : Nat → Prop} {ρ ρ' : Id → Loc} {Sf : Id → Nat → Prop} {X : Nat → Prop} {r r' r0 : R} {a : Act} {o : Oper} {id0 : Id}

theorem Inv.news (hI : Inv c w B ρ Sf X r) {d : Nat} {es : List Ent} {locs : List Loc} {SO : Nat → Prop} (hd : d < r.length) (hr : r.getD d [] = []) (he : EntsRep w B es locs SO) (hS : ∀ b, SO b → X b) :
    ∃ ρ' Sf', Inv c w B ρ' Sf' (fun _ => False) (r.set d es) ∧ (∀ v u, RepV w B ρ r v u → RepV w B ρ' (r.set d es) v u) ∧ Places d 0 es locs ρ' (r.set d es) := by
  obtain ⟨part, p1, p2, p3, p4⟩ := he.parts
  let ρ' : Id → Loc := fun id => if id.1 = d then locs.getD id.2 default else ρ id
  let Sf' : Id → Nat → Prop := fun id b => if id.1 = d then part id.2 b else Sf id b
  have hρ : ∀ id : Id, id.1 ≠ d → ρ' id = ρ id := fun id h => if_neg h
  have hclaims : ∀ v u, RepV w B ρ r v u → RepV w B ρ' (r.set d es) v u := fun v u h => claims_new hd hr hρ h
  have hsub : ∀ id b, Sf' id b → (id.1 = d ∧ part id.2 b) ∨ (id.1 ≠ d ∧ Sf id b) := by
    intro id b h
    by_cases e1 : id.1 = d
    · exact .inl ⟨e1, by simpa only [Sf', if_pos e1] using h⟩
    · exact .inr ⟨e1, by simpa only [Sf', if_neg e1] using h⟩
  have hX : ∀ j b, part j b → X b := fun j b h => hS b (p3 j b h)
  refine ⟨ρ', Sf', ?_, hclaims, ?_, ?_⟩
  · constructor
    · intro id
      rw [getE_new hd hr]
      by_cases e1 : id.1 = d
      · rw [if_pos e1]
        have hS' : Sf' id = part id.2 := funext fun b => by simp only [Sf', if_pos e1]
        rw [hS']
        cases hj : es[id.2]? with
        | none =>
          have : es.getD id.2 .dead = .dead := by simp [List.getD, hj]
          rw [this]
          exact p4 id.2 (List.getElem?_eq_none_iff.1 hj)
        | some e =>
          have : es.getD id.2 .dead = e := by simp [List.getD, hj]
          rw [this]
          obtain ⟨rows, l, rfl, g2, g3⟩ := p1 id.2 e hj
          have hl : ρ' id = l := by simp only [ρ', if_pos e1]; simp [List.getD, g2]
          exact ⟨by rw [hl]; exact g3, fun h => by cases h⟩
      · rw [if_neg e1]
        have hS' : Sf' id = Sf id := funext fun b => by simp only [Sf', if_neg e1]
        rw [hS']
        have h1 := hI.ents id
        cases hh : getE r id with
        | dead => rw [hh] at h1; exact h1
        | mem rows1 stt fx => rw [hh] at h1; exact ⟨by rw [hρ id e1]; exact h1.1, fun h => by rw [hρ id e1]; exact h1.2 h⟩
    · intro id id' b h h'
      rcases hsub id b h with ⟨a1, a2⟩ | ⟨a1, a2⟩ <;> rcases hsub id' b h' with ⟨b1, b2⟩ | ⟨b1, b2⟩
      · exact Prod.ext (a1.trans b1.symm) (p2 _ _ b a2 b2)
      · exact absurd b2 (hI.xd id' b (hX _ b a2))
      · exact absurd a2 (hI.xd id b (hX _ b b2))
      · exact hI.disj id id' b a2 b2
    · intro id b h
      rcases hsub id b h with ⟨a1, a2⟩ | ⟨a1, a2⟩
      · exact hI.xb b (hX _ b a2)
      · exact hI.nb id b a2
    · exact fun b h => h.elim
    · exact fun id b h => h.elim
    · exact hI.inB
    · exact fun b h => h.elim
    · intro id b h
      rcases hsub id b h with ⟨a1, a2⟩ | ⟨a1, a2⟩
      · exact hI.ownX b (hX _ b a2)
      · exact hI.own id b a2
    · exact fun b h => h.elim
    · exact hI.old
    · exact hI.sh
    · exact hI.size
    · exact hI.frame
    · exact hI.os
    · exact hI.tape
    · exact hI.output
  · intro j l hj
    simp only [ρ', if_true, Nat.zero_add]
    simp [List.getD, hj]
  · intro j e hj
    rw [Nat.zero_add]
    refine ⟨by rw [getE_new hd hr, if_pos rfl]; simp [List.getD, hj], there_set hd (List.getElem?_eq_some_iff.1 hj).1⟩

theorem PAReps.length : ∀ {pas : List PA} {us : List Value} {S : Nat → Prop} {ls : List Lent}, PAReps w B ρ r pas us S ls → us.length = pas.length
  | [], us, S, ls, h => by simp only [PAReps] at h; simp [h.1]
  | p :: pas, us, S, ls, h => by
    simp only [PAReps] at h
    obtain ⟨u, us', S1, S2, l1, l2, rfl, _, h3, _⟩ := h
    simp [PAReps.length h3]

/-- What a call leaves. -/
def CallPost (c : Ctx) (w : World) (B : Nat → Prop) (ρ : Id → Loc) (r : R) (x : V × R) : Ending → World → Prop
  | .returned v, w' => ∃ B' ρ' Sf', Inv c w' B' ρ' Sf' (fun _ => False) x.2 ∧ x.2.length = r.length ∧ (∀ v u, RepV w B ρ r v u → RepV w' B' ρ' x.2 v u) ∧ RepV w' B' ρ' x.2 x.1 v
  | _, _ => False

theorem call_ok {call : CallF} (hS : Sound c.G P call) (hI : Inv c w B ρ Sf (fun _ => False) r) {f : FuncId} {md : List Md} {own : List Bool} {args : List V} {us : List Value} {d : Nat} {x : V × R} (hargs : RepVs w B ρ r args us)
    (hrun : (doCall d f md own args).run call d r = some x) : callB P f = true ∧ Calls P f us.toArray w (CallPost c w B ρ r x) := by
  unfold doCall at hrun
  obtain ⟨pas, bs, ls, S, B1, Sf1, r1, g1, g2, g3, g4, _⟩ := lendEach_run (r0 := r) args hrun hI hargs (Chg.refl r) (fun _ => rfl)
  dsimp only at g1
  have hnd : nodupIds (backIds bs) = true := by
    cases hh : nodupIds (backIds bs) with
    | true => rfl
    | false => rw [hh] at g1; simp [M.run] at g1
  rw [hnd] at g1
  simp only [Bool.not_true, Bool.false_eq_true, if_false] at g1
  have hBO := g4 hnd
  have hI1 : Inv c w B1 ρ Sf1 S r1 := g2.inv.congrX (fun b => by simp)
  -- what is shared in the call
  let B2 : Nat → Prop := fun b => B1 b ∨ (pas.any PA.reads = true ∧ ∃ id, Sf1 id b)
  obtain ⟨as, k1, k2⟩ := borrows_run (B2 := B2) g1 hI1 g3 (fun b h => .inl h) (fun h id b hb => .inr ⟨h, id, hb⟩)
  simp only [M.run] at k1
  obtain ⟨res, k3, k4⟩ := Option.bind_eq_some_iff.1 k1
  have hSB2 : ∀ b, S b → ¬ B2 b := by
    rintro b hb (h | ⟨_, id, h⟩)
    · exact hI1.xb b hb h
    · exact hI1.xd id b hb h
  have hB2h : ∀ b, B2 b → b < w.heap.size := by
    rintro b (h | ⟨_, id, h⟩)
    · exact hI1.inB b h
    · exact (hI1.ents id).inHeap b h
  have hcall := (hS f as res k3).2 w B2 S us ls k2 hSB2 hB2h (c.G.mono hI1.tabs (fun b h => .inl h) (fun _ _ => rfl))
  refine ⟨(hS f as res k3).1, Calls.mono hcall ?_⟩
  intro e w2 hp
  cases e with
  | panicked ch => exact hp
  | outgrown => exact hp
  | returned v =>
    obtain ⟨Bp, Sr, Sa, uss, D⟩ := hp
    -- the two ways
    have key : ∃ B3 : Nat → Prop, (∀ b, B1 b → B3 b) ∧ (∀ b, B3 b → B1 b ∨ S b ∨ w.heap.size ≤ b) ∧ (∀ b, B3 b → b < w2.heap.size) ∧ (∀ b, B3 b → Bp b) ∧ RVReps w2 B3 res.vals uss Sr ∧ AfterRep w2 B3 ls res.after Sa ∧
        ∀ (m : M V), (if (pas.any PA.reads) && !res.allOwn then M.fail else m).run call d r1 = some x → m.run call d r1 = some x := by
      by_cases hrd : pas.any PA.reads = true
      · cases hao : res.allOwn with
        | false => rw [hrd, hao] at k4; simp [M.run] at k4
        | true =>
          have hao' := hao
          simp only [Res.allOwn, Bool.and_eq_true] at hao'
          refine ⟨B1, fun b h => h, fun b h => .inl h, fun b h => Nat.lt_of_lt_of_le (hI1.inB b h) D.size, fun b h => D.old b (.inl h), D.vals.reB hao'.1, D.after.reB hao'.2, fun m hm => ?_⟩
          simpa using hm
      · have hrd' : pas.any PA.reads = false := by simpa using hrd
        refine ⟨Bp, fun b h => D.old b (.inl h), fun b h => ?_, D.inB, fun b h => h, D.vals, D.after, fun m hm => ?_⟩
        · rcases D.sh b h with (h | ⟨h, _⟩) | h
          · exact .inl h
          · exact absurd h hrd
          · exact .inr h
        · rw [hrd'] at hm; simpa using hm
    obtain ⟨B3, b1, b2, b3, b4, hvals, hafter, hif⟩ := key
    have k5 := hif _ k4
    have hSf1 : ∀ id, Same (Sf1 id) w w2 := fun id b hb => D.frame b ((hI1.ents id).inHeap b hb) (fun h => hI1.xd id b h hb)
    have hI2 : Inv c w2 B3 ρ Sf1 (fun b => Sr b ∨ Sa b) r1 := hI1.world (fun b h h' => D.frame b h h') D.size D.os D.tape D.output b1 b2 b3
      (fun b h => h.elim (D.ownr b) (D.owna b)) (fun b h => h.elim (fun h => D.vals.inHeap b h) (fun h => D.after.inHeap b h)) (fun b h hb => h.elim (fun h => D.nr b h (b4 b hb)) (fun h => D.na b h (b4 b hb)))
    obtain ⟨Sf2, r2, k6, hI3, hchg, hlen, hsz⟩ := putBack_run k5 hI2 hafter (hBO.world hI1 hSf1) hnd D.dis (g2.chg _ (Chg.refl r)) g2.len g2.size
    -- what the slots told still holds
    have hBB : Same B w w2 := fun b hb => D.frame b (hI.inB b hb) (fun h => hI1.xb b h (g2.Bl b hb))
    have hcl : ∀ v u, RepV w B ρ r v u → RepV w2 B3 ρ r2 v u := fun v u hh => claims_chg hchg (fun id h => by unfold There; rw [hlen]; exact h) (fun _ _ => rfl) (fun b h => b1 b (g2.Bl b h)) hBB
      (fun id rows stt fx fx' hid e1 e2 => fun rows' stt' fx2 e3 => by
        rw [e1] at e3; cases e3
        refine ⟨Sf id, (hI.mem e1).1, fun b hb => D.frame b ((hI.ents id).inHeap b hb) (fun h => ?_)⟩
        obtain ⟨id', hi', hb'⟩ := g2.src b h
        have := hI.disj id id' b hb hb'
        subst this
        exact hid (by simpa using hi')) hh
    obtain ⟨locs, SO, SF, m1, m2, m3⟩ := impRVs_ok (d := d) (k := 0) (own := own) hvals
    have hI4 := hI3.share (Y := SF) (X' := SO) (fun b h => m2.right h) (fun b h => m2.left h) (fun b h h' => m2.2 b h h')
    have hcl4 : ∀ v u, RepV w B ρ r v u → RepV w2 (fun b => B3 b ∨ SF b) ρ r2 v u := fun v u hh => claims_world (fun _ h => .inl h) (fun _ _ => rfl) (fun id => kept_refl hI3 id) (hcl v u hh)
    have hm1 : EntsRep w2 (fun b => B3 b ∨ SF b) (impRVs d 0 own res.vals).2 locs SO := by
      have : ∀ {es : List Ent} {locs : List Loc} {S : Nat → Prop}, EntsRep w2 B3 es locs S → EntsRep w2 (fun b => B3 b ∨ SF b) es locs S := by
        intro es
        induction es with
        | nil => intro locs S h; exact h
        | cons e es ih =>
          intro locs S h
          simp only [EntsRep] at h ⊢
          obtain ⟨rows, l, locs1, S1, S2, e1, e2, h1, h2, h3⟩ := h
          exact ⟨rows, l, locs1, S1, S2, e1, e2, OwS.mono (fun _ h => .inl h) h1, ih h2, h3⟩
      exact this m1
    have hv := D.val
    subst hv
    split at k6
    · rename_i hemp
      simp only [M.run, Option.some.injEq] at k6
      subst k6
      have hes : (impRVs d 0 own res.vals).2 = [] := by simpa using hemp
      rw [hes] at m1 m3
      simp only [EntsRep] at m1
      obtain ⟨rfl, hSO⟩ := m1
      refine ⟨fun b => B3 b ∨ SF b, ρ, Sf2, hI4.congrX (fun b => ⟨fun h => hSO b h, fun h => h.elim⟩), hsz, hcl4, ?_⟩
      exact one_rep (m3 _ ρ r2 (fun _ h => .inl h) (fun _ h => .inr h) ⟨fun j l h => by simp at h, fun j e h => by simp at h⟩)
    · obtain ⟨hd, hr, k6⟩ := new_run k6
      simp only [M.run, Option.some.injEq] at k6
      subst k6
      obtain ⟨ρ3, Sf3, n1, n2, n3⟩ := hI4.news hd hr hm1 (fun b h => h)
      exact ⟨_, ρ3, Sf3, n1, by rw [List.length_set]; exact hsz, fun v u hh => n2 v u (hcl4 v u hh), one_rep (m3 _ ρ3 _ (fun _ h => .inl h) (fun _ h => .inr h) n3)⟩

end
end TT
