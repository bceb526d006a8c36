import Derived.Test.YtknfhlnfombmgaaDoorTD16
set_option linter.unusedVariables false
set_option linter.unusedSimpArgs false
namespace TT
open Go

theorem ShC.mono {w : World} {B B' : Nat → Prop} (hB : ∀ b, B b → B' b) {t : T} {u : Value} (h : ShC w B t u) : ShC w B' t u := ShC.same hB (fun _ _ => rfl) h
theorem OwS.mono {w : World} {B B' : Nat → Prop} (hB : ∀ b, B b → B' b) {q : Option Addr} {cap : Nat} {rows : Rows} {S : Nat → Prop} (h : OwS w B q cap rows S) : OwS w B' q cap rows S := OwS.same hB (fun _ _ => rfl) (fun _ _ => rfl) h

mutual
theorem ArgRep.mono {w : World} {B B' : Nat → Prop} (hB : ∀ b, B b → B' b) : ∀ {a : Arg} {u : Value} {S : Nat → Prop} {ls : List Lent}, ArgRep w B a u S ls → ArgRep w B' a u S ls
  | .t c, u, S, ls, h => by simp only [ArgRep] at h ⊢; exact ⟨ShC.mono hB h.1, h.2⟩
  | .agg as, u, S, ls, h => by simp only [ArgRep] at h ⊢; obtain ⟨us, h1, h2⟩ := h; exact ⟨us, h1, ArgReps.mono hB h2⟩
  | .ln rows, u, S, ls, h => by simp only [ArgRep] at h ⊢; obtain ⟨q, cap, h1, h2, h3⟩ := h; exact ⟨q, cap, h1, OwS.mono hB h2, h3⟩
  | .lp cells off, u, S, ls, h => by simp only [ArgRep] at h ⊢; obtain ⟨b, cap, h1, h2, h3, h4⟩ := h; exact ⟨b, cap, h1, h2, OwS.mono hB h3, h4⟩
  | .pp cells, u, S, ls, h => by simp only [ArgRep] at h ⊢; obtain ⟨⟨b, o, h1, h2, h3⟩, h4⟩ := h; exact ⟨⟨b, o, h1, hB b h2, ShR.same hB (fun _ _ => rfl) h2 h3⟩, h4⟩
  | .fn f caps, u, S, ls, h => by simp only [ArgRep] at h ⊢; obtain ⟨us, h1, h2⟩ := h; exact ⟨us, h1, ArgReps.mono hB h2⟩
theorem ArgReps.mono {w : World} {B B' : Nat → Prop} (hB : ∀ b, B b → B' b) : ∀ {as : List Arg} {us : List Value} {S : Nat → Prop} {ls : List Lent}, ArgReps w B as us S ls → ArgReps w B' as us S ls
  | [], us, S, ls, h => by simpa only [ArgReps] using h
  | a :: as, us, S, ls, h => by
    simp only [ArgReps] at h ⊢
    obtain ⟨u, us', S1, S2, l1, l2, h1, h2, h3, h4, h5⟩ := h
    exact ⟨u, us', S1, S2, l1, l2, h1, ArgRep.mono hB h2, ArgReps.mono hB h3, h4, h5⟩
end

def PARep (w : World) (B : Nat → Prop) (ρ : Id → Loc) (r : R) : PA → Value → (Nat → Prop) → List Lent → Prop
  | .a a, u, S, ls => ArgRep w B a u S ls
  | .v v, u, S, ls => RepV w B ρ r v u ∧ Emp S ∧ ls = []
def PAReps (w : World) (B : Nat → Prop) (ρ : Id → Loc) (r : R) : List PA → List Value → (Nat → Prop) → List Lent → Prop
  | [], us, S, ls => us = [] ∧ Emp S ∧ ls = []
  | a :: as, us, S, ls => ∃ u us' S1 S2 l1 l2, us = u :: us' ∧ PARep w B ρ r a u S1 l1 ∧ PAReps w B ρ r as us' S2 l2 ∧ Split S S1 S2 ∧ ls = l1 ++ l2

def BackOK (c : Ctx) (w : World) (ρ : Id → Loc) (r0 r : R) : Back → Lent → Prop
  | .root id st fx rows0, l => l = (ρ id, rows0) ∧ There r0 id ∧ (∃ rows1 stt1 fx1, getE r0 id = .mem rows1 stt1 fx1 ∧ rows0.map (·.length) = rows1.map (·.length) ∧ stt1 ≤ st) ∧ (fx = true → ρ id = c.q0 id ∧ rows0.length = c.n0 id)
  | .cell id p i k, l => There r0 id ∧ ∀ rows stt fx, getE r id = .mem rows stt fx → getC rows p i k = some .hole ∧ ∃ b o, LocAt w (ρ id).1 rows p i k b o ∧ w.cell? ⟨b, o, none⟩ = some (.slice l.1.1 l.2.length l.1.2)
  | .none, _ => True
def BacksOK (c : Ctx) (w : World) (ρ : Id → Loc) (r0 r : R) : List Back → List Lent → Prop
  | [], ls => ls = []
  | b :: bs, ls => ∃ l ls', ls = l :: ls' ∧ BackOK c w ρ r0 r b l ∧ BacksOK c w ρ r0 r bs ls'

theorem backIds_append : ∀ (a b : List Back), backIds (a ++ b) = backIds a ++ backIds b
  | [], b => rfl
  | .root .. :: a, b => by simp only [List.cons_append, backIds, backIds_append a b]
  | .cell .. :: a, b => by simp only [List.cons_append, backIds, backIds_append a b]
  | .none :: a, b => by simp only [List.cons_append, backIds, backIds_append a b]
theorem nodup_append : ∀ {a b : List Id}, nodupIds (a ++ b) = true → nodupIds a = true ∧ nodupIds b = true ∧ ∀ x ∈ a, x ∉ b
  | [], b, h => ⟨rfl, h, by simp⟩
  | x :: a, b, h => by
    simp only [List.cons_append, nodupIds, Bool.and_eq_true, Bool.not_eq_true'] at h
    obtain ⟨h1, h2⟩ := h
    obtain ⟨g1, g2, g3⟩ := nodup_append h2
    simp at h1
    refine ⟨?_, g2, ?_⟩
    · simp only [nodupIds, Bool.and_eq_true, Bool.not_eq_true']
      exact ⟨by simpa using h1.1, g1⟩
    · intro y hy
      rcases List.mem_cons.1 hy with rfl | hy
      · exact h1.2
      · exact g3 y hy

section
variable {P : Program} {c : Ctx} {w w' : World} {B B' : Nat → Prop} {ρ ρ' : Id → Loc} {Sf : Id → Nat → Prop} {X : Nat → Prop} {r r' r0 : R} {a : Act} {o : Oper} {id0 : Id}

theorem BackOK.keep {b : Back} {l : Lent} (h : BackOK c w ρ r0 r b l) (hk : ∀ id ∈ backIds [b], getE r' id = getE r id ∨ getE r' id = .dead) : BackOK c w ρ r0 r' b l := by
  cases b with
  | root id st fx rows0 => exact h
  | none => trivial
  | cell id p i k =>
    refine ⟨h.1, fun rows stt fx hg => ?_⟩
    rcases hk id (by simp [backIds]) with e | e
    · rw [e] at hg; exact h.2 rows stt fx hg
    · rw [e] at hg; cases hg
theorem BacksOK.keep : ∀ {bs : List Back} {ls : List Lent}, BacksOK c w ρ r0 r bs ls → (∀ id ∈ backIds bs, getE r' id = getE r id ∨ getE r' id = .dead) → BacksOK c w ρ r0 r' bs ls
  | [], ls, h, _ => h
  | b :: bs, ls, h, hk => by
    simp only [BacksOK] at h ⊢
    obtain ⟨l, ls', h1, h2, h3⟩ := h
    have e : backIds (b :: bs) = backIds [b] ++ backIds bs := backIds_append [b] bs
    rw [e] at hk
    exact ⟨l, ls', h1, h2.keep fun id hi => hk id (List.mem_append_left _ hi), h3.keep fun id hi => hk id (List.mem_append_right _ hi)⟩
theorem BacksOK.append : ∀ {bs bs' : List Back} {ls ls' : List Lent}, BacksOK c w ρ r0 r bs ls → BacksOK c w ρ r0 r bs' ls' → BacksOK c w ρ r0 r (bs ++ bs') (ls ++ ls')
  | [], bs', ls, ls', h, h' => by simp only [BacksOK] at h; subst h; simpa using h'
  | b :: bs, bs', ls, ls', h, h' => by
    simp only [BacksOK] at h
    obtain ⟨l, ls1, rfl, h2, h3⟩ := h
    simp only [List.cons_append, BacksOK]
    exact ⟨l, ls1 ++ ls', rfl, h2, h3.append h'⟩

theorem PARep.next (hB : ∀ b, B b → B' b) (hc : ∀ v u, RepV w B ρ r v u → RepV w B' ρ r' v u) {pa : PA} {u : Value} {S : Nat → Prop} {ls : List Lent} (h : PARep w B ρ r pa u S ls) : PARep w B' ρ r' pa u S ls := by
  cases pa with
  | a a => exact ArgRep.mono hB h
  | v v => exact ⟨hc _ _ h.1, h.2⟩

structure LendRes (c : Ctx) (w : World) (ρ : Id → Loc) (r0 : R) (B : Nat → Prop) (Sf : Id → Nat → Prop) (X : Nat → Prop) (r : R) (B1 : Nat → Prop) (Sf1 : Id → Nat → Prop) (S : Nat → Prop) (r1 : R) (ids : List Id) : Prop where
  inv : Inv c w B1 ρ Sf1 (fun b => X b ∨ S b) r1
  claims : ∀ v u, RepV w B ρ r v u → RepV w B1 ρ r1 v u
  chg : ∀ i0, Chg i0 r0 r → Chg (i0 ++ ids) r0 r1
  len : ∀ t, (r1.getD t []).length = (r.getD t []).length
  size : r1.length = r.length
  sub : ∀ id b, Sf1 id b → Sf id b
  Bl : ∀ b, B b → B1 b
  Br : ∀ b, B1 b → B b ∨ ∃ id, Sf id b
  dis : ∀ b, S b → ¬ X b
  src : ∀ b, S b → ∃ id, id ∈ ids ∧ Sf id b
  keep : ∀ id, id ∉ ids → getE r1 id = getE r id ∨ getE r1 id = .dead

theorem LendRes.refl (hI : Inv c w B ρ Sf X r) {S : Nat → Prop} (hS : Emp S) {ids : List Id} (hi : ids = []) : LendRes c w ρ r0 B Sf X r B Sf S r ids :=
  ⟨hI.congrX (fun b => ⟨.inl, fun h => h.resolve_right (hS b)⟩), fun _ _ h => h, fun i0 h => by rw [hi, List.append_nil]; exact h, fun _ => rfl, rfl, fun _ _ h => h, fun _ h => h, fun _ h => .inl h, fun b h => absurd h (hS b), fun b h => absurd h (hS b), fun _ _ => .inl rfl⟩

theorem LendRes.trans {B1 B2 : Nat → Prop} {Sf1 Sf2 : Id → Nat → Prop} {S1 S2 : Nat → Prop} {r1 r2 : R} {i1 i2 : List Id} (h : LendRes c w ρ r0 B Sf X r B1 Sf1 S1 r1 i1) (h' : LendRes c w ρ r0 B1 Sf1 (fun b => X b ∨ S1 b) r1 B2 Sf2 S2 r2 i2) :
    LendRes c w ρ r0 B Sf X r B2 Sf2 (fun b => S1 b ∨ S2 b) r2 (i1 ++ i2) := by
  refine ⟨h'.inv.congrX (fun b => by simp [or_assoc]), fun v u hh => h'.claims v u (h.claims v u hh), fun i0 hh => by rw [← List.append_assoc]; exact h'.chg _ (h.chg _ hh), fun t => (h'.len t).trans (h.len t), h'.size.trans h.size, fun id b hb => h.sub id b (h'.sub id b hb), fun b hb => h'.Bl b (h.Bl b hb), ?_, ?_, ?_, ?_⟩
  · intro b hb
    rcases h'.Br b hb with hb | ⟨id, hb⟩
    · exact h.Br b hb
    · exact .inr ⟨id, h.sub id b hb⟩
  · intro b hb
    rcases hb with hb | hb
    · exact h.dis b hb
    · exact fun hx => h'.dis b hb (.inl hx)
  · intro b hb
    rcases hb with hb | hb
    · obtain ⟨id, hi, hb⟩ := h.src b hb; exact ⟨id, List.mem_append_left _ hi, hb⟩
    · obtain ⟨id, hi, hb⟩ := h'.src b hb; exact ⟨id, List.mem_append_right _ hi, h.sub id b hb⟩
  · intro id hid
    rw [List.mem_append, not_or] at hid
    rcases h'.keep id hid.2 with e | e
    · rcases h.keep id hid.1 with e' | e'
      · exact .inl (e.trans e')
      · exact .inr (e.trans e')
    · exact .inr e

theorem chg_more {rows rows0 : Rows} {stt stt0 : Nat} {i0 extra : List Id} {id id' : Id} {A : Prop} (he : ∀ j ∈ extra, j = id) (hne : id ≠ id') (h : A ∨ (id' ∉ i0 ∧ rows = rows0 ∧ stt = stt0)) : A ∨ (id' ∉ i0 ++ extra ∧ rows = rows0 ∧ stt = stt0) :=
  h.imp (fun h => h) fun h => ⟨fun hm => (List.mem_append.1 hm).elim h.1 fun hm => hne (he id' hm).symm, h.2⟩

theorem chg_dead {id : Id} {i0 extra : List Id} (he : ∀ j ∈ extra, j = id) (h : Chg i0 r0 r) : Chg (i0 ++ extra) r0 (setE r id .dead) := by
  intro id' rows stt fx hg ht
  by_cases e : id = id'
  · subst e
    by_cases ht' : There r id
    · rw [getE_setE_same ht'] at hg; cases hg
    · have : getE (setE r id .dead) id = .dead := by
        by_cases hd : getE (setE r id .dead) id = .dead
        · exact hd
        · exact absurd ((there_setE _).1 (getE_there hd)) ht'
      rw [this] at hg; cases hg
  · rw [getE_setE_other e] at hg
    obtain ⟨rows0, stt0, fx0, e1, e2, e3⟩ := h id' rows stt fx hg ht
    exact ⟨rows0, stt0, fx0, e1, e2, chg_more he e e3⟩

theorem setC_lens (rows : Rows) (p : Path) (i k : Nat) (t : T) : (setC rows p i k t).map (·.length) = rows.map (·.length) := by
  have hrc : ∀ (rows : Rows) (i k : Nat) (t : T), (setRC rows i k t).map (·.length) = rows.map (·.length) := by
    intro rows i k t
    unfold setRC
    cases h : rows[i]? with
    | none => rfl
    | some row =>
      simp only []
      have := (List.getElem?_eq_some_iff.1 h)
      obtain ⟨h1, h2⟩ := this
      apply List.ext_getElem?
      intro j
      simp only [List.getElem?_map, List.getElem?_set]
      by_cases e : i = j
      · subst e; simp [h1, h2]
      · simp [e]
  cases p with
  | nil => exact hrc ..
  | cons x p =>
    obtain ⟨i0, c0⟩ := x
    simp only [setC]
    split
    · exact hrc ..
    · rfl

theorem chg_set {id : Id} {i0 extra : List Id} (he : ∀ j ∈ extra, j = id) {rows rows' : Rows} {stt stt' : Nat} {fx fx' : Bool} (h : Chg i0 r0 r) (h0 : getE r id = .mem rows stt fx) (hl : rows'.map (·.length) = rows.map (·.length)) (hs : stt < stt') : Chg (i0 ++ extra) r0 (setE r id (.mem rows' stt' fx')) := by
  intro id' rows1 stt1 fx1 hg ht
  have hth : There r id := getE_there (by rw [h0]; simp)
  by_cases e : id = id'
  · subst e
    rw [getE_setE_same hth] at hg
    cases hg
    obtain ⟨rows0, stt0, fx0, e1, e2, e3⟩ := h id rows stt fx h0 ht
    refine ⟨rows0, stt0, fx0, e1, by rw [hl, e2], .inl ?_⟩
    rcases e3 with e3 | ⟨_, _, e3⟩ <;> omega
  · rw [getE_setE_other e] at hg
    obtain ⟨rows0, stt0, fx0, e1, e2, e3⟩ := h id' rows1 stt1 fx1 hg ht
    exact ⟨rows0, stt0, fx0, e1, e2, chg_more he e e3⟩

theorem chg_le {id : Id} {i0 : List Id} {rows : Rows} {stt : Nat} {fx : Bool} (h : Chg i0 r0 r) (h0 : getE r id = .mem rows stt fx) (ht : There r0 id) : ∃ rows1 stt1 fx1, getE r0 id = .mem rows1 stt1 fx1 ∧ rows.map (·.length) = rows1.map (·.length) ∧ stt1 ≤ stt := by
  obtain ⟨rows0, stt0, fx0, e1, e2, e3⟩ := h id rows stt fx h0 ht
  exact ⟨rows0, stt0, fx0, e1, e2, by rcases e3 with e3 | ⟨_, _, e3⟩ <;> omega⟩

/-- A root is lent. -/
theorem lend_root (hI : Inv c w B ρ Sf X r) {id : Id} {rows : Rows} {stt : Nat} {fx : Bool} (h0 : getE r id = .mem rows stt fx) : LendRes c w ρ r0 B Sf X r B (fun j b => j ≠ id ∧ Sf j b) (Sf id) (setE r id .dead) [id] := by
  obtain ⟨h1, h2⟩ := hI.gone h0 (e := .dead) rfl
  exact ⟨h1, h2.claims, fun i0 => chg_dead (by simp), h2.len, h2.size, fun _ _ h => h.2, fun _ h => h, fun _ h => .inl h, fun b hb hx => hI.xd id b hx hb, fun b hb => ⟨id, by simp, hb⟩, fun j hj => .inl (getE_setE_other (by simpa [eq_comm] using hj) _)⟩

end
end TT
