import Derived.Test.YtknfhlnfombmgaaDoorTD24
set_option linter.unusedVariables false
set_option linter.unusedSimpArgs false
namespace TT
open Go

/-! ### Functions: how arguments come in -/

/-- New entries for what is lent. -/
def FixRep (w : World) (B : Nat → Prop) : List Ent → List Lent → (Nat → Prop) → Prop
  | [], ls, S => ls = [] ∧ Emp S
  | e :: es, ls, S => ∃ rows l ls' S1 S2, e = .mem rows 0 true ∧ ls = (l, rows) :: ls' ∧ OwS w B l.1 l.2 rows S1 ∧ FixRep w B es ls' S2 ∧ Split S S1 S2

theorem FixRep.length {w : World} {B : Nat → Prop} : ∀ {es : List Ent} {ls : List Lent} {S : Nat → Prop}, FixRep w B es ls S → ls.length = es.length
  | [], ls, S, h => by simp only [FixRep] at h; simp [h.1]
  | e :: es, ls, S, h => by
    simp only [FixRep] at h
    obtain ⟨rows, l, ls', S1, S2, _, rfl, _, h2, _⟩ := h
    simp [FixRep.length h2]

theorem FixRep.append {w : World} {B : Nat → Prop} : ∀ {es es' : List Ent} {ls ls' : List Lent} {S S1 S2 : Nat → Prop}, FixRep w B es ls S1 → FixRep w B es' ls' S2 → Split S S1 S2 → FixRep w B (es ++ es') (ls ++ ls') S
  | [], es', ls, ls', S, S1, S2, h, h', hs => by
    simp only [FixRep] at h
    obtain ⟨rfl, he⟩ := h
    have : S = S2 := funext fun b => propext ⟨fun h => ((hs.1 b).1 h).resolve_left (he b), fun h => hs.right h⟩
    rw [this]; exact h'
  | e :: es, es', ls, ls', S, S1, S2, h, h', hs => by
    simp only [FixRep] at h
    obtain ⟨rows, l, ls1, T1, T2, rfl, rfl, h1, h2, h3⟩ := h
    obtain ⟨F, f1, f2⟩ := Split.assoc hs h3
    simp only [List.cons_append, FixRep]
    exact ⟨rows, l, ls1 ++ ls', T1, F, rfl, rfl, h1, FixRep.append h2 h' f2, f1⟩

theorem FixRep.parts {w : World} {B : Nat → Prop} : ∀ {es : List Ent} {ls : List Lent} {S : Nat → Prop}, FixRep w B es ls S → ∃ part : Nat → Nat → Prop,
    (∀ (j : Nat) e, es[j]? = some e → ∃ rows l, e = .mem rows 0 true ∧ ls[j]? = some (l, rows) ∧ OwS w B l.1 l.2 rows (part j)) ∧ (∀ j j' b, part j b → part j' b → j = j') ∧ (∀ j b, part j b → S b) ∧ (∀ j, es.length ≤ j → Emp (part j))
  | [], ls, S, h => ⟨fun _ _ => False, fun j e h => by simp at h, fun _ _ _ h => h.elim, fun _ _ h => h.elim, fun _ _ _ h => h⟩
  | e :: es, ls, S, h => by
    simp only [FixRep] at h
    obtain ⟨rows, l, ls1, S1, S2, rfl, rfl, h1, h2, h3⟩ := h
    obtain ⟨part, p1, p2, p3, p4⟩ := FixRep.parts h2
    refine ⟨fun j => match j with | 0 => S1 | j + 1 => part j, ?_, ?_, ?_, ?_⟩
    · intro j e hj
      cases j with
      | zero => simp at hj; subst hj; exact ⟨rows, l, rfl, by simp, h1⟩
      | succ j => obtain ⟨rows', l', g1, g2, g3⟩ := p1 j e (by simpa using hj); exact ⟨rows', l', g1, by simpa using g2, g3⟩
    · intro j j' b hj hj'
      cases j with
      | zero => cases j' with
        | zero => rfl
        | succ j' => exact absurd (p3 j' b hj') (h3.2 b hj)
      | succ j => cases j' with
        | zero => exact absurd (p3 j b hj) (h3.2 b hj')
        | succ j' => rw [p2 j j' b hj hj']
    · intro j b hj
      cases j with
      | zero => exact h3.left hj
      | succ j => exact h3.right (p3 j b hj)
    · intro j hj
      cases j with
      | zero => simp at hj
      | succ j => exact p4 j (by simpa using hj)

mutual
theorem inV_ok {w : World} {B : Nat → Prop} : ∀ {a : Arg} {u : Value} {S : Nat → Prop} {ls : List Lent} {t k : Nat}, ArgRep w B a u S ls → FixRep w B (inV t k a).2 ls S ∧ ∀ ρ r, Places t k (inV t k a).2 (ls.map Prod.fst) ρ r → RepV w B ρ r (inV t k a).1 u
  | .t c, u, S, ls, t, k, h => by
    simp only [ArgRep] at h
    obtain ⟨h1, h2, h3, rfl⟩ := h
    refine ⟨⟨rfl, h3⟩, fun ρ r _ => ?_⟩
    simp only [inV, RepV]; exact ⟨h1, h2⟩
  | .agg as, u, S, ls, t, k, h => by
    simp only [ArgRep] at h
    obtain ⟨us, rfl, h⟩ := h
    obtain ⟨h1, h2⟩ := inVs_ok (t := t) (k := k) h
    refine ⟨h1, fun ρ r hp => ?_⟩
    simp only [inV, RepV]; exact ⟨us, rfl, h2 ρ r hp⟩
  | .ln rows, u, S, ls, t, k, h => by
    simp only [ArgRep] at h
    obtain ⟨q, cap, rfl, hs, rfl⟩ := h
    refine ⟨?_, fun ρ r hp => ?_⟩
    · simp only [inV, FixRep]
      exact ⟨rows, (q, cap), [], S, fun _ => False, rfl, rfl, hs, ⟨rfl, fun _ h => h⟩, (Split.of_emp_left (fun _ h => h)).comm⟩
    · obtain ⟨e1, e2⟩ := hp.2 0 _ rfl
      have e3 := hp.1 0 _ rfl
      rw [Nat.add_zero] at e1 e2 e3
      simp only [inV, RepV]
      refine ⟨e2, ⟨q, cap, rfl, ?_⟩, ?_⟩
      · rcases hs with ⟨_, f1, f2, _⟩ | ⟨_, _, _, _, _, _, _, f3, _⟩
        · simp [f2]
        · exact f3.1
      · intro rows' stt fx hg
        rw [e1] at hg; cases hg
        exact ⟨Nat.le_refl _, fun _ => by rw [e3]⟩
  | .lp cells off, u, S, ls, t, k, h => by
    simp only [ArgRep] at h
    obtain ⟨b, cap, rfl, ho, hs, rfl⟩ := h
    refine ⟨?_, fun ρ r hp => ?_⟩
    · simp only [inV, FixRep]
      exact ⟨[cells], (some ⟨b, 0, none⟩, cap), [], S, fun _ => False, rfl, rfl, hs, ⟨rfl, fun _ h => h⟩, (Split.of_emp_left (fun _ h => h)).comm⟩
    · obtain ⟨e1, e2⟩ := hp.2 0 _ rfl
      have e3 := hp.1 0 _ rfl
      rw [Nat.add_zero] at e1 e2 e3
      simp only [inV, RepV]
      refine ⟨e2, _, rfl, ?_⟩
      intro rows' stt fx hg
      rw [e1] at hg; cases hg
      refine ⟨fun _ => by simp, fun h => absurd rfl h, fun _ _ => ⟨fun h => absurd rfl h, fun row' hr' hl => ⟨b, off, ⟨by rw [e3], row', by simpa [getP] using hr', hl, by omega⟩, rfl⟩⟩⟩
  | .pp cells, u, S, ls, t, k, h => by
    simp only [ArgRep] at h
    obtain ⟨h1, h3, rfl⟩ := h
    refine ⟨⟨rfl, h3⟩, fun ρ r _ => ?_⟩
    simp only [inV, RepV]; exact h1
  | .fn f caps, u, S, ls, t, k, h => by
    simp only [ArgRep] at h
    obtain ⟨us, rfl, h⟩ := h
    obtain ⟨h1, h2⟩ := inVs_ok (t := t) (k := k) h
    refine ⟨h1, fun ρ r hp => ?_⟩
    simp only [inV, RepV]; exact ⟨us, rfl, h2 ρ r hp⟩
theorem inVs_ok {w : World} {B : Nat → Prop} : ∀ {as : List Arg} {us : List Value} {S : Nat → Prop} {ls : List Lent} {t k : Nat}, ArgReps w B as us S ls → FixRep w B (inVs t k as).2 ls S ∧ ∀ ρ r, Places t k (inVs t k as).2 (ls.map Prod.fst) ρ r → RepVs w B ρ r (inVs t k as).1 us
  | [], us, S, ls, t, k, h => by
    simp only [ArgReps] at h
    obtain ⟨rfl, h3, rfl⟩ := h
    exact ⟨⟨rfl, h3⟩, fun ρ r _ => by simp only [inVs, RepVs]⟩
  | a :: as, us, S, ls, t, k, h => by
    simp only [ArgReps] at h
    obtain ⟨u, us', S1, S2, l1, l2, rfl, h1, h2, h3, rfl⟩ := h
    obtain ⟨g1, g2⟩ := inV_ok (t := t) (k := k) h1
    obtain ⟨g3, g4⟩ := inVs_ok (t := t) (k := k + (inV t k a).2.length) h2
    refine ⟨by simp only [inVs]; exact g1.append g3 h3, fun ρ r hp => ?_⟩
    simp only [inVs, List.map_append] at hp ⊢
    simp only [RepVs]
    exact ⟨u, us', rfl, g2 ρ r hp.left, g4 ρ r (hp.right (by rw [List.length_map, g1.length]))⟩
end

/-- Each parameter with its own part of what is lent. -/
structure Ins (w : World) (B : Nat → Prop) (args : List Arg) (us : List Value) (S : Nat → Prop) (t0 : Nat) (lls : List (List Lent)) (part : Nat → Nat → Nat → Prop) : Prop where
  len : lls.length = args.length
  ulen : us.length = args.length
  ents : ∀ (i : Nat) a l, args[i]? = some a → lls[i]? = some l → (inV (t0 + i) 0 a).2.length = l.length ∧ ∀ (k : Nat) e, (inV (t0 + i) 0 a).2[k]? = some e → ∃ rows lc, e = .mem rows 0 true ∧ l[k]? = some (lc, rows) ∧ OwS w B lc.1 lc.2 rows (part i k)
  reps : ∀ (i : Nat) a l u, args[i]? = some a → lls[i]? = some l → us[i]? = some u → ∀ ρ r, Places (t0 + i) 0 (inV (t0 + i) 0 a).2 (l.map Prod.fst) ρ r → RepV w B ρ r (inV (t0 + i) 0 a).1 u
  dis : ∀ i k i' k' b, part i k b → part i' k' b → i = i' ∧ k = k'
  sub : ∀ i k b, part i k b → S b
  out : ∀ i k, (∀ l, lls[i]? = some l → l.length ≤ k) → Emp (part i k)

theorem ins_ok {w : World} {B : Nat → Prop} : ∀ {args : List Arg} {us : List Value} {S : Nat → Prop} {ls : List Lent} (t0 : Nat), ArgReps w B args us S ls → ∃ lls part, lls.flatten = ls ∧ Ins w B args us S t0 lls part
  | [], us, S, ls, t0, h => by
    simp only [ArgReps] at h
    obtain ⟨rfl, h3, rfl⟩ := h
    exact ⟨[], fun _ _ _ => False, rfl, rfl, rfl, fun i a l h => by simp at h, fun i a l u h => by simp at h, fun _ _ _ _ _ h => h.elim, fun _ _ _ h => h.elim, fun _ _ _ _ h => h⟩
  | a :: as, us, S, ls, t0, h => by
    simp only [ArgReps] at h
    obtain ⟨u, us', S1, S2, l1, l2, rfl, h1, h2, h3, rfl⟩ := h
    obtain ⟨g1, g2⟩ := inV_ok (t := t0) (k := 0) h1
    obtain ⟨p0, q1, q2, q3, q4⟩ := g1.parts
    obtain ⟨lls, part, rfl, I⟩ := ins_ok (t0 + 1) h2
    have he : ∀ i, t0 + 1 + i = t0 + (i + 1) := fun i => by omega
    refine ⟨l1 :: lls, fun i => match i with | 0 => p0 | i + 1 => part i, rfl, by simp [I.len], by simp [I.ulen], ?_, ?_, ?_, ?_, ?_⟩
    · intro i a' l ha hl
      cases i with
      | zero =>
        simp at ha hl
        subst ha; subst hl
        refine ⟨(g1.length).symm, fun k e hk => ?_⟩
        obtain ⟨rows, lc, r1, r2, r3⟩ := q1 k e hk
        exact ⟨rows, lc, r1, r2, r3⟩
      | succ i => have := I.ents i a' l (by simpa using ha) (by simpa using hl); rwa [he] at this
    · intro i a' l u' ha hl hu ρ r hp
      cases i with
      | zero =>
        simp at ha hl hu
        subst ha; subst hl; subst hu
        exact g2 ρ r hp
      | succ i =>
        have := I.reps i a' l u' (by simpa using ha) (by simpa using hl) (by simpa using hu) ρ r
        rw [he] at this
        exact this hp
    · intro i k i' k' b hb hb'
      cases i with
      | zero => cases i' with
        | zero => exact ⟨rfl, q2 k k' b hb hb'⟩
        | succ i' => exact absurd (I.sub i' k' b hb') (h3.2 b (q3 k b hb))
      | succ i => cases i' with
        | zero => exact absurd (I.sub i k b hb) (h3.2 b (q3 k' b hb'))
        | succ i' => obtain ⟨rfl, rfl⟩ := I.dis i k i' k' b hb hb'; exact ⟨rfl, rfl⟩
    · intro i k b hb
      cases i with
      | zero => exact h3.left (q3 k b hb)
      | succ i => exact h3.right (I.sub i k b hb)
    · intro i k hk
      cases i with
      | zero => exact q4 k (by rw [← g1.length]; exact hk l1 (by simp))
      | succ i => exact I.out i k (fun l hl => hk l (by simpa using hl))

theorem inArgs_get : ∀ (args : List Arg) (t i : Nat), (inArgs t args)[i]? = (args[i]?).map fun a => inV (t + i) 0 a
  | [], t, i => by simp [inArgs]
  | a :: as, t, 0 => by simp [inArgs]
  | a :: as, t, i + 1 => by
    simp only [inArgs, List.getElem?_cons_succ]
    rw [inArgs_get as (t + 1) i, show t + 1 + i = t + (i + 1) by omega]
theorem inArgs_length : ∀ (args : List Arg) (t : Nat), (inArgs t args).length = args.length
  | [], t => rfl
  | a :: as, t => by simp [inArgs, inArgs_length as (t + 1)]

/-- The state at a function's entry. -/
theorem enter_r (nt : Nat) (args : List Arg) (t : Nat) : ((enter nt args).r).getD t [] = match args[t]? with | some a => (inV t 0 a).2 | none => [] := by
  simp only [enter, List.getD]
  by_cases h : t < args.length
  · rw [List.getElem?_append_left (by simp [inArgs_length, h]), List.getElem?_map, inArgs_get]
    simp [h]
  · rw [List.getElem?_append_right (by simp [inArgs_length]; omega)]
    simp [List.getElem?_eq_none (Nat.le_of_not_lt h), List.getElem?_replicate]
    split <;> rfl
theorem enter_s (nt : Nat) (args : List Arg) (t : Nat) : ((enter nt args).s).getD t .dead = match args[t]? with | some a => (inV t 0 a).1 | none => .dead := by
  simp only [enter, List.getD]
  by_cases h : t < args.length
  · rw [List.getElem?_append_left (by simp [inArgs_length, h]), List.getElem?_map, inArgs_get]
    simp [h]
  · rw [List.getElem?_append_right (by simp [inArgs_length]; omega)]
    simp [List.getElem?_eq_none (Nat.le_of_not_lt h), List.getElem?_replicate]
    split <;> rfl

def qOf (lls : List (List Lent)) (id : Id) : Loc := ((lls.getD id.1 []).getD id.2 default).1
def nOf (lls : List (List Lent)) (id : Id) : Nat := ((lls.getD id.1 []).getD id.2 default).2.length

theorem enter_sim {P : Program} {G : Gt} {w : World} {B L : Nat → Prop} {args : List Arg} {us : List Value} {lls : List (List Lent)} {part : Nat → Nat → Nat → Prop} {nt : Nat} (I : Ins w B args us L 0 lls part) (hL : ∀ b, L b → ¬ B b) (hB : ∀ b, B b → b < w.heap.size) (hG : G.ok B w) (hn : args.length ≤ nt) :
    Sim ⟨P, G, w, B, L, hG, hL, hB, qOf lls, nOf lls⟩ (enter nt args) { tmps := us.toArray ++ Array.replicate (nt - us.toArray.size) undef, defers := [] } w := by
  have hul : us.length = args.length := I.ulen
  have hgetE : ∀ id : Id, getE (enter nt args).r id = match args[id.1]? with | some a => ((inV id.1 0 a).2).getD id.2 .dead | none => .dead := by
    intro id
    simp only [getE, enter_r]
    cases args[id.1]? <;> simp
  have hent : ∀ id e, e ≠ .dead → getE (enter nt args).r id = e → ∃ rows l, e = .mem rows 0 true ∧ lls[id.1]? = some l ∧ l[id.2]? = some (qOf lls id, rows) ∧ OwS w B (qOf lls id).1 (qOf lls id).2 rows (part id.1 id.2) := by
    intro id e hne he
    rw [hgetE] at he
    cases ha : args[id.1]? with
    | none => rw [ha] at he; exact absurd he.symm hne
    | some a =>
      rw [ha] at he
      have hlt := (List.getElem?_eq_some_iff.1 ha).1
      obtain ⟨lx, hl⟩ : ∃ l, lls[id.1]? = some l := ⟨_, List.getElem?_eq_getElem (by rw [I.len]; exact hlt)⟩
      obtain ⟨e1, e2⟩ := I.ents id.1 a _ ha hl
      rw [Nat.zero_add] at e1 e2
      cases hk : (inV id.1 0 a).2[id.2]? with
      | none => simp [List.getD, hk] at he; exact absurd he.symm hne
      | some e' =>
        simp [List.getD, hk] at he
        subst he
        obtain ⟨rows, lc, f1, f2, f3⟩ := e2 id.2 e' hk
        have hq : qOf lls id = lc := by simp [qOf, List.getD, hl, f2]
        exact ⟨rows, _, f1, hl, by rw [hq]; exact f2, by rw [hq]; exact f3⟩
  refine ⟨B, qOf lls, fun id b => part id.1 id.2 b, ?_, ?_, ?_, ?_, rfl⟩
  · constructor
    · intro id
      cases he : getE (enter nt args).r id with
      | dead =>
        refine I.out id.1 id.2 fun l hl => ?_
        rw [hgetE] at he
        have hlt : id.1 < args.length := by rw [← I.len]; exact (List.getElem?_eq_some_iff.1 hl).1
        have ha : args[id.1]? = some args[id.1] := by simp [hlt]
        obtain ⟨e1, e2⟩ := I.ents id.1 _ l ha hl
        rw [Nat.zero_add] at e1 e2
        rw [ha] at he
        rcases Nat.lt_or_ge id.2 l.length with h | h
        · obtain ⟨rows, lc, f1, _⟩ := e2 id.2 (inV id.1 0 args[id.1]).2[id.2] (by simp [e1, h])
          simp [List.getD, e1, h] at he
          rw [he] at f1; cases f1
        · exact h
      | mem rows stt fx =>
        obtain ⟨rows', l, f1, f2, f3, f4⟩ := hent id _ (by simp) he
        cases f1
        refine ⟨f4, fun _ => ⟨rfl, ?_⟩⟩
        simp [nOf, List.getD, f2, f3]
    · intro id id' b h h'
      obtain ⟨e1, e2⟩ := I.dis _ _ _ _ b h h'
      exact Prod.ext e1 e2
    · exact fun id b h => hL b (I.sub _ _ b h)
    · exact fun b h => h.elim
    · exact fun id b h => h.elim
    · exact hB
    · exact fun b h => h.elim
    · exact fun id b h => .inl (I.sub _ _ b h)
    · exact fun b h => h.elim
    · exact fun b h => h
    · exact fun b h => .inl h
    · exact Nat.le_refl _
    · exact fun b _ _ => rfl
    · rfl
    · rfl
    · rfl
  · intro t
    rw [enter_s]
    cases ha : args[t]? with
    | none => simp only [RepV]
    | some a =>
      have hlt := (List.getElem?_eq_some_iff.1 ha).1
      obtain ⟨lx, hl⟩ : ∃ l, lls[t]? = some l := ⟨_, List.getElem?_eq_getElem (by rw [I.len]; exact hlt)⟩
      obtain ⟨ux, hu⟩ : ∃ u, us[t]? = some u := ⟨_, List.getElem?_eq_getElem (by rw [hul]; exact hlt)⟩
      have hv : (us.toArray ++ Array.replicate (nt - us.toArray.size) undef).getD t undef = ux := by
        rw [Array.getD_eq_getD_getElem?, Array.getElem?_append_left (by simp [hul, hlt])]
        simp [hu]
      show RepV w B (qOf lls) (enter nt args).r (inV t 0 a).1 _
      rw [hv]
      have := I.reps t a _ _ ha hl hu (qOf lls) (enter nt args).r
      rw [Nat.zero_add] at this
      refine this ⟨fun j l hj => ?_, fun j e hj => ?_⟩
      · rw [Nat.zero_add]
        rw [List.getElem?_map] at hj
        obtain ⟨x, hx, rfl⟩ := Option.map_eq_some_iff.1 hj
        simp [qOf, List.getD, hl, hx]
      · rw [Nat.zero_add]
        refine ⟨?_, ?_⟩
        · rw [hgetE]; simp only [ha]; simp [List.getD, hj]
        · unfold There; rw [enter_r]; simp only [ha]; exact (List.getElem?_eq_some_iff.1 hj).1
  · simp [enter, inArgs_length, hul]
  · simp [enter, inArgs_length]

end TT
