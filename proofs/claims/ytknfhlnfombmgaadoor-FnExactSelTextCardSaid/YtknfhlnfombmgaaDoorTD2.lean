import Derived.Test.YtknfhlnfombmgaaDoorTD
set_option linter.unusedVariables false
set_option linter.unusedSimpArgs false
namespace TT
open Go

theorem setRC_get (rows : Rows) (I C : Nat) (t : T) (i : Nat) : (setRC rows I C t)[i]? = if i = I then (rows[i]?).map (·.set C t) else rows[i]? := by
  unfold setRC
  cases h : rows[I]? with
  | none =>
    simp only []
    by_cases e : i = I
    · subst e; simp [h]
    · simp [e]
  | some row =>
    simp only []
    rw [List.getElem?_set]
    by_cases e : I = i
    · subst e
      obtain ⟨h1, h2⟩ := List.getElem?_eq_some_iff.1 h
      simp [h1, h2]
    · rw [if_neg e, if_neg (fun e' => e e'.symm)]

theorem setRC_row {rows : Rows} {I C : Nat} {t : T} {i : Nat} {row' : List T} (h : (setRC rows I C t)[i]? = some row') :
    ∃ row, rows[i]? = some row ∧ row.length = row'.length ∧ ∀ c, row'[c]? = row[c]? ∨ (i = I ∧ c = C ∧ row'[c]? = some t) := by
  rw [setRC_get] at h
  split at h
  · rename_i e
    obtain ⟨row, h1, h2⟩ := Option.map_eq_some_iff.1 h
    refine ⟨row, h1, by rw [← h2]; simp, fun c => ?_⟩
    rw [← h2, List.getElem?_set]
    by_cases ec : C = c
    · subst ec
      by_cases hl : C < row.length
      · exact .inr ⟨e, rfl, by simp [hl]⟩
      · left; simp [hl]
    · left; rw [if_neg ec]
  · exact ⟨row', h, rfl, fun c => .inl rfl⟩

theorem setRC_row' {rows : Rows} {I C : Nat} {t : T} {i : Nat} {row : List T} (h : rows[i]? = some row) : ∃ row', (setRC rows I C t)[i]? = some row' ∧ row'.length = row.length := by
  rw [setRC_get]
  split
  · exact ⟨row.set C t, by simp [h], by simp⟩
  · exact ⟨row, h, rfl⟩

/-- Where a cell that is no owned slice has been put, whatever still is an owned slice was one, just as long, at the same place. -/
theorem getP_setC : ∀ (p P : Path) {rows : Rows} {I C : Nat} {t : T} {rs' : Rows}, t.isOwn = false → getP (setC rows P I C t) p = some rs' →
    ∃ rs, getP rows p = some rs ∧ rs.length = rs'.length ∧ (∀ (i : Nat) row', rs'[i]? = some row' → ∃ row, rs[i]? = some row ∧ row.length = row'.length ∧ ∀ (c : Nat) z', row'[c]? = some (.sl true z') → ∃ z, row[c]? = some (.sl true z) ∧ z.length = z'.length) ∧
      ∀ w q i c b k, LocAt w q rows p i c b k → LocAt w q (setC rows P I C t) p i c b k
  | [], [], rows, I, C, t, rs', ht, h => by
    simp only [setC, getP, Option.some.injEq] at h
    subst h
    refine ⟨rows, rfl, (setRC_length ..).symm, ?_, ?_⟩
    · intro i row' hr
      obtain ⟨row, h1, h2, h3⟩ := setRC_row hr
      refine ⟨row, h1, h2, fun c z' hz => ?_⟩
      rcases h3 c with h4 | ⟨_, _, h4⟩
      · exact ⟨z', by rw [← h4]; exact hz, rfl⟩
      · rw [h4] at hz; simp only [Option.some.injEq] at hz; subst hz; simp [T.isOwn] at ht
    · rintro w q i c b k ⟨g1, row, g2, g3, g4⟩
      obtain ⟨row', h1, h2⟩ := setRC_row' (I := I) (C := C) (t := t) g2
      exact ⟨g1, row', h1, by omega, by rw [h2]; exact g4⟩
  | [], (I0, C0) :: P, rows, I, C, t, rs', ht, h => by
    simp only [getP, Option.some.injEq] at h
    subst h
    simp only [setC]
    split
    · rename_i rows1 hrc
      refine ⟨rows, rfl, (setRC_length ..).symm, ?_, ?_⟩
      · intro i row' hr
        obtain ⟨row, h1, h2, h3⟩ := setRC_row hr
        refine ⟨row, h1, h2, fun c z' hz => ?_⟩
        rcases h3 c with h4 | ⟨e1, e2, h4⟩
        · exact ⟨z', by rw [← h4]; exact hz, rfl⟩
        · subst e1; subst e2
          rw [h4] at hz
          simp only [Option.some.injEq, T.sl.injEq, true_and] at hz
          subst hz
          obtain ⟨row0, g1, g2⟩ := Option.bind_eq_some_iff.1 hrc
          rw [h1] at g1
          cases g1
          exact ⟨rows1, g2, by rw [setC_length]⟩
      · rintro w q i c b k ⟨g1, row, g2, g3, g4⟩
        obtain ⟨row', h1, h2⟩ := setRC_row' (I := I0) (C := C0) (t := .sl true (setC rows1 P I C t)) g2
        exact ⟨g1, row', h1, by omega, by rw [h2]; exact g4⟩
    · exact ⟨rows, rfl, rfl, fun i row' hr => ⟨row', hr, rfl, fun c z' hz => ⟨z', hz, rfl⟩⟩, fun w q i c b k hh => hh⟩
  | (i0, c0) :: p, P, rows, I, C, t, rs', ht, h => by
    simp only [getP] at h
    cases hrc' : (setC rows P I C t)[i0]?.bind (·[c0]?) with
    | none => simp [hrc'] at h
    | some x =>
      rw [hrc'] at h
      cases x with
      | v x => simp at h
      | hole => simp at h
      | sl own rows1' =>
        cases own with
        | false => simp at h
        | true =>
          simp only [] at h
          obtain ⟨row', hr', hc'⟩ := Option.bind_eq_some_iff.1 hrc'
          -- what stood there ahead
          have key : ∃ row rows1, rows[i0]? = some row ∧ row.length = row'.length ∧ row[c0]? = some (.sl true rows1) ∧
              (rows1' = rows1 ∨ ∃ P1, rows1' = setC rows1 P1 I C t) := by
            cases P with
            | nil =>
              simp only [setC] at hr'
              obtain ⟨row, h1, h2, h3⟩ := setRC_row hr'
              rcases h3 c0 with h4 | ⟨_, _, h4⟩
              · exact ⟨row, rows1', h1, h2, by rw [← h4]; exact hc', .inl rfl⟩
              · rw [h4] at hc'; simp only [Option.some.injEq] at hc'; subst hc'; simp [T.isOwn] at ht
            | cons IC P =>
              obtain ⟨I0, C0⟩ := IC
              simp only [setC] at hr'
              split at hr'
              · rename_i rowsP hP
                obtain ⟨row, h1, h2, h3⟩ := setRC_row hr'
                rcases h3 c0 with h4 | ⟨e1, e2, h4⟩
                · exact ⟨row, rows1', h1, h2, by rw [← h4]; exact hc', .inl rfl⟩
                · subst e1; subst e2
                  rw [h4] at hc'
                  simp only [Option.some.injEq, T.sl.injEq, true_and] at hc'
                  obtain ⟨row0, g1, g2⟩ := Option.bind_eq_some_iff.1 hP
                  rw [h1] at g1
                  cases g1
                  exact ⟨row, rowsP, h1, h2, g2, .inr ⟨P, hc'.symm⟩⟩
              · exact ⟨row', rows1', hr', rfl, hc', .inl rfl⟩
          obtain ⟨row, rows1, k1, k2, k3, k4⟩ := key
          have hget : ∀ p', getP rows ((i0, c0) :: p') = getP rows1 p' := fun p' => by
            have : rows[i0]?.bind (·[c0]?) = some (.sl true rows1) := by rw [k1]; exact k3
            simp only [getP, this]
          rcases k4 with k4 | ⟨P1, k4⟩
          · subst k4
            refine ⟨rs', by rw [hget]; exact h, rfl, fun i row' hr => ⟨row', hr, rfl, fun c z' hz => ⟨z', hz, rfl⟩⟩, ?_⟩
            rintro w q i c b k ⟨b0, rw_, rws, q1, n1, cap1, g1, g2, g3, g4, g5⟩
            rw [k1] at g2; cases g2
            rw [k3] at g3; cases g3
            exact ⟨b0, row', rows1', q1, n1, cap1, g1, hr', hc', by rw [← k2]; exact g4, g5⟩
          · subst k4
            obtain ⟨rs, m1, m2, m3, m4⟩ := getP_setC p P1 ht h
            refine ⟨rs, by rw [hget]; exact m1, m2, m3, ?_⟩
            rintro w q i c b k ⟨b0, rw_, rws, q1, n1, cap1, g1, g2, g3, g4, g5⟩
            rw [k1] at g2; cases g2
            rw [k3] at g3; cases g3
            exact ⟨b0, row', _, q1, n1, cap1, g1, hr', hc', by rw [← k2]; exact g4, m4 w q1 i c b k g5⟩

theorem getC_setC {p P : Path} {rows : Rows} {I C i c : Nat} {t : T} {z' : Rows} (ht : t.isOwn = false) (h : getC (setC rows P I C t) p i c = some (.sl true z')) :
    ∃ z, getC rows p i c = some (.sl true z) ∧ z.length = z'.length := by
  simp only [getC] at h
  obtain ⟨rs', h1, h2⟩ := Option.bind_eq_some_iff.1 h
  obtain ⟨row', h3, h4⟩ := Option.bind_eq_some_iff.1 h2
  obtain ⟨rs, m1, _, m3, _⟩ := getP_setC p P ht h1
  obtain ⟨row, n1, _, n3⟩ := m3 i row' h3
  obtain ⟨z, n4, n5⟩ := n3 c z' h4
  exact ⟨z, by simp only [getC, m1, Option.bind_some, n1, n4], n5⟩

/-! ### How the claims stand when one root turns -/

/-- Nothing but this root, and its content alone. -/
theorem RefAt.of_same {ρ : Id → Loc} {r r' : R} (h : ∀ id rows stt fx, getE r' id = .mem rows stt fx → ∃ rows0 stt0 fx0, getE r id = .mem rows0 stt0 fx0 ∧ rows0.length = rows.length) {id : Id} {n : Nat} {u : Value} (hh : RefAt ρ r id n u) : RefAt ρ r' id n u := by
  intro rows stt fx hg
  obtain ⟨rows0, stt0, fx0, h1, h2⟩ := h id rows stt fx hg
  have := hh rows0 stt0 fx0 h1
  exact ⟨by omega, fun e => this.2 (by omega)⟩

section
variable {w w' : World} {B B' : Nat → Prop} {ρ : Id → Loc} {r : R} {id0 : Id}

/-- The entry goes. -/
theorem claims_gone {e : Ent} (he : ∀ rows stt fx, e ≠ .mem rows stt fx) {v : V} {u : Value} (h : RepV w B ρ r v u) : RepV w B ρ (setE r id0 e) v u := by
  have hT : ∀ id, There r id → There (setE r id0 e) id := fun id h => (there_setE e).2 h
  have hg : ∀ id, There r id → ∀ rows stt fx, getE (setE r id0 e) id = .mem rows stt fx → getE r id = .mem rows stt fx := by
    intro id ht rows stt fx h
    by_cases e1 : id0 = id
    · subst e1; rw [getE_setE_same ht] at h; exact absurd h (he rows stt fx)
    · rwa [getE_setE_other e1] at h
  exact RepV.turn (fun _ h => h) (fun _ _ => rfl) hT (fun id n u ht hh rows stt fx h => hh rows stt fx (hg id ht _ _ _ h))
    (fun id p i c n st u ht hh rows stt fx h => hh rows stt fx (hg id ht _ _ _ h)) (fun id p i off n st a ht hh rows stt fx h => hh rows stt fx (hg id ht _ _ _ h)) (fun id st us ht hh rows stt fx h => hh rows stt fx (hg id ht _ _ _ h)) h

/-- A cell becomes a hole. -/
theorem claims_hole {rows : Rows} {stt : Nat} {fx fx' : Bool} (h0 : getE r id0 = .mem rows stt fx) {P : Path} {I C : Nat} {t : T} (ht : t.isOwn = false) {v : V} {u : Value} (h : RepV w B ρ r v u) :
    RepV w B ρ (setE r id0 (.mem (setC rows P I C t) stt fx')) v u := by
  have hth : There r id0 := getE_there (by rw [h0]; simp)
  have hT : ∀ id, There r id → There (setE r id0 (.mem (setC rows P I C t) stt fx')) id := fun id h => (there_setE _).2 h
  refine RepV.turn (fun _ h => h) (fun _ _ => rfl) hT ?_ ?_ ?_ ?_ h
  · intro id n u _ hh
    refine RefAt.of_same (fun id rows' stt' fx'' hg => ?_) hh
    by_cases e1 : id0 = id
    · subst e1; rw [getE_setE_same hth] at hg; cases hg; exact ⟨_, _, _, h0, (setC_length ..).symm⟩
    · rw [getE_setE_other e1] at hg; exact ⟨_, _, _, hg, rfl⟩
  · intro id p i c n st u _ hh rows' stt' fx'' hg
    by_cases e1 : id0 = id
    · subst e1; rw [getE_setE_same hth] at hg; cases hg
      obtain ⟨g1, g2⟩ := hh _ _ _ h0
      refine ⟨g1, fun e => ⟨by rw [setC_length]; exact (g2 e).1, fun rs hrs hl => ?_⟩⟩
      obtain ⟨z, z1, z2⟩ := getC_setC ht hrs
      obtain ⟨b, k, l1, l2⟩ := (g2 e).2 z z1 (by omega)
      simp only [getC] at hrs
      obtain ⟨rs', y1, _⟩ := Option.bind_eq_some_iff.1 hrs
      obtain ⟨_, _, _, _, y5⟩ := getP_setC p P ht y1
      exact ⟨b, k, y5 _ _ _ _ _ _ l1, l2⟩
    · rw [getE_setE_other e1] at hg; exact hh _ _ _ hg
  · intro id p i off n st a _ hh rows' stt' fx'' hg
    by_cases e1 : id0 = id
    · subst e1; rw [getE_setE_same hth] at hg; cases hg
      obtain ⟨g1, g2, g3⟩ := hh _ _ _ h0
      refine ⟨fun e => by rw [setC_length]; exact g1 e, g2, fun e e' => ?_⟩
      obtain ⟨g4, g5⟩ := g3 (fun q => by have := e q; rw [setC_length] at this; exact this) e'
      refine ⟨fun q => by rw [setC_length]; exact g4 q, fun row hrow hlt => ?_⟩
      obtain ⟨rs', y1, y2⟩ := Option.bind_eq_some_iff.1 hrow
      obtain ⟨rs, z1, _, z3, z4⟩ := getP_setC p P ht y1
      obtain ⟨row0, x1, x2, _⟩ := z3 i row y2
      obtain ⟨b, k, l1, l2⟩ := g5 row0 (by rw [z1]; exact x1) (by omega)
      exact ⟨b, k, z4 _ _ _ _ _ _ l1, l2⟩
    · rw [getE_setE_other e1] at hg; exact hh _ _ _ hg
  · intro id st us _ hh rows' stt' fx'' hg
    by_cases e1 : id0 = id
    · subst e1; rw [getE_setE_same hth] at hg; cases hg
      obtain ⟨g1, g2, g3⟩ := hh _ _ _ h0
      refine ⟨by rw [setC_length]; exact g1, g2, fun e e' => ?_⟩
      obtain ⟨row, b, rfl, z2, z3⟩ := g3 e (by rw [setC_length] at e'; exact e')
      have hl : (setC [row] P I C t).length = 1 := setC_length ..
      match hrows : setC [row] P I C t, hl with
      | [row'], _ =>
        obtain ⟨rs, w1, _, w3, _⟩ := getP_setC [] P (rows := [row]) (I := I) (C := C) (rs' := [row']) ht (by rw [hrows]; rfl)
        simp only [getP, Option.some.injEq] at w1
        subst w1
        obtain ⟨row0, y1, y2, _⟩ := w3 0 row' rfl
        simp only [List.getElem?_cons_zero, Option.some.injEq] at y1
        subst y1
        exact ⟨row', b, rfl, by omega, z3⟩
    · rw [getE_setE_other e1] at hg; exact hh _ _ _ hg

/-- Worlds that are the same on all blocks that an address' way comes by. -/
theorem LocAt.same {S : Nat → Prop} : ∀ (p : Path) {q : Option Addr} {cap : Nat} {rows : Rows} {S : Nat → Prop} {i c b k : Nat}, OwS w B q cap rows S → Same S w w' → LocAt w q rows p i c b k → LocAt w' q rows p i c b k
  | [], q, cap, rows, S, i, c, b, k, _, _, h => h
  | (i0, c0) :: p, q, cap, rows, S, i, c, b, k, ho, hs, h => by
    obtain ⟨b0, row, rows1, q1, n1, cap1, g1, g2, g3, g4, g5⟩ := h
    have hgc : getC rows [] i0 c0 = some (.sl true rows1) := by simp only [getC, getP, Option.bind_some, g2, g3]
    obtain ⟨b', k', cur, e, u, S1, S2, l1, l2, l3, l4, l5, l6, l7, _⟩ := OwS.lens [] ho hgc
    obtain ⟨e1, row', e2, e3, e4⟩ := l1
    rw [g1] at e1
    simp only [Option.some.injEq, Addr.mk.injEq, and_true] at e1
    subst e1
    rw [g2] at e2; cases e2
    have hc : w.cell? ⟨b0, i0 * row.length + c0, none⟩ = some u := by rw [cell_row l2, ← e4]; exact l3
    rw [hc] at g4
    simp only [Option.some.injEq] at g4
    subst g4
    obtain ⟨q2, cap2, he, hs1⟩ := OwC_sl.1 l5
    injection he with e5 e6 e7
    subst e5
    refine ⟨b0, row, rows1, q1, n1, cap1, g1, g2, g3, by rw [cell_same (hs b0 (l6.right l7))]; exact hc, ?_⟩
    exact LocAt.same (S := S1) p hs1 (fun x hx => hs x (l6.left hx)) g5

end
end TT
