import Derived.Test.YtknfhlnfombmgaaDoorTA
set_option linter.unusedVariables false
set_option linter.unusedSimpArgs false
namespace TT
open Go

abbrev Path := List (Nat × Nat)

def getP : Rows → Path → Option Rows
  | rows, [] => some rows
  | rows, (i, c) :: p => match rows[i]?.bind (·[c]?) with
    | some (.sl true rows') => getP rows' p
    | _ => none

/-- The cell at row i, place c of the slice at path p. -/
def getC (rows : Rows) (p : Path) (i c : Nat) : Option T := (getP rows p).bind fun rs => rs[i]?.bind (·[c]?)

def setRC (rows : Rows) (i c : Nat) (t : T) : Rows := match rows[i]? with
  | some row => rows.set i (row.set c t)
  | none => rows

def setC : Rows → Path → Nat → Nat → T → Rows
  | rows, [], i, c, t => setRC rows i c t
  | rows, (i0, c0) :: p, i, c, t => match rows[i0]?.bind (·[c0]?) with
    | some (.sl true rows') => setRC rows i0 c0 (.sl true (setC rows' p i c t))
    | _ => rows

theorem setRC_length (rows : Rows) (i c : Nat) (t : T) : (setRC rows i c t).length = rows.length := by
  simp only [setRC]; split <;> simp
theorem setC_length (rows : Rows) (p : Path) (i c : Nat) (t : T) : (setC rows p i c t).length = rows.length := by
  cases p with
  | nil => exact setRC_length ..
  | cons ic p =>
    obtain ⟨i1, c1⟩ := ic
    simp only [setC]
    split
    · exact setRC_length ..
    · rfl

/-- Where in the heap a place lies. -/
def LocAt (w : World) : Option Addr → Rows → Path → Nat → Nat → Nat → Nat → Prop
  | q, rows, [], i, c, b, k => q = some ⟨b, 0, none⟩ ∧ ∃ row, rows[i]? = some row ∧ c < row.length ∧ k = i * row.length + c
  | q, rows, (i0, c0) :: p, i, c, b, k => ∃ b0 row rows1 q1 n1 cap1, q = some ⟨b0, 0, none⟩ ∧ rows[i0]? = some row ∧ row[c0]? = some (.sl true rows1) ∧
      w.cell? ⟨b0, i0 * row.length + c0, none⟩ = some (.slice q1 n1 cap1) ∧ LocAt w q1 rows1 p i c b k

theorem Split.assoc {S A C D E : Nat → Prop} (h : Split S A C) (h' : Split A D E) : ∃ F, Split S D F ∧ Split F E C := by
  refine ⟨fun b => E b ∨ C b, ⟨fun b => ?_, fun b hd he => ?_⟩, ⟨fun b => Iff.rfl, fun b he hc => h.2 b (h'.right he) hc⟩⟩
  · rw [h.1, h'.1]; exact or_assoc
  · rcases he with he | hc
    · exact h'.2 b hd he
    · exact h.2 b (h'.left hd) hc

theorem Split.congr {S A C C' : Nat → Prop} (h : Split S A C) (hc : ∀ x, C x ↔ C' x) : Split S A C' :=
  ⟨fun b => (h.1 b).trans (or_congr Iff.rfl (hc b)), fun b ha hb => h.2 b ha ((hc b).2 hb)⟩

theorem Split.put {A F D C : Nat → Prop} (h : Split F D C) (hd : ∀ x, A x → ¬ F x) : Split (fun x => A x ∨ F x) (fun x => A x ∨ D x) C := by
  refine ⟨fun x => ?_, fun x hx hx' => ?_⟩
  · show (A x ∨ F x) ↔ ((A x ∨ D x) ∨ C x)
    rw [h.1]; exact or_assoc.symm
  · rcases hx with h1 | h1
    · exact hd x h1 (h.right hx')
    · exact h.2 x h1 hx'

theorem OwR.lens {w : World} {B : Nat → Prop} {b : Nat} : ∀ {ts : List T} {o c : Nat} {S : Nat → Prop} {t : T}, OwR w B b o ts S → ts[c]? = some t →
    ∃ u S1 S2, w.cell? ⟨b, o + c, none⟩ = some u ∧ u.oneCell' = true ∧ OwC w B t u S1 ∧ Split S S1 S2 ∧
      ∀ (w' : World) (B' : Nat → Prop) (t' : T) (u' : Value) (S1' : Nat → Prop), (∀ b, B b → B' b) → Same B w w' → Same S2 w w' →
        (∀ x, o ≤ x → x ≠ o + c → w'.cell? ⟨b, x, none⟩ = w.cell? ⟨b, x, none⟩) → w'.cell? ⟨b, o + c, none⟩ = some u' → u'.oneCell' = true →
        OwC w' B' t' u' S1' → (∀ x, S1' x → ¬ S2 x) → OwR w' B' b o (ts.set c t') (fun x => S1' x ∨ S2 x)
  | [], o, c, S, t, _, hc => by simp at hc
  | t0 :: ts, o, 0, S, t, hh, hc => by
    simp only [OwR] at hh
    obtain ⟨u, S1, S2, h1, h0, h2, h3, h4⟩ := hh
    simp at hc
    subst hc
    refine ⟨u, S1, S2, h1, h0, h2, h4, ?_⟩
    intro w' B' t' u' S1' hB hs hs2 hcell hu h1c hn hd
    simp only [List.set_cons_zero, OwR]
    refine ⟨u', S1', S2, hu, h1c, hn, ?_, Split.mk' hd⟩
    exact OwR.same hB hs (fun x hx => hcell x (by omega) (by omega)) hs2 h3
  | t0 :: ts, o, c + 1, S, t, hh, hc => by
    simp only [OwR] at hh
    obtain ⟨u0, S0, Sr, h1, h0, h2, h3, h4⟩ := hh
    simp at hc
    obtain ⟨u, S1, S2, g1, g0, g2, g3, g4⟩ := OwR.lens h3 hc
    have he : o + 1 + c = o + (c + 1) := by omega
    rw [he] at g1 g4
    obtain ⟨F, f1, f2⟩ := Split.assoc h4.comm g3
    refine ⟨u, S1, F, g1, g0, g2, f1, ?_⟩
    intro w' B' t' u' S1' hB hs hs2 hcell hu h1c hn hd
    simp only [List.set_cons_succ, OwR]
    refine ⟨u0, S0, _, by rw [hcell o (Nat.le_refl _) (by omega)]; exact h1, h0, OwC.same hB hs (fun x hx => hs2 x (f2.right hx)) h2,
      g4 w' B' t' u' S1' hB hs (fun x hx => hs2 x (f2.left hx)) (fun x hx hne => hcell x (by omega) hne) hu h1c hn (fun x hx hx' => hd x hx (f2.left hx')), ?_⟩
    exact (Split.put f2 hd).comm

theorem OwR.cells {w : World} {B : Nat → Prop} {b : Nat} {ts : List T} {o : Nat} {S : Nat → Prop} (h : OwR w B b o ts S) {c : Nat} (hc : c < ts.length) : ∃ u, w.cell? ⟨b, o + c, none⟩ = some u := by
  obtain ⟨u, _, _, h1, _⟩ := h.lens (c := c) (t := ts[c]) (by simp [hc])
  exact ⟨u, h1⟩

theorem OwRs.lens {w : World} {B : Nat → Prop} {b sz : Nat} : ∀ {rs : Rows} {o i c : Nat} {S : Nat → Prop} {row : List T} {t : T}, OwRs w B b o sz rs S → rs[i]? = some row → row[c]? = some t →
    row.length = sz ∧ ∃ u S1 S2, w.cell? ⟨b, o + (i * sz + c), none⟩ = some u ∧ u.oneCell' = true ∧ OwC w B t u S1 ∧ Split S S1 S2 ∧
      ∀ (w' : World) (B' : Nat → Prop) (t' : T) (u' : Value) (S1' : Nat → Prop), (∀ b, B b → B' b) → Same B w w' → Same S2 w w' →
        (∀ x, o ≤ x → x ≠ o + (i * sz + c) → w'.cell? ⟨b, x, none⟩ = w.cell? ⟨b, x, none⟩) → w'.cell? ⟨b, o + (i * sz + c), none⟩ = some u' → u'.oneCell' = true →
        OwC w' B' t' u' S1' → (∀ x, S1' x → ¬ S2 x) → OwRs w' B' b o sz (rs.set i (row.set c t')) (fun x => S1' x ∨ S2 x)
  | [], o, i, c, S, row, t, _, hr, _ => by simp at hr
  | r0 :: rs, o, 0, c, S, row, t, hh, hr, hc => by
    simp only [OwRs] at hh
    obtain ⟨Sa, Sb, h0, h1, h2, h3⟩ := hh
    simp at hr
    subst hr
    obtain ⟨u, S1, S2, g1, g0, g2, g3, g4⟩ := h1.lens hc
    obtain ⟨F, f1, f2⟩ := Split.assoc h3 g3
    simp only [Nat.zero_mul, Nat.zero_add]
    have hlt : c < r0.length := (List.getElem?_eq_some_iff.1 hc).1
    refine ⟨h0, u, S1, F, g1, g0, g2, f1, ?_⟩
    intro w' B' t' u' S1' hB hs hs2 hcell hu h1c hn hd
    simp only [List.set_cons_zero, OwRs]
    refine ⟨_, Sb, by simpa using h0, g4 w' B' t' u' S1' hB hs (fun x hx => hs2 x (f2.left hx)) hcell hu h1c hn (fun x hx hx' => hd x hx (f2.left hx')),
      OwRs.same hB hs (fun x hx => hcell x (by omega) (by omega)) (fun x hx => hs2 x (f2.right hx)) h2, ?_⟩
    exact Split.put f2 hd
  | r0 :: rs, o, i + 1, c, S, row, t, hh, hr, hc => by
    simp only [OwRs] at hh
    obtain ⟨Sa, Sb, h0, h1, h2, h3⟩ := hh
    simp at hr
    obtain ⟨hl, u, S1, S2, g1, g0, g2, g3, g4⟩ := OwRs.lens h2 hr hc
    have he : o + sz + (i * sz + c) = o + ((i + 1) * sz + c) := by rw [Nat.add_mul]; omega
    rw [he] at g1 g4
    obtain ⟨F, f1, f2⟩ := Split.assoc h3.comm g3
    refine ⟨hl, u, S1, F, g1, g0, g2, f1, ?_⟩
    intro w' B' t' u' S1' hB hs hs2 hcell hu h1c hn hd
    have hge : o + sz ≤ o + ((i + 1) * sz + c) := by rw [Nat.add_mul]; omega
    simp only [List.set_cons_succ, OwRs]
    refine ⟨Sa, _, h0, OwR.same hB hs (fun x hx => hcell x hx.1 (by omega)) (fun x hx => hs2 x (f2.right hx)) h1,
      g4 w' B' t' u' S1' hB hs (fun x hx => hs2 x (f2.left hx)) (fun x hx hne => hcell x (by omega) hne) hu h1c hn (fun x hx hx' => hd x hx (f2.left hx')), ?_⟩
    exact (Split.put f2 hd).comm

theorem cell_row {w : World} {b k : Nat} {cur : Array Value} {e : TypeId} {f : Nat × Nat} (h : w.heap[b]? = some (.cells cur e f)) : w.cell? ⟨b, k, none⟩ = cur[k]? := by
  simp [World.cell?, h]

/-- One cell of an owned slice, wherever below it: what it is, whose it is, and how it is put back. -/
theorem OwS.lens {w : World} {B : Nat → Prop} : ∀ (p : Path) {q : Option Addr} {cap : Nat} {rows : Rows} {S : Nat → Prop} {i c : Nat} {t : T}, OwS w B q cap rows S → getC rows p i c = some t →
    ∃ b k cur e u S1 S2, LocAt w q rows p i c b k ∧ w.heap[b]? = some (.cells cur e (0, 0)) ∧ cur[k]? = some u ∧ u.oneCell' = true ∧ OwC w B t u S1 ∧ Split S S1 S2 ∧ S2 b ∧
      ∀ (w' : World) (B' : Nat → Prop) (t' : T) (u' : Value) (S1' : Nat → Prop), (∀ b, B b → B' b) → Same B w w' → (∀ x, S2 x → x ≠ b → w'.heap[x]? = w.heap[x]?) →
        w'.heap[b]? = some (.cells (cur.setIfInBounds k u') e (0, 0)) → u'.oneCell' = true →
        OwC w' B' t' u' S1' → (∀ x, S1' x → ¬ S2 x) → OwS w' B' q cap (setC rows p i c t') (fun x => S1' x ∨ S2 x)
  | [], q, cap, rows, S, i, c, t, hh, hg => by
    simp only [getC, getP, Option.bind_some] at hg
    obtain ⟨row, hr, hc⟩ := Option.bind_eq_some_iff.1 hg
    rcases hh with ⟨_, _, h, _⟩ | ⟨b, sz, e, cur, S', h3, h4, h5, h6, h7, h8, h9, h10⟩
    · subst h; simp at hr
    · obtain ⟨hl, u, S1, S2, g1, g0, g2, g3, g4⟩ := h10.lens hr hc
      obtain ⟨F, f1, f2⟩ := Split.assoc h9.comm g3
      have hlt : c < row.length := (List.getElem?_eq_some_iff.1 hc).1
      simp only [Nat.zero_add] at g1 g4
      have hcu : cur[i * sz + c]? = some u := by rw [← g1, cell_row h4]
      refine ⟨b, i * sz + c, cur, e, u, S1, F, ⟨h3, row, hr, hlt, by rw [hl]⟩, h4, hcu, g0, g2, f1, f2.right rfl, ?_⟩
      intro w' B' t' u' S1' hB hs hs2 hb hu1 hn hd
      have hk : i * sz + c < cur.size := by
        rcases Nat.lt_or_ge (i * sz + c) cur.size with h | h
        · exact h
        · simp [Array.getElem?_eq_none h] at hcu
      have hnb : ∀ x, S2 x → x ≠ b := fun x hx e => f2.2 x hx (by simpa using e)
      have hw := g4 w' B' t' u' S1' hB hs (fun x hx => hs2 x (f2.left hx) (hnb x hx))
        (fun x _ hne => by rw [cell_row hb, cell_row h4, Array.getElem?_setIfInBounds_ne (Ne.symm hne)])
        (by rw [cell_row hb]; simp [hk]) hu1 hn (fun x hx hx' => hd x hx (f2.left hx'))
      refine .inr ⟨b, sz, e, cur.setIfInBounds (i * sz + c) u', fun x => S1' x ∨ S2 x, h3, hb, ?_, h6, by simpa using h7, h8, ?_, ?_⟩
      · simp only [setC, setRC, hr]
        exact ⟨by simpa using h5.1, fun h => h5.2 (List.length_eq_zero_iff.1 (by have := congrArg List.length h; simpa using this))⟩
      · exact (Split.put f2 hd).comm
      · simp only [setC, setRC, hr]; exact hw
  | (i0, c0) :: p, q, cap, rows, S, i, c, t, hh, hg => by
    simp only [getC, getP] at hg
    cases hrc : rows[i0]?.bind (·[c0]?) with
    | none => simp [hrc] at hg
    | some t0 =>
      cases t0 with
      | v x => simp [hrc] at hg
      | hole => simp [hrc] at hg
      | sl own rows1 =>
        cases own with
        | false => simp [hrc] at hg
        | true =>
          simp only [hrc] at hg
          obtain ⟨row, hr, hc⟩ := Option.bind_eq_some_iff.1 hrc
          rcases hh with ⟨_, _, h, _⟩ | ⟨b0, sz, e0, cur0, S', h3, h4, h5, h6, h7, h8, h9, h10⟩
          · subst h; simp at hr
          · obtain ⟨hl, u0, T1, T2, g1, g0, g2, g3, g4⟩ := h10.lens hr hc
            simp only [Nat.zero_add] at g1 g4
            obtain ⟨q1, cap1, hu0, hs1⟩ := OwC_sl.1 g2
            obtain ⟨b, k, cur, e, u, S1, S2, l1, l2, l3, l4, l5, l6, l7, l8⟩ := OwS.lens p hs1 hg
            obtain ⟨F, f1, f2⟩ := Split.assoc h9.comm g3
            obtain ⟨G, k1, k2⟩ := Split.assoc f1 l6
            have hlt : c0 < row.length := (List.getElem?_eq_some_iff.1 hc).1
            refine ⟨b, k, cur, e, u, S1, G, ⟨b0, row, rows1, q1, rows1.length, cap1, h3, hr, hc, by rw [hl, g1, hu0], l1⟩, l2, l3, l4, l5, k1, k2.left l7, ?_⟩
            intro w' B' t' u' S1' hB hs hs2 hb hu1 hn hd
            have hb0 : b0 ≠ b := fun e => by
              subst e
              exact f1.2 b0 (l6.right l7) (f2.right rfl)
            have hF0 : ∀ x, F x → x ≠ b := fun x hx e => by subst e; exact f1.2 x (l6.right l7) hx
            have hw0 : w'.heap[b0]? = w.heap[b0]? := hs2 b0 (k2.right (f2.right rfl)) hb0
            have sub := l8 w' B' t' u' S1' hB hs (fun x hx hne => hs2 x (k2.left hx) hne) hb hu1 hn (fun x hx hx' => hd x hx (k2.left hx'))
            have hlen : (setC rows1 p i c t').length = rows1.length := by
              cases p with
              | nil => simp only [setC, setRC]; split <;> simp
              | cons ic p =>
                obtain ⟨i1, c1⟩ := ic
                simp only [setC, setRC]
                split
                · split <;> simp
                · rfl
            have hn0 : OwC w' B' (.sl true (setC rows1 p i c t')) u0 (fun x => S1' x ∨ S2 x) := OwC_sl.2 ⟨q1, cap1, by rw [hlen]; exact hu0, sub⟩
            have hd0 : ∀ x, (S1' x ∨ S2 x) → ¬ T2 x := fun x hx hx' => by
              rcases hx with h | h
              · exact hd x h (k2.right (f2.left hx'))
              · exact f1.2 x (l6.right h) (f2.left hx')
            have hw := g4 w' B' (.sl true (setC rows1 p i c t')) u0 _ hB hs (fun x hx => hs2 x (k2.right (f2.left hx)) (hF0 x (f2.left hx)))
              (fun x _ _ => cell_same hw0 x) (by rw [cell_same hw0]; exact g1) g0 hn0 hd0
            refine .inr ⟨b0, sz, e0, cur0, fun x => (S1' x ∨ S2 x) ∨ T2 x, h3, by rw [hw0]; exact h4, ?_, h6, h7, h8, ?_, ?_⟩
            · exact ⟨by rw [setC_length]; exact h5.1, fun h => h5.2 (List.length_eq_zero_iff.1 (by have := congrArg List.length h; simpa [setC_length] using this))⟩
            · obtain ⟨H, m1, m2⟩ := Split.assoc (Split.put k2 hd).comm f2.comm
              exact m1.congr fun x => (m2.1 x).trans Or.comm
            · have he : setC rows ((i0, c0) :: p) i c t' = rows.set i0 (row.set c0 (.sl true (setC rows1 p i c t'))) := by
                simp only [setC, hrc, setRC]; rw [hr]
              rw [he]; exact hw

end TT
