import Derived.Laws.AppendOwn
import Derived.Below
set_option linter.unusedVariables false
set_option linter.unusedSimpArgs false
namespace TT
open Go

/-- Data trees: a cell's content. A slice is a list of rows, each row the cells of one element. -/
inductive T where
  | v (x : Value)
  | sl (own : Bool) (rows : List (List T))
  | hole
  deriving Inhabited

abbrev Rows := List (List T)

/-- S is the disjoint union of A and C. -/
def Split (S A C : Nat → Prop) : Prop := (∀ b, S b ↔ (A b ∨ C b)) ∧ ∀ b, A b → ¬ C b
def Emp (S : Nat → Prop) : Prop := ∀ b, ¬ S b

theorem Split.comm {S A C : Nat → Prop} (h : Split S A C) : Split S C A := ⟨fun b => (h.1 b).trans Or.comm, fun b hc ha => h.2 b ha hc⟩
theorem Split.left {S A C : Nat → Prop} (h : Split S A C) {b : Nat} (hb : A b) : S b := (h.1 b).2 (.inl hb)
theorem Split.right {S A C : Nat → Prop} (h : Split S A C) {b : Nat} (hb : C b) : S b := (h.1 b).2 (.inr hb)
theorem Split.of_emp_left {S A : Nat → Prop} (h : Emp A) : Split S A S := ⟨fun b => ⟨.inr, fun h' => h'.resolve_left (h b)⟩, fun b ha => absurd ha (h b)⟩
theorem Split.mk' {A C : Nat → Prop} (h : ∀ b, A b → ¬ C b) : Split (fun b => A b ∨ C b) A C := ⟨fun _ => Iff.rfl, h⟩

mutual
/-- In world w, with all memory in the blocks of B, value u shows the (shared) content. -/
def ShC (w : World) (B : Nat → Prop) : T → Value → Prop
  | .v x, u => u = x
  | .sl true _, _ => False
  | .sl false rows, u => ∃ q cap, u = .slice q rows.length cap ∧ rows.length ≤ cap ∧ cap ≤ maxLen ∧ (rows = [] ∨ ∃ b o sz, q = some ⟨b, o, none⟩ ∧ B b ∧ 0 < sz ∧ ShRs w B b o sz rows)
  | .hole, _ => True
def ShR (w : World) (B : Nat → Prop) (b o : Nat) : List T → Prop
  | [] => True
  | t :: ts => (∃ u, w.cell? ⟨b, o, none⟩ = some u ∧ u.oneCell' = true ∧ ShC w B t u) ∧ ShR w B b (o + 1) ts
def ShRs (w : World) (B : Nat → Prop) (b o sz : Nat) : List (List T) → Prop
  | [] => True
  | r :: rs => r.length = sz ∧ ShR w B b o r ∧ ShRs w B b (o + sz) sz rs
end

mutual
/-- Value u shows the content and owns, through it, just the blocks of S. -/
def OwC (w : World) (B : Nat → Prop) : T → Value → (Nat → Prop) → Prop
  | .v x, u, S => u = x ∧ Emp S
  | .sl false rows, u, S => ShC w B (.sl false rows) u ∧ Emp S
  | .sl true rows, u, S => ∃ q cap, u = .slice q rows.length cap ∧
      ((q = none ∧ cap = 0 ∧ rows = [] ∧ Emp S) ∨
       ∃ b sz e cur S', q = some ⟨b, 0, none⟩ ∧ w.heap[b]? = some (.cells cur e (0, 0)) ∧ (rows.length ≤ cap ∧ (rows = [] → cap = 0)) ∧ cap ≤ maxLen ∧ cur.size = cap * sz ∧ 0 < sz ∧
         Split S (· = b) S' ∧ OwRs w B b 0 sz rows S')
  | .hole, _, S => Emp S
def OwR (w : World) (B : Nat → Prop) (b o : Nat) : List T → (Nat → Prop) → Prop
  | [], S => Emp S
  | t :: ts, S => ∃ u S1 S2, w.cell? ⟨b, o, none⟩ = some u ∧ u.oneCell' = true ∧ OwC w B t u S1 ∧ OwR w B b (o + 1) ts S2 ∧ Split S S1 S2
def OwRs (w : World) (B : Nat → Prop) (b o sz : Nat) : List (List T) → (Nat → Prop) → Prop
  | [], S => Emp S
  | r :: rs, S => ∃ S1 S2, r.length = sz ∧ OwR w B b o r S1 ∧ OwRs w B b (o + sz) sz rs S2 ∧ Split S S1 S2
end

/-- An owned slice by its header: array's address, capacity. -/
def OwS (w : World) (B : Nat → Prop) (q : Option Addr) (cap : Nat) (rows : Rows) (S : Nat → Prop) : Prop :=
  (q = none ∧ cap = 0 ∧ rows = [] ∧ Emp S) ∨
  ∃ b sz e cur S', q = some ⟨b, 0, none⟩ ∧ w.heap[b]? = some (.cells cur e (0, 0)) ∧ (rows.length ≤ cap ∧ (rows = [] → cap = 0)) ∧ cap ≤ maxLen ∧ cur.size = cap * sz ∧ 0 < sz ∧
    Split S (· = b) S' ∧ OwRs w B b 0 sz rows S'

theorem OwC_sl {w : World} {B : Nat → Prop} {rows : Rows} {u : Value} {S : Nat → Prop} :
    OwC w B (.sl true rows) u S ↔ ∃ q cap, u = .slice q rows.length cap ∧ OwS w B q cap rows S := by
  simp only [OwC, OwS]

/-! ### Where the world turns elsewhere -/

def Same (D : Nat → Prop) (w w' : World) : Prop := ∀ b, D b → w'.heap[b]? = w.heap[b]?

theorem cell_same {w w' : World} {b : Nat} (h : w'.heap[b]? = w.heap[b]?) (o : Nat) : w'.cell? ⟨b, o, none⟩ = w.cell? ⟨b, o, none⟩ := by
  simp [World.cell?, h]

mutual
theorem ShC.same {w w' : World} {B B' : Nat → Prop} (hB : ∀ b, B b → B' b) (h : Same B w w') : ∀ {t : T} {u : Value}, ShC w B t u → ShC w' B' t u
  | .v x, u, hh => by simpa [ShC] using hh
  | .sl true rows, u, hh => by simp only [ShC] at hh
  | .sl false rows, u, hh => by
    simp only [ShC] at hh ⊢
    obtain ⟨q, cap, h1, h2, h3, h4⟩ := hh
    refine ⟨q, cap, h1, h2, h3, ?_⟩
    rcases h4 with h4 | ⟨b, o, sz, h5, h6, h7, h8⟩
    · exact .inl h4
    · exact .inr ⟨b, o, sz, h5, hB b h6, h7, ShRs.same hB h h6 h8⟩
  | .hole, u, hh => by simp [ShC]
theorem ShR.same {w w' : World} {B B' : Nat → Prop} (hB : ∀ b, B b → B' b) (h : Same B w w') : ∀ {b o : Nat} {ts : List T}, B b → ShR w B b o ts → ShR w' B' b o ts
  | b, o, [], _, hh => by simp [ShR]
  | b, o, t :: ts, hb, hh => by
    simp only [ShR] at hh ⊢
    obtain ⟨⟨u, h1, h0, h2⟩, h3⟩ := hh
    exact ⟨⟨u, by rw [cell_same (h b hb)]; exact h1, h0, ShC.same hB h h2⟩, ShR.same hB h hb h3⟩
theorem ShRs.same {w w' : World} {B B' : Nat → Prop} (hB : ∀ b, B b → B' b) (h : Same B w w') : ∀ {b o sz : Nat} {rs : List (List T)}, B b → ShRs w B b o sz rs → ShRs w' B' b o sz rs
  | b, o, sz, [], _, hh => by simp [ShRs]
  | b, o, sz, r :: rs, hb, hh => by
    simp only [ShRs] at hh ⊢
    exact ⟨hh.1, ShR.same hB h hb hh.2.1, ShRs.same hB h hb hh.2.2⟩
end

mutual
theorem OwC.same {w w' : World} {B B' : Nat → Prop} (hB : ∀ b, B b → B' b) (h : Same B w w') : ∀ {t : T} {u : Value} {S : Nat → Prop}, Same S w w' → OwC w B t u S → OwC w' B' t u S
  | .v x, u, S, _, hh => by simpa [OwC] using hh
  | .sl false rows, u, S, _, hh => by
    simp only [OwC] at hh ⊢
    exact ⟨ShC.same hB h hh.1, hh.2⟩
  | .sl true rows, u, S, hS, hh => by
    simp only [OwC] at hh ⊢
    obtain ⟨q, cap, h1, h2⟩ := hh
    refine ⟨q, cap, h1, ?_⟩
    rcases h2 with h2 | ⟨b, sz, e, cur, S', h3, h4, h5, h6, h7, h8, h9, h10⟩
    · exact .inl h2
    · refine .inr ⟨b, sz, e, cur, S', h3, ?_, h5, h6, h7, h8, h9, ?_⟩
      · rw [hS b (h9.left rfl)]; exact h4
      · exact OwRs.same hB h (fun o _ => cell_same (hS b (h9.left rfl)) o) (fun x hx => hS x (h9.right hx)) h10
  | .hole, u, S, _, hh => by simpa [OwC] using hh
theorem OwR.same {w w' : World} {B B' : Nat → Prop} (hB : ∀ b, B b → B' b) (h : Same B w w') : ∀ {b o : Nat} {ts : List T} {S : Nat → Prop},
    (∀ x, o ≤ x ∧ x < o + ts.length → w'.cell? ⟨b, x, none⟩ = w.cell? ⟨b, x, none⟩) → Same S w w' → OwR w B b o ts S → OwR w' B' b o ts S
  | b, o, [], S, _, _, hh => by simpa [OwR] using hh
  | b, o, t :: ts, S, hc, hS, hh => by
    simp only [OwR] at hh ⊢
    obtain ⟨u, S1, S2, h1, h0, h2, h3, h4⟩ := hh
    refine ⟨u, S1, S2, by rw [hc o ⟨Nat.le_refl _, by simp⟩]; exact h1, h0, OwC.same hB h (fun x hx => hS x (h4.left hx)) h2, ?_, h4⟩
    exact OwR.same hB h (fun x hx => hc x ⟨by omega, by simp at hx ⊢; omega⟩) (fun x hx => hS x (h4.right hx)) h3
theorem OwRs.same {w w' : World} {B B' : Nat → Prop} (hB : ∀ b, B b → B' b) (h : Same B w w') : ∀ {b o sz : Nat} {rs : List (List T)} {S : Nat → Prop},
    (∀ x, o ≤ x → w'.cell? ⟨b, x, none⟩ = w.cell? ⟨b, x, none⟩) → Same S w w' → OwRs w B b o sz rs S → OwRs w' B' b o sz rs S
  | b, o, sz, [], S, _, _, hh => by simpa [OwRs] using hh
  | b, o, sz, r :: rs, S, hc, hS, hh => by
    simp only [OwRs] at hh ⊢
    obtain ⟨S1, S2, h0, h1, h2, h3⟩ := hh
    exact ⟨S1, S2, h0, OwR.same hB h (fun x hx => hc x hx.1) (fun x hx => hS x (h3.left hx)) h1,
      OwRs.same hB h (fun x hx => hc x (by omega)) (fun x hx => hS x (h3.right hx)) h2, h3⟩
end

theorem OwS.same {w w' : World} {B B' : Nat → Prop} (hB : ∀ b, B b → B' b) (h : Same B w w') {q : Option Addr} {cap : Nat} {rows : Rows} {S : Nat → Prop} (hS : Same S w w') (hh : OwS w B q cap rows S) : OwS w' B' q cap rows S := by
  have h1 : OwC w B (.sl true rows) (.slice q rows.length cap) S := OwC_sl.2 ⟨q, cap, rfl, hh⟩
  obtain ⟨q', cap', he, h2⟩ := OwC_sl.1 (OwC.same hB h hS h1)
  injection he with e1 e2 e3
  subst e1; subst e3
  exact h2

/-- All that is owned lies in the heap. -/
def InHeap (w : World) (S : Nat → Prop) : Prop := ∀ b, S b → b < w.heap.size

theorem lt_of_heap {w : World} {b : Nat} {o : Obj} (h : w.heap[b]? = some o) : b < w.heap.size := (Array.getElem?_eq_some_iff.1 h).1

mutual
theorem OwC.inHeap {w : World} {B : Nat → Prop} : ∀ {t : T} {u : Value} {S : Nat → Prop}, OwC w B t u S → InHeap w S
  | .v x, u, S, hh => by simp only [OwC] at hh; exact fun b hb => absurd hb (hh.2 b)
  | .sl false rows, u, S, hh => by simp only [OwC] at hh; exact fun b hb => absurd hb (hh.2 b)
  | .sl true rows, u, S, hh => by
    simp only [OwC] at hh
    obtain ⟨q, cap, h1, h2⟩ := hh
    rcases h2 with h2 | ⟨b, sz, e, cur, S', h3, h4, h5, h6, h7, h8, h9, h10⟩
    · exact fun b hb => absurd hb (h2.2.2.2 b)
    · intro x hx
      rcases (h9.1 x).1 hx with rfl | hx'
      · exact lt_of_heap h4
      · exact OwRs.inHeap h10 x hx'
  | .hole, u, S, hh => by simp only [OwC] at hh; exact fun b hb => absurd hb (hh b)
theorem OwR.inHeap {w : World} {B : Nat → Prop} : ∀ {b o : Nat} {ts : List T} {S : Nat → Prop}, OwR w B b o ts S → InHeap w S
  | b, o, [], S, hh => by simp only [OwR] at hh; exact fun b hb => absurd hb (hh b)
  | b, o, t :: ts, S, hh => by
    simp only [OwR] at hh
    obtain ⟨u, S1, S2, h1, h0, h2, h3, h4⟩ := hh
    intro x hx
    rcases (h4.1 x).1 hx with h | h
    · exact OwC.inHeap h2 x h
    · exact OwR.inHeap h3 x h
theorem OwRs.inHeap {w : World} {B : Nat → Prop} : ∀ {b o sz : Nat} {rs : List (List T)} {S : Nat → Prop}, OwRs w B b o sz rs S → InHeap w S
  | b, o, sz, [], S, hh => by simp only [OwRs] at hh; exact fun b hb => absurd hb (hh b)
  | b, o, sz, r :: rs, S, hh => by
    simp only [OwRs] at hh
    obtain ⟨S1, S2, h0, h1, h2, h3⟩ := hh
    intro x hx
    rcases (h3.1 x).1 hx with h | h
    · exact OwR.inHeap h1 x h
    · exact OwRs.inHeap h2 x h
end

/-! ### Frozen: what is owned read as shared -/

mutual
def frz : T → T
  | .v x => .v x
  | .sl _ rows => .sl false (frzRs rows)
  | .hole => .hole
def frzR : List T → List T
  | [] => []
  | t :: ts => frz t :: frzR ts
def frzRs : List (List T) → List (List T)
  | [] => []
  | r :: rs => frzR r :: frzRs rs
end

theorem frzR_eq (ts : List T) : frzR ts = ts.map frz := by
  induction ts with
  | nil => rfl
  | cons t ts ih => simp [frzR, ih]
theorem frzRs_eq (rs : List (List T)) : frzRs rs = rs.map (·.map frz) := by
  induction rs with
  | nil => rfl
  | cons t ts ih => simp [frzRs, ih, frzR_eq]

mutual
theorem ShC.frz {w : World} {B : Nat → Prop} : ∀ {t : T} {u : Value}, ShC w B t u → ShC w B (TT.frz t) u
  | .v x, u, hh => by simpa [TT.frz, ShC] using hh
  | .sl true rows, u, hh => by simp only [ShC] at hh
  | .sl false rows, u, hh => by
    simp only [TT.frz, ShC] at hh ⊢
    obtain ⟨q, cap, h1, h2, h3, h4⟩ := hh
    have hl : (frzRs rows).length = rows.length := by simp [frzRs_eq]
    refine ⟨q, cap, by rw [hl]; exact h1, by rw [hl]; exact h2, h3, ?_⟩
    rcases h4 with h4 | ⟨b, o, sz, h5, h6, h7, h8⟩
    · exact .inl (by simp [h4, frzRs])
    · exact .inr ⟨b, o, sz, h5, h6, h7, ShRs.frz h8⟩
  | .hole, u, hh => by simp [TT.frz, ShC]
theorem ShR.frz {w : World} {B : Nat → Prop} : ∀ {b o : Nat} {ts : List T}, ShR w B b o ts → ShR w B b o (frzR ts)
  | b, o, [], hh => by simp [frzR, ShR]
  | b, o, t :: ts, hh => by
    simp only [frzR, ShR] at hh ⊢
    obtain ⟨⟨u, h1, h0, h2⟩, h3⟩ := hh
    exact ⟨⟨u, h1, h0, ShC.frz h2⟩, ShR.frz h3⟩
theorem ShRs.frz {w : World} {B : Nat → Prop} : ∀ {b o sz : Nat} {rs : List (List T)}, ShRs w B b o sz rs → ShRs w B b o sz (frzRs rs)
  | b, o, sz, [], hh => by simp [frzRs, ShRs]
  | b, o, sz, r :: rs, hh => by
    simp only [frzRs, ShRs] at hh ⊢
    exact ⟨by simp [frzR_eq, hh.1], ShR.frz hh.2.1, ShRs.frz hh.2.2⟩
end

mutual
theorem OwC.frz {w : World} {B B' : Nat → Prop} (hB : ∀ b, B b → B' b) : ∀ {t : T} {u : Value} {S : Nat → Prop}, (∀ b, S b → B' b) → OwC w B t u S → ShC w B' (TT.frz t) u
  | .v x, u, S, _, hh => by simp only [OwC] at hh; simpa [TT.frz, ShC] using hh.1
  | .sl false rows, u, S, _, hh => by
    simp only [OwC] at hh
    exact ShC.frz (ShC.same hB (fun _ _ => rfl) hh.1)
  | .sl true rows, u, S, hS, hh => by
    simp only [OwC] at hh
    simp only [TT.frz, ShC]
    obtain ⟨q, cap, h1, h2⟩ := hh
    have hl : (frzRs rows).length = rows.length := by simp [frzRs_eq]
    rcases h2 with ⟨h3, h4, h5, h6⟩ | ⟨b, sz, e, cur, S', h3, h4, h5, h6, h7, h8, h9, h10⟩
    · subst h5
      exact ⟨q, cap, h1, by simp [frzRs], by simp [h4], .inl (by simp [frzRs])⟩
    · refine ⟨q, cap, by rw [hl]; exact h1, by rw [hl]; exact h5.1, h6, .inr ⟨b, 0, sz, h3, hS b (h9.left rfl), h8, ?_⟩⟩
      exact OwRs.frz hB (fun x hx => hS x (h9.right hx)) h10
  | .hole, u, S, _, hh => by simp [TT.frz, ShC]
theorem OwR.frz {w : World} {B B' : Nat → Prop} (hB : ∀ b, B b → B' b) : ∀ {b o : Nat} {ts : List T} {S : Nat → Prop}, (∀ b, S b → B' b) → OwR w B b o ts S → ShR w B' b o (frzR ts)
  | b, o, [], S, _, hh => by simp [frzR, ShR]
  | b, o, t :: ts, S, hS, hh => by
    simp only [OwR] at hh
    simp only [frzR, ShR]
    obtain ⟨u, S1, S2, h1, h0, h2, h3, h4⟩ := hh
    exact ⟨⟨u, h1, h0, OwC.frz hB (fun x hx => hS x (h4.left hx)) h2⟩, OwR.frz hB (fun x hx => hS x (h4.right hx)) h3⟩
theorem OwRs.frz {w : World} {B B' : Nat → Prop} (hB : ∀ b, B b → B' b) : ∀ {b o sz : Nat} {rs : List (List T)} {S : Nat → Prop}, (∀ b, S b → B' b) → OwRs w B b o sz rs S → ShRs w B' b o sz (frzRs rs)
  | b, o, sz, [], S, _, hh => by simp [frzRs, ShRs]
  | b, o, sz, r :: rs, S, hS, hh => by
    simp only [OwRs] at hh
    simp only [frzRs, ShRs]
    obtain ⟨S1, S2, h0, h1, h2, h3⟩ := hh
    exact ⟨by simp [frzR_eq, h0], OwR.frz hB (fun x hx => hS x (h3.left hx)) h1, OwRs.frz hB (fun x hx => hS x (h3.right hx)) h2⟩
end

end TT
