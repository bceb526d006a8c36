import Derived.Laws.AppendOwn
import Derived.Below
set_option linter.unusedVariables false
set_option linter.unusedSimpArgs false
namespace TT
open Go
inductive T where
 | v (x : Value)
 | sl (own : Bool) (rows : List (List T))
 | hole
 deriving Inhabited
abbrev Rows := List (List T)
def Aa (S A C : Nat → Prop) : Prop := (∀ b, S b ↔ (A b ∨ C b)) ∧ ∀ b, A b → ¬ C b
def Emp (S : Nat → Prop) : Prop := ∀ b, ¬ S b
theorem Aa.comm {S A C : Nat → Prop} (h : Aa S A C) : Aa S C A := ⟨fun b => (h.1 b).trans Or.comm, fun b hc ha => h.2 b ha hc⟩
theorem Aa.left {S A C : Nat → Prop} (h : Aa S A C) {b : Nat} (hb : A b) : S b := (h.1 b).2 (.inl hb)
theorem Aa.right {S A C : Nat → Prop} (h : Aa S A C) {b : Nat} (hb : C b) : S b := (h.1 b).2 (.inr hb)
theorem Aa.of_emp_left {S A : Nat → Prop} (h : Emp A) : Aa S A S := ⟨fun b => ⟨.inr, fun h' => h'.resolve_left (h b)⟩, fun b ha => absurd ha (h b)⟩
theorem Aa.mk' {A C : Nat → Prop} (h : ∀ b, A b → ¬ C b) : Aa (fun b => A b ∨ C b) A C := ⟨fun _ => Iff.rfl, h⟩
mutual
def Dq (w : World) (B : Nat → Prop) : T → Value → Prop
 | .v x, u => u = x
 | .sl true _, _ => False
 | .sl false rows, u => ∃ q cap, u = .slice q rows.length cap ∧ rows.length ≤ cap ∧ cap ≤ maxLen ∧ (rows = [] ∨ ∃ b o sz, q = some ⟨b, o, none⟩ ∧ B b ∧ 0 < sz ∧ BV w B b o sz rows)
 | .hole, _ => True
def Jy (w : World) (B : Nat → Prop) (b o : Nat) : List T → Prop
 | [] => True
 | t :: ts => (∃ u, w.cell? ⟨b, o, none⟩ = some u ∧ u.oneCell' = true ∧ Dq w B t u) ∧ Jy w B b (o + 1) ts
def BV (w : World) (B : Nat → Prop) (b o sz : Nat) : List (List T) → Prop
 | [] => True
 | r :: rs => r.length = sz ∧ Jy w B b o r ∧ BV w B b (o + sz) sz rs
end
mutual
def Ep (w : World) (B : Nat → Prop) : T → Value → (Nat → Prop) → Prop
 | .v x, u, S => u = x ∧ Emp S
 | .sl false rows, u, S => Dq w B (.sl false rows) u ∧ Emp S
 | .sl true rows, u, S => ∃ q cap, u = .slice q rows.length cap ∧
   ((q = none ∧ cap = 0 ∧ rows = [] ∧ Emp S) ∨
    ∃ b sz e cur S', q = some ⟨b, 0, none⟩ ∧ w.heap[b]? = some (.cells cur e (0, 0)) ∧ (rows.length ≤ cap ∧ (rows = [] → cap = 0)) ∧ cap ≤ maxLen ∧ cur.size = cap * sz ∧ 0 < sz ∧
     Aa S (· = b) S' ∧ BX w B b 0 sz rows S')
 | .hole, _, S => Emp S
def IU (w : World) (B : Nat → Prop) (b o : Nat) : List T → (Nat → Prop) → Prop
 | [], S => Emp S
 | t :: ts, S => ∃ u S1 S2, w.cell? ⟨b, o, none⟩ = some u ∧ u.oneCell' = true ∧ Ep w B t u S1 ∧ IU w B b (o + 1) ts S2 ∧ Aa S S1 S2
def BX (w : World) (B : Nat → Prop) (b o sz : Nat) : List (List T) → (Nat → Prop) → Prop
 | [], S => Emp S
 | r :: rs, S => ∃ S1 S2, r.length = sz ∧ IU w B b o r S1 ∧ BX w B b (o + sz) sz rs S2 ∧ Aa S S1 S2
end
def FA (w : World) (B : Nat → Prop) (q : Option Addr) (cap : Nat) (rows : Rows) (S : Nat → Prop) : Prop :=
 (q = none ∧ cap = 0 ∧ rows = [] ∧ Emp S) ∨
 ∃ b sz e cur S', q = some ⟨b, 0, none⟩ ∧ w.heap[b]? = some (.cells cur e (0, 0)) ∧ (rows.length ≤ cap ∧ (rows = [] → cap = 0)) ∧ cap ≤ maxLen ∧ cur.size = cap * sz ∧ 0 < sz ∧
  Aa S (· = b) S' ∧ BX w B b 0 sz rows S'
theorem DP {w : World} {B : Nat → Prop} {rows : Rows} {u : Value} {S : Nat → Prop} :
  Ep w B (.sl true rows) u S ↔ ∃ q cap, u = .slice q rows.length cap ∧ FA w B q cap rows S := by
 simp only [Ep, FA]
def Dr (D : Nat → Prop) (w w' : World) : Prop := ∀ b, D b → w'.heap[b]? = w.heap[b]?
theorem Cz {w w' : World} {b : Nat} (h : w'.heap[b]? = w.heap[b]?) (o : Nat) : w'.cell? ⟨b, o, none⟩ = w.cell? ⟨b, o, none⟩ := by
 simp [World.cell?, h]
mutual
theorem Dq.same {w w' : World} {B B' : Nat → Prop} (hB : ∀ b, B b → B' b) (h : Dr B w w') : ∀ {t : T} {u : Value}, Dq w B t u → Dq w' B' t u
 | .v x, u, hh => by simpa [Dq] using hh
 | .sl true rows, u, hh => by simp only [Dq] at hh
 | .sl false rows, u, hh => by
  simp only [Dq] at hh ⊢
  obtain ⟨q, cap, h1, h2, h3, h4⟩ := hh
  refine ⟨q, cap, h1, h2, h3, ?_⟩
  rcases h4 with h4 | ⟨b, o, sz, h5, h6, h7, h8⟩
  ·exact .inl h4
  ·exact .inr ⟨b, o, sz, h5, hB b h6, h7, BV.same hB h h6 h8⟩
 | .hole, u, hh => by simp [Dq]
theorem Jy.same {w w' : World} {B B' : Nat → Prop} (hB : ∀ b, B b → B' b) (h : Dr B w w') : ∀ {b o : Nat} {ts : List T}, B b → Jy w B b o ts → Jy w' B' b o ts
 | b, o, [], _, hh => by simp [Jy]
 | b, o, t :: ts, hb, hh => by
  simp only [Jy] at hh ⊢
  obtain ⟨⟨u, h1, h0, h2⟩, h3⟩ := hh
  exact ⟨⟨u, by rw [Cz (h b hb)]; exact h1, h0, Dq.same hB h h2⟩, Jy.same hB h hb h3⟩
theorem BV.same {w w' : World} {B B' : Nat → Prop} (hB : ∀ b, B b → B' b) (h : Dr B w w') : ∀ {b o sz : Nat} {rs : List (List T)}, B b → BV w B b o sz rs → BV w' B' b o sz rs
 | b, o, sz, [], _, hh => by simp [BV]
 | b, o, sz, r :: rs, hb, hh => by
  simp only [BV] at hh ⊢
  exact ⟨hh.1, Jy.same hB h hb hh.2.1, BV.same hB h hb hh.2.2⟩
end
mutual
theorem Ep.same {w w' : World} {B B' : Nat → Prop} (hB : ∀ b, B b → B' b) (h : Dr B w w') : ∀ {t : T} {u : Value} {S : Nat → Prop}, Dr S w w' → Ep w B t u S → Ep w' B' t u S
 | .v x, u, S, _, hh => by simpa [Ep] using hh
 | .sl false rows, u, S, _, hh => by
  simp only [Ep] at hh ⊢
  exact ⟨Dq.same hB h hh.1, hh.2⟩
 | .sl true rows, u, S, hS, hh => by
  simp only [Ep] at hh ⊢
  obtain ⟨q, cap, h1, h2⟩ := hh
  refine ⟨q, cap, h1, ?_⟩
  rcases h2 with h2 | ⟨b, sz, e, cur, S', h3, h4, h5, h6, h7, h8, h9, h10⟩
  ·exact .inl h2
  ·refine .inr ⟨b, sz, e, cur, S', h3, ?_, h5, h6, h7, h8, h9, ?_⟩
   ·rw [hS b (h9.left rfl)]; exact h4
   ·exact BX.same hB h (fun o _ => Cz (hS b (h9.left rfl)) o) (fun x hx => hS x (h9.right hx)) h10
 | .hole, u, S, _, hh => by simpa [Ep] using hh
theorem IU.same {w w' : World} {B B' : Nat → Prop} (hB : ∀ b, B b → B' b) (h : Dr B w w') : ∀ {b o : Nat} {ts : List T} {S : Nat → Prop},
  (∀ x, o ≤ x ∧ x < o + ts.length → w'.cell? ⟨b, x, none⟩ = w.cell? ⟨b, x, none⟩) → Dr S w w' → IU w B b o ts S → IU w' B' b o ts S
 | b, o, [], S, _, _, hh => by simpa [IU] using hh
 | b, o, t :: ts, S, hc, hS, hh => by
  simp only [IU] at hh ⊢
  obtain ⟨u, S1, S2, h1, h0, h2, h3, h4⟩ := hh
  refine ⟨u, S1, S2, by rw [hc o ⟨Nat.le_refl _, by simp⟩]; exact h1, h0, Ep.same hB h (fun x hx => hS x (h4.left hx)) h2, ?_, h4⟩
  exact IU.same hB h (fun x hx => hc x ⟨by omega, by simp at hx ⊢; omega⟩) (fun x hx => hS x (h4.right hx)) h3
theorem BX.same {w w' : World} {B B' : Nat → Prop} (hB : ∀ b, B b → B' b) (h : Dr B w w') : ∀ {b o sz : Nat} {rs : List (List T)} {S : Nat → Prop},
  (∀ x, o ≤ x → w'.cell? ⟨b, x, none⟩ = w.cell? ⟨b, x, none⟩) → Dr S w w' → BX w B b o sz rs S → BX w' B' b o sz rs S
 | b, o, sz, [], S, _, _, hh => by simpa [BX] using hh
 | b, o, sz, r :: rs, S, hc, hS, hh => by
  simp only [BX] at hh ⊢
  obtain ⟨S1, S2, h0, h1, h2, h3⟩ := hh
  exact ⟨S1, S2, h0, IU.same hB h (fun x hx => hc x hx.1) (fun x hx => hS x (h3.left hx)) h1,
   BX.same hB h (fun x hx => hc x (by omega)) (fun x hx => hS x (h3.right hx)) h2, h3⟩
end
theorem FA.same {w w' : World} {B B' : Nat → Prop} (hB : ∀ b, B b → B' b) (h : Dr B w w') {q : Option Addr} {cap : Nat} {rows : Rows} {S : Nat → Prop} (hS : Dr S w w') (hh : FA w B q cap rows S) : FA w' B' q cap rows S := by
 have h1 : Ep w B (.sl true rows) (.slice q rows.length cap) S := DP.2 ⟨q, cap, rfl, hh⟩
 obtain ⟨q', cap', he, h2⟩ := DP.1 (Ep.same hB h hS h1)
 injection he with e1 e2 e3
 subst e1; subst e3
 exact h2
def Pt (w : World) (S : Nat → Prop) : Prop := ∀ b, S b → b < w.heap.size
theorem Tv {w : World} {b : Nat} {o : Obj} (h : w.heap[b]? = some o) : b < w.heap.size := (Array.getElem?_eq_some_iff.1 h).1
mutual
theorem Ep.inHeap {w : World} {B : Nat → Prop} : ∀ {t : T} {u : Value} {S : Nat → Prop}, Ep w B t u S → Pt w S
 | .v x, u, S, hh => by simp only [Ep] at hh; exact fun b hb => absurd hb (hh.2 b)
 | .sl false rows, u, S, hh => by simp only [Ep] at hh; exact fun b hb => absurd hb (hh.2 b)
 | .sl true rows, u, S, hh => by
  simp only [Ep] at hh
  obtain ⟨q, cap, h1, h2⟩ := hh
  rcases h2 with h2 | ⟨b, sz, e, cur, S', h3, h4, h5, h6, h7, h8, h9, h10⟩
  ·exact fun b hb => absurd hb (h2.2.2.2 b)
  ·intro x hx
   rcases (h9.1 x).1 hx with rfl | hx'
   ·exact Tv h4
   ·exact BX.inHeap h10 x hx'
 | .hole, u, S, hh => by simp only [Ep] at hh; exact fun b hb => absurd hb (hh b)
theorem IU.inHeap {w : World} {B : Nat → Prop} : ∀ {b o : Nat} {ts : List T} {S : Nat → Prop}, IU w B b o ts S → Pt w S
 | b, o, [], S, hh => by simp only [IU] at hh; exact fun b hb => absurd hb (hh b)
 | b, o, t :: ts, S, hh => by
  simp only [IU] at hh
  obtain ⟨u, S1, S2, h1, h0, h2, h3, h4⟩ := hh
  intro x hx
  rcases (h4.1 x).1 hx with h | h
  ·exact Ep.inHeap h2 x h
  ·exact IU.inHeap h3 x h
theorem BX.inHeap {w : World} {B : Nat → Prop} : ∀ {b o sz : Nat} {rs : List (List T)} {S : Nat → Prop}, BX w B b o sz rs S → Pt w S
 | b, o, sz, [], S, hh => by simp only [BX] at hh; exact fun b hb => absurd hb (hh b)
 | b, o, sz, r :: rs, S, hh => by
  simp only [BX] at hh
  obtain ⟨S1, S2, h0, h1, h2, h3⟩ := hh
  intro x hx
  rcases (h3.1 x).1 hx with h | h
  ·exact IU.inHeap h1 x h
  ·exact BX.inHeap h2 x h
end
mutual
def frz : T → T
 | .v x => .v x
 | .sl _ rows => .sl false (AV rows)
 | .hole => .hole
def GB : List T → List T
 | [] => []
 | t :: ts => frz t :: GB ts
def AV : List (List T) → List (List T)
 | [] => []
 | r :: rs => GB r :: AV rs
end
theorem Yv (ts : List T) : GB ts = ts.map frz := by
 induction ts with
 | nil => rfl
 | cons t ts ih => simp [GB, ih]
theorem Qo (rs : List (List T)) : AV rs = rs.map (·.map frz) := by
 induction rs with
 | nil => rfl
 | cons t ts ih => simp [AV, ih, Yv]
mutual
theorem Dq.frz {w : World} {B : Nat → Prop} : ∀ {t : T} {u : Value}, Dq w B t u → Dq w B (TT.frz t) u
 | .v x, u, hh => by simpa [TT.frz, Dq] using hh
 | .sl true rows, u, hh => by simp only [Dq] at hh
 | .sl false rows, u, hh => by
  simp only [TT.frz, Dq] at hh ⊢
  obtain ⟨q, cap, h1, h2, h3, h4⟩ := hh
  have hl : (AV rows).length = rows.length := by simp [Qo]
  refine ⟨q, cap, by rw [hl]; exact h1, by rw [hl]; exact h2, h3, ?_⟩
  rcases h4 with h4 | ⟨b, o, sz, h5, h6, h7, h8⟩
  ·exact .inl (by simp [h4, AV])
  ·exact .inr ⟨b, o, sz, h5, h6, h7, BV.frz h8⟩
 | .hole, u, hh => by simp [TT.frz, Dq]
theorem Jy.frz {w : World} {B : Nat → Prop} : ∀ {b o : Nat} {ts : List T}, Jy w B b o ts → Jy w B b o (GB ts)
 | b, o, [], hh => by simp [GB, Jy]
 | b, o, t :: ts, hh => by
  simp only [GB, Jy] at hh ⊢
  obtain ⟨⟨u, h1, h0, h2⟩, h3⟩ := hh
  exact ⟨⟨u, h1, h0, Dq.frz h2⟩, Jy.frz h3⟩
theorem BV.frz {w : World} {B : Nat → Prop} : ∀ {b o sz : Nat} {rs : List (List T)}, BV w B b o sz rs → BV w B b o sz (AV rs)
 | b, o, sz, [], hh => by simp [AV, BV]
 | b, o, sz, r :: rs, hh => by
  simp only [AV, BV] at hh ⊢
  exact ⟨by simp [Yv, hh.1], Jy.frz hh.2.1, BV.frz hh.2.2⟩
end
mutual
theorem Ep.frz {w : World} {B B' : Nat → Prop} (hB : ∀ b, B b → B' b) : ∀ {t : T} {u : Value} {S : Nat → Prop}, (∀ b, S b → B' b) → Ep w B t u S → Dq w B' (TT.frz t) u
 | .v x, u, S, _, hh => by simp only [Ep] at hh; simpa [TT.frz, Dq] using hh.1
 | .sl false rows, u, S, _, hh => by
  simp only [Ep] at hh
  exact Dq.frz (Dq.same hB (fun _ _ => rfl) hh.1)
 | .sl true rows, u, S, hS, hh => by
  simp only [Ep] at hh
  simp only [TT.frz, Dq]
  obtain ⟨q, cap, h1, h2⟩ := hh
  have hl : (AV rows).length = rows.length := by simp [Qo]
  rcases h2 with ⟨h3, h4, h5, h6⟩ | ⟨b, sz, e, cur, S', h3, h4, h5, h6, h7, h8, h9, h10⟩
  ·subst h5
   exact ⟨q, cap, h1, by simp [AV], by simp [h4], .inl (by simp [AV])⟩
  ·refine ⟨q, cap, by rw [hl]; exact h1, by rw [hl]; exact h5.1, h6, .inr ⟨b, 0, sz, h3, hS b (h9.left rfl), h8, ?_⟩⟩
   exact BX.frz hB (fun x hx => hS x (h9.right hx)) h10
 | .hole, u, S, _, hh => by simp [TT.frz, Dq]
theorem IU.frz {w : World} {B B' : Nat → Prop} (hB : ∀ b, B b → B' b) : ∀ {b o : Nat} {ts : List T} {S : Nat → Prop}, (∀ b, S b → B' b) → IU w B b o ts S → Jy w B' b o (GB ts)
 | b, o, [], S, _, hh => by simp [GB, Jy]
 | b, o, t :: ts, S, hS, hh => by
  simp only [IU] at hh
  simp only [GB, Jy]
  obtain ⟨u, S1, S2, h1, h0, h2, h3, h4⟩ := hh
  exact ⟨⟨u, h1, h0, Ep.frz hB (fun x hx => hS x (h4.left hx)) h2⟩, IU.frz hB (fun x hx => hS x (h4.right hx)) h3⟩
theorem BX.frz {w : World} {B B' : Nat → Prop} (hB : ∀ b, B b → B' b) : ∀ {b o sz : Nat} {rs : List (List T)} {S : Nat → Prop}, (∀ b, S b → B' b) → BX w B b o sz rs S → BV w B' b o sz (AV rs)
 | b, o, sz, [], S, _, hh => by simp [AV, BV]
 | b, o, sz, r :: rs, S, hS, hh => by
  simp only [BX] at hh
  simp only [AV, BV]
  obtain ⟨S1, S2, h0, h1, h2, h3⟩ := hh
  exact ⟨by simp [Yv, h0], IU.frz hB (fun x hx => hS x (h3.left hx)) h1, BX.frz hB (fun x hx => hS x (h3.right hx)) h2⟩
end
end TT
namespace TT
open Go
abbrev Path := List (Nat × Nat)
def BY : Rows → Path → Option Rows
 | rows, [] => some rows
 | rows, (i, c) :: p => match rows[i]?.bind (·[c]?) with
  | some (.sl true rows') => BY rows' p
  | _ => none
def BD (rows : Rows) (p : Path) (i c : Nat) : Option T := (BY rows p).bind fun rs => rs[i]?.bind (·[c]?)
def Er (rows : Rows) (i c : Nat) (t : T) : Rows := match rows[i]? with
 | some row => rows.set i (row.set c t)
 | none => rows
def An : Rows → Path → Nat → Nat → T → Rows
 | rows, [], i, c, t => Er rows i c t
 | rows, (i0, c0) :: p, i, c, t => match rows[i0]?.bind (·[c0]?) with
  | some (.sl true rows') => Er rows i0 c0 (.sl true (An rows' p i c t))
  | _ => rows
theorem Mg (rows : Rows) (i c : Nat) (t : T) : (Er rows i c t).length = rows.length := by
 simp only [Er]; split <;> simp
theorem Ae (rows : Rows) (p : Path) (i c : Nat) (t : T) : (An rows p i c t).length = rows.length := by
 cases p with
 | nil => exact Mg ..
 | cons ic p =>
  obtain ⟨i1, c1⟩ := ic
  simp only [An]
  split
  ·exact Mg ..
  ·rfl
def Ak (w : World) : Option Addr → Rows → Path → Nat → Nat → Nat → Nat → Prop
 | q, rows, [], i, c, b, k => q = some ⟨b, 0, none⟩ ∧ ∃ row, rows[i]? = some row ∧ c < row.length ∧ k = i * row.length + c
 | q, rows, (i0, c0) :: p, i, c, b, k => ∃ b0 row rows1 q1 n1 cap1, q = some ⟨b0, 0, none⟩ ∧ rows[i0]? = some row ∧ row[c0]? = some (.sl true rows1) ∧
   w.cell? ⟨b0, i0 * row.length + c0, none⟩ = some (.slice q1 n1 cap1) ∧ Ak w q1 rows1 p i c b k
theorem Aa.assoc {S A C D E : Nat → Prop} (h : Aa S A C) (h' : Aa A D E) : ∃ F, Aa S D F ∧ Aa F E C := by
 refine ⟨fun b => E b ∨ C b, ⟨fun b => ?_, fun b hd he => ?_⟩, ⟨fun b => Iff.rfl, fun b he hc => h.2 b (h'.right he) hc⟩⟩
 ·rw [h.1, h'.1]; exact or_assoc
 ·rcases he with he | hc
  ·exact h'.2 b hd he
  ·exact h.2 b (h'.left hd) hc
theorem Aa.congr {S A C C' : Nat → Prop} (h : Aa S A C) (hc : ∀ x, C x ↔ C' x) : Aa S A C' :=
 ⟨fun b => (h.1 b).trans (or_congr Iff.rfl (hc b)), fun b ha hb => h.2 b ha ((hc b).2 hb)⟩
theorem Aa.put {A F D C : Nat → Prop} (h : Aa F D C) (hd : ∀ x, A x → ¬ F x) : Aa (fun x => A x ∨ F x) (fun x => A x ∨ D x) C := by
 refine ⟨fun x => ?_, fun x hx hx' => ?_⟩
 ·show (A x ∨ F x) ↔ ((A x ∨ D x) ∨ C x)
  rw [h.1]; exact or_assoc.symm
 ·rcases hx with h1 | h1
  ·exact hd x h1 (h.right hx')
  ·exact h.2 x h1 hx'
theorem IU.lens {w : World} {B : Nat → Prop} {b : Nat} : ∀ {ts : List T} {o c : Nat} {S : Nat → Prop} {t : T}, IU w B b o ts S → ts[c]? = some t →
  ∃ u S1 S2, w.cell? ⟨b, o + c, none⟩ = some u ∧ u.oneCell' = true ∧ Ep w B t u S1 ∧ Aa S S1 S2 ∧
   ∀ (w' : World) (B' : Nat → Prop) (t' : T) (u' : Value) (S1' : Nat → Prop), (∀ b, B b → B' b) → Dr B w w' → Dr S2 w w' →
    (∀ x, o ≤ x → x ≠ o + c → w'.cell? ⟨b, x, none⟩ = w.cell? ⟨b, x, none⟩) → w'.cell? ⟨b, o + c, none⟩ = some u' → u'.oneCell' = true →
    Ep w' B' t' u' S1' → (∀ x, S1' x → ¬ S2 x) → IU w' B' b o (ts.set c t') (fun x => S1' x ∨ S2 x)
 | [], o, c, S, t, _, hc => by simp at hc
 | t0 :: ts, o, 0, S, t, hh, hc => by
  simp only [IU] at hh
  obtain ⟨u, S1, S2, h1, h0, h2, h3, h4⟩ := hh
  simp at hc
  subst hc
  refine ⟨u, S1, S2, h1, h0, h2, h4, ?_⟩
  intro w' B' t' u' S1' hB hs hs2 hcell hu h1c hn hd
  simp only [List.set_cons_zero, IU]
  refine ⟨u', S1', S2, hu, h1c, hn, ?_, Aa.mk' hd⟩
  exact IU.same hB hs (fun x hx => hcell x (by omega) (by omega)) hs2 h3
 | t0 :: ts, o, c + 1, S, t, hh, hc => by
  simp only [IU] at hh
  obtain ⟨u0, S0, Sr, h1, h0, h2, h3, h4⟩ := hh
  simp at hc
  obtain ⟨u, S1, S2, g1, g0, g2, g3, g4⟩ := IU.lens h3 hc
  have he : o + 1 + c = o + (c + 1) := by omega
  rw [he] at g1 g4
  obtain ⟨F, f1, f2⟩ := Aa.assoc h4.comm g3
  refine ⟨u, S1, F, g1, g0, g2, f1, ?_⟩
  intro w' B' t' u' S1' hB hs hs2 hcell hu h1c hn hd
  simp only [List.set_cons_succ, IU]
  refine ⟨u0, S0, _, by rw [hcell o (Nat.le_refl _) (by omega)]; exact h1, h0, Ep.same hB hs (fun x hx => hs2 x (f2.right hx)) h2,
   g4 w' B' t' u' S1' hB hs (fun x hx => hs2 x (f2.left hx)) (fun x hx hne => hcell x (by omega) hne) hu h1c hn (fun x hx hx' => hd x hx (f2.left hx')), ?_⟩
  exact (Aa.put f2 hd).comm
theorem IU.cells {w : World} {B : Nat → Prop} {b : Nat} {ts : List T} {o : Nat} {S : Nat → Prop} (h : IU w B b o ts S) {c : Nat} (hc : c < ts.length) : ∃ u, w.cell? ⟨b, o + c, none⟩ = some u := by
 obtain ⟨u, _, _, h1, _⟩ := h.lens (c := c) (t := ts[c]) (by simp [hc])
 exact ⟨u, h1⟩
theorem BX.lens {w : World} {B : Nat → Prop} {b sz : Nat} : ∀ {rs : Rows} {o i c : Nat} {S : Nat → Prop} {row : List T} {t : T}, BX w B b o sz rs S → rs[i]? = some row → row[c]? = some t →
  row.length = sz ∧ ∃ u S1 S2, w.cell? ⟨b, o + (i * sz + c), none⟩ = some u ∧ u.oneCell' = true ∧ Ep w B t u S1 ∧ Aa S S1 S2 ∧
   ∀ (w' : World) (B' : Nat → Prop) (t' : T) (u' : Value) (S1' : Nat → Prop), (∀ b, B b → B' b) → Dr B w w' → Dr S2 w w' →
    (∀ x, o ≤ x → x ≠ o + (i * sz + c) → w'.cell? ⟨b, x, none⟩ = w.cell? ⟨b, x, none⟩) → w'.cell? ⟨b, o + (i * sz + c), none⟩ = some u' → u'.oneCell' = true →
    Ep w' B' t' u' S1' → (∀ x, S1' x → ¬ S2 x) → BX w' B' b o sz (rs.set i (row.set c t')) (fun x => S1' x ∨ S2 x)
 | [], o, i, c, S, row, t, _, hr, _ => by simp at hr
 | r0 :: rs, o, 0, c, S, row, t, hh, hr, hc => by
  simp only [BX] at hh
  obtain ⟨Sa, Sb, h0, h1, h2, h3⟩ := hh
  simp at hr
  subst hr
  obtain ⟨u, S1, S2, g1, g0, g2, g3, g4⟩ := h1.lens hc
  obtain ⟨F, f1, f2⟩ := Aa.assoc h3 g3
  simp only [Nat.zero_mul, Nat.zero_add]
  have hlt : c < r0.length := (List.getElem?_eq_some_iff.1 hc).1
  refine ⟨h0, u, S1, F, g1, g0, g2, f1, ?_⟩
  intro w' B' t' u' S1' hB hs hs2 hcell hu h1c hn hd
  simp only [List.set_cons_zero, BX]
  refine ⟨_, Sb, by simpa using h0, g4 w' B' t' u' S1' hB hs (fun x hx => hs2 x (f2.left hx)) hcell hu h1c hn (fun x hx hx' => hd x hx (f2.left hx')),
   BX.same hB hs (fun x hx => hcell x (by omega) (by omega)) (fun x hx => hs2 x (f2.right hx)) h2, ?_⟩
  exact Aa.put f2 hd
 | r0 :: rs, o, i + 1, c, S, row, t, hh, hr, hc => by
  simp only [BX] at hh
  obtain ⟨Sa, Sb, h0, h1, h2, h3⟩ := hh
  simp at hr
  obtain ⟨hl, u, S1, S2, g1, g0, g2, g3, g4⟩ := BX.lens h2 hr hc
  have he : o + sz + (i * sz + c) = o + ((i + 1) * sz + c) := by rw [Nat.add_mul]; omega
  rw [he] at g1 g4
  obtain ⟨F, f1, f2⟩ := Aa.assoc h3.comm g3
  refine ⟨hl, u, S1, F, g1, g0, g2, f1, ?_⟩
  intro w' B' t' u' S1' hB hs hs2 hcell hu h1c hn hd
  have hge : o + sz ≤ o + ((i + 1) * sz + c) := by rw [Nat.add_mul]; omega
  simp only [List.set_cons_succ, BX]
  refine ⟨Sa, _, h0, IU.same hB hs (fun x hx => hcell x hx.1 (by omega)) (fun x hx => hs2 x (f2.right hx)) h1,
   g4 w' B' t' u' S1' hB hs (fun x hx => hs2 x (f2.left hx)) (fun x hx hne => hcell x (by omega) hne) hu h1c hn (fun x hx hx' => hd x hx (f2.left hx')), ?_⟩
  exact (Aa.put f2 hd).comm
theorem At {w : World} {b k : Nat} {cur : Array Value} {e : TypeId} {f : Nat × Nat} (h : w.heap[b]? = some (.cells cur e f)) : w.cell? ⟨b, k, none⟩ = cur[k]? := by
 simp [World.cell?, h]
theorem FA.lens {w : World} {B : Nat → Prop} : ∀ (p : Path) {q : Option Addr} {cap : Nat} {rows : Rows} {S : Nat → Prop} {i c : Nat} {t : T}, FA w B q cap rows S → BD rows p i c = some t →
  ∃ b k cur e u S1 S2, Ak w q rows p i c b k ∧ w.heap[b]? = some (.cells cur e (0, 0)) ∧ cur[k]? = some u ∧ u.oneCell' = true ∧ Ep w B t u S1 ∧ Aa S S1 S2 ∧ S2 b ∧
   ∀ (w' : World) (B' : Nat → Prop) (t' : T) (u' : Value) (S1' : Nat → Prop), (∀ b, B b → B' b) → Dr B w w' → (∀ x, S2 x → x ≠ b → w'.heap[x]? = w.heap[x]?) →
    w'.heap[b]? = some (.cells (cur.setIfInBounds k u') e (0, 0)) → u'.oneCell' = true →
    Ep w' B' t' u' S1' → (∀ x, S1' x → ¬ S2 x) → FA w' B' q cap (An rows p i c t') (fun x => S1' x ∨ S2 x)
 | [], q, cap, rows, S, i, c, t, hh, hg => by
  simp only [BD, BY, Option.bind_some] at hg
  obtain ⟨row, hr, hc⟩ := Option.bind_eq_some_iff.1 hg
  rcases hh with ⟨_, _, h, _⟩ | ⟨b, sz, e, cur, S', h3, h4, h5, h6, h7, h8, h9, h10⟩
  ·subst h; simp at hr
  ·obtain ⟨hl, u, S1, S2, g1, g0, g2, g3, g4⟩ := h10.lens hr hc
   obtain ⟨F, f1, f2⟩ := Aa.assoc h9.comm g3
   have hlt : c < row.length := (List.getElem?_eq_some_iff.1 hc).1
   simp only [Nat.zero_add] at g1 g4
   have hcu : cur[i * sz + c]? = some u := by rw [← g1, At h4]
   refine ⟨b, i * sz + c, cur, e, u, S1, F, ⟨h3, row, hr, hlt, by rw [hl]⟩, h4, hcu, g0, g2, f1, f2.right rfl, ?_⟩
   intro w' B' t' u' S1' hB hs hs2 hb hu1 hn hd
   have hk : i * sz + c < cur.size := by
    rcases Nat.lt_or_ge (i * sz + c) cur.size with h | h
    ·exact h
    ·simp [Array.getElem?_eq_none h] at hcu
   have hnb : ∀ x, S2 x → x ≠ b := fun x hx e => f2.2 x hx (by simpa using e)
   have hw := g4 w' B' t' u' S1' hB hs (fun x hx => hs2 x (f2.left hx) (hnb x hx))
    (fun x _ hne => by rw [At hb, At h4, Array.getElem?_setIfInBounds_ne (Ne.symm hne)])
    (by rw [At hb]; simp [hk]) hu1 hn (fun x hx hx' => hd x hx (f2.left hx'))
   refine .inr ⟨b, sz, e, cur.setIfInBounds (i * sz + c) u', fun x => S1' x ∨ S2 x, h3, hb, ?_, h6, by simpa using h7, h8, ?_, ?_⟩
   ·simp only [An, Er, hr]
    exact ⟨by simpa using h5.1, fun h => h5.2 (List.length_eq_zero_iff.1 (by have := congrArg List.length h; simpa using this))⟩
   ·exact (Aa.put f2 hd).comm
   ·simp only [An, Er, hr]; exact hw
 | (i0, c0) :: p, q, cap, rows, S, i, c, t, hh, hg => by
  simp only [BD, BY] at hg
  cases hrc : rows[i0]?.bind (·[c0]?) with
  | none => simp [hrc] at hg
  | some t0 =>
   cases t0 with
   | v x => simp [hrc] at hg
   | hole => simp [hrc] at hg
   | sl own rows1 =>
    cases own with
    | false => simp [hrc] at hg
    | true =>
     simp only [hrc] at hg
     obtain ⟨row, hr, hc⟩ := Option.bind_eq_some_iff.1 hrc
     rcases hh with ⟨_, _, h, _⟩ | ⟨b0, sz, e0, cur0, S', h3, h4, h5, h6, h7, h8, h9, h10⟩
     ·subst h; simp at hr
     ·obtain ⟨hl, u0, T1, T2, g1, g0, g2, g3, g4⟩ := h10.lens hr hc
      simp only [Nat.zero_add] at g1 g4
      obtain ⟨q1, cap1, hu0, hs1⟩ := DP.1 g2
      obtain ⟨b, k, cur, e, u, S1, S2, l1, l2, l3, l4, l5, l6, l7, l8⟩ := FA.lens p hs1 hg
      obtain ⟨F, f1, f2⟩ := Aa.assoc h9.comm g3
      obtain ⟨G, k1, k2⟩ := Aa.assoc f1 l6
      have hlt : c0 < row.length := (List.getElem?_eq_some_iff.1 hc).1
      refine ⟨b, k, cur, e, u, S1, G, ⟨b0, row, rows1, q1, rows1.length, cap1, h3, hr, hc, by rw [hl, g1, hu0], l1⟩, l2, l3, l4, l5, k1, k2.left l7, ?_⟩
      intro w' B' t' u' S1' hB hs hs2 hb hu1 hn hd
      have hb0 : b0 ≠ b := fun e => by
       subst e
       exact f1.2 b0 (l6.right l7) (f2.right rfl)
      have hF0 : ∀ x, F x → x ≠ b := fun x hx e => by subst e; exact f1.2 x (l6.right l7) hx
      have hw0 : w'.heap[b0]? = w.heap[b0]? := hs2 b0 (k2.right (f2.right rfl)) hb0
      have sub := l8 w' B' t' u' S1' hB hs (fun x hx hne => hs2 x (k2.left hx) hne) hb hu1 hn (fun x hx hx' => hd x hx (k2.left hx'))
      have hlen : (An rows1 p i c t').length = rows1.length := by
       cases p with
       | nil => simp only [An, Er]; split <;> simp
       | cons ic p =>
        obtain ⟨i1, c1⟩ := ic
        simp only [An, Er]
        split
        ·split <;> simp
        ·rfl
      have hn0 : Ep w' B' (.sl true (An rows1 p i c t')) u0 (fun x => S1' x ∨ S2 x) := DP.2 ⟨q1, cap1, by rw [hlen]; exact hu0, sub⟩
      have hd0 : ∀ x, (S1' x ∨ S2 x) → ¬ T2 x := fun x hx hx' => by
       rcases hx with h | h
       ·exact hd x h (k2.right (f2.left hx'))
       ·exact f1.2 x (l6.right h) (f2.left hx')
      have hw := g4 w' B' (.sl true (An rows1 p i c t')) u0 _ hB hs (fun x hx => hs2 x (k2.right (f2.left hx)) (hF0 x (f2.left hx)))
       (fun x _ _ => Cz hw0 x) (by rw [Cz hw0]; exact g1) g0 hn0 hd0
      refine .inr ⟨b0, sz, e0, cur0, fun x => (S1' x ∨ S2 x) ∨ T2 x, h3, by rw [hw0]; exact h4, ?_, h6, h7, h8, ?_, ?_⟩
      ·exact ⟨by rw [Ae]; exact h5.1, fun h => h5.2 (List.length_eq_zero_iff.1 (by have := congrArg List.length h; simpa [Ae] using this))⟩
      ·obtain ⟨H, m1, m2⟩ := Aa.assoc (Aa.put k2 hd).comm f2.comm
       exact m1.congr fun x => (m2.1 x).trans Or.comm
      ·have he : An rows ((i0, c0) :: p) i c t' = rows.set i0 (row.set c0 (.sl true (An rows1 p i c t'))) := by
        simp only [An, hrc, Er]; rw [hr]
       rw [he]; exact hw
end TT
namespace TT
open Go
abbrev Id := Nat × Nat
inductive V where
 | t (c : T)
 | nil
 | agg (cs : List V)
 | ref (id : Id) (n : Nat)
 | sub (id : Id) (p : Path) (i c n st : Nat)
 | ptr (id : Id) (p : Path) (i off n st : Nat)
 | pp (cs : List T)
 | fn (f : FuncId) (caps : List V)
 | tup (vs : List V)
 | vb (id : Id) (off st : Nat) (cs : List V)
 | dead
 deriving Inhabited
inductive DK where
 | dead
 | mem (rows : Rows) (st : Nat) (fix : Bool)
 deriving Inhabited
abbrev R := List (List DK)
def AK (r : R) (id : Id) : DK := (r.getD id.1 []).getD id.2 .dead
def Bc (r : R) (id : Id) (e : DK) : R := r.set id.1 ((r.getD id.1 []).set id.2 e)
inductive GA where
 | t (c : T)
 | agg (cs : List GA)
 | ln (rows : Rows)
 | lp (cells : List T) (off : Nat)
 | pp (cells : List T)
 | fn (f : FuncId) (caps : List GA)
 deriving Inhabited
inductive RV where
 | t (c : T)
 | agg (cs : List T)
 | box (cells : List T)
 deriving Inhabited
structure Am where
 vals : List RV
 after : List (Option Rows)
 deriving Inhabited
inductive M (α : Type) where
 | ret (v : α)
 | fail
 | get (id : Id) (k : DK → M α)
 | set (id : Id) (e : DK) (m : M α)
 | new (es : List DK) (m : M α)
 | call (f : FuncId) (args : List GA) (k : Am → M α)
abbrev AN := FuncId → List GA → Option Am
def M.run {α : Type} (call : AN) (d : Nat) : M α → R → Option (α × R)
 | .ret v, r => some (v, r)
 | .fail, _ => none
 | .get id k, r => (k (AK r id)).run call d r
 | .set id e m, r => m.run call d (Bc r id e)
 | .new es m, r => if d < r.length && (r.getD d []).isEmpty then m.run call d (r.set d es) else none
 | .call f args k, r => (call f args).bind fun res => (k res).run call d r
def M.runA {α : Type} (call : AN) (d : Nat) (rd wr : List Nat) : M α → R → Option (α × R)
 | .ret v, r => some (v, r)
 | .fail, _ => none
 | .get id k, r => if rd.contains id.1 || wr.contains id.1 then (k (AK r id)).runA call d rd wr r else none
 | .set id e m, r => if wr.contains id.1 then m.runA call d rd wr (Bc r id e) else none
 | .new es m, r => if wr.contains d && (d < r.length && (r.getD d []).isEmpty) then m.runA call d rd wr (r.set d es) else none
 | .call f args k, r => (call f args).bind fun res => (k res).runA call d rd wr r
def T.isOwn : T → Bool
 | .sl true _ => true
 | _ => false
def LY (id : Id) (p : Path) (i c st : Nat) : T → V
 | .v x => .t (.v x)
 | .sl true rows => .sub id p i c rows.length st
 | .sl false rows => .t (.sl false rows)
 | .hole => .dead
def Jz (id : Id) (p : Path) (i c st : Nat) : List T → List V
 | [] => []
 | t :: ts => LY id p i c st t :: Jz id p i (c + 1) st ts
def Cq (rows : Rows) (stt : Nat) (p : Path) (i n st : Nat) : Option (List T) :=
 match p with
 | [] => if rows.length = n then rows[i]? else none
 | _ :: _ => if st = stt then (BY rows p).bind (·[i]?) else none
def GC (rows : Rows) (p : Path) (i c : Nat) : List T → Rows
 | [] => rows
 | t :: ts => GC (An rows p i c t) p i (c + 1) ts
def cellsOf : V → List V
 | .agg cs => cs
 | v => [v]
def take {α : Type} : V → (T → M α) → M α
 | .t c, k => k c
 | .nil, k => k (.sl true [])
 | .ref id n, k => .get id fun
   | .mem rows _ fx => if rows.length = n then .set id .dead (k (.sl true rows)) else .fail
   | _ => .fail
 | .sub id p i c n st, k => .get id fun
   | .mem rows stt fx => if st = stt then (match BD rows p i c with
     | some (.sl true rs) => if rs.length = n then .set id (.mem (An rows p i c .hole) stt fx) (k (.sl true rs)) else .fail
     | _ => .fail) else .fail
   | _ => .fail
 | _, _ => .fail
def ED {α : Type} : List V → (List T → M α) → M α
 | [], k => k []
 | v :: vs, k => take v fun t => ED vs fun ts => k (t :: ts)
def CD {α : Type} (vss : List (List V)) (k : Rows → M α) : M α :=
 match vss with
 | [] => k []
 | vs :: vss => ED vs fun r => CD vss fun rs => k (r :: rs)
def Ds {α : Type} : V → (Rows → M α) → M α
 | .t (.sl _ rows), k => k rows
 | .nil, k => k []
 | .ref id n, k => .get id fun
   | .mem rows _ _ => if rows.length = n then k rows else .fail
   | _ => .fail
 | .sub id p i c n st, k => .get id fun
   | .mem rows stt _ => if st = stt then (match BD rows p i c with
     | some (.sl true rs) => if rs.length = n then k rs else .fail
     | _ => .fail) else .fail
   | _ => .fail
 | _, _ => .fail
def Fy {α : Type} : V → (Rows → M α) → M α
 | .t (.sl _ rows), k => k rows
 | .t (.v (.slice _ 0 _)), k => k []
 | v, k => take v fun
   | .sl true rows => k rows
   | _ => .fail
def NR (op : BinOp) (k : IntKind) (a b : Int) : Option Value :=
 match op with
 | .add => some (.int k (k.wrap (a + b)))
 | .sub => some (.int k (k.wrap (a - b)))
 | .mul => some (.int k (k.wrap (a * b)))
 | .quo => if b = 0 then none else some (.int k (k.wrap (a.tdiv b)))
 | .rem => if b = 0 then none else some (.int k (a.tmod b))
 | .and => some (.int k (Go.bits .and k a b))
 | .or => some (.int k (Go.bits .or k a b))
 | .xor => some (.int k (Go.bits .xor k a b))
 | .andNot => some (.int k (Go.bits .andNot k a b))
 | .eql => some (.bool (a == b))
 | .neq => some (.bool (a != b))
 | .lss => some (.bool (decide (a < b)))
 | .leq => some (.bool (decide (a ≤ b)))
 | .gtr => some (.bool (decide (a > b)))
 | .geq => some (.bool (decide (a ≥ b)))
 | _ => none
def q9 (op : BinOp) (x y : ByteArray) : Option Value :=
 match op with
 | .add => if x.size + y.size ≤ 9223372036854775807 then some (.string (x ++ y)) else none
 | .eql => some (.bool (x.toList == y.toList))
 | .neq => some (.bool (!(x.toList == y.toList)))
 | .lss => some (.bool (Op.bytesLess x.toList y.toList))
 | .leq => some (.bool (Op.bytesLess x.toList y.toList || x.toList == y.toList))
 | .gtr => some (.bool (!(Op.bytesLess x.toList y.toList || x.toList == y.toList)))
 | .geq => some (.bool (!(Op.bytesLess x.toList y.toList)))
 | _ => none
def CO (op : BinOp) : Value → Value → Option Value
 | .int k a, .int yk b => match op with
  | .shl => if b < 0 then none else some (.int k (k.wrap (a * 2 ^ (min b.toNat k.bits))))
  | .shr => if b < 0 then none else some (.int k (a.fdiv (2 ^ (min b.toNat k.bits))))
  | _ => if k = yk then NR op k a b else none
 | .string a, .string b => q9 op a b
 | _, _ => none
inductive FK where
 | int | str | bool
 deriving Inhabited, DecidableEq
def eqK : FK → V → V → Option Bool
 | .int, .t (.v (.int k a)), .t (.v (.int k' b)) => if k = k' then some (a == b) else none
 | .str, .t (.v (.string a)), .t (.v (.string b)) => some (a.toList == b.toList)
 | .bool, .t (.v (.bool a)), .t (.v (.bool b)) => some (a == b)
 | _, _, _ => none
def Vz : List FK → List V → List V → Option Bool
 | [], [], [] => some true
 | k :: ks, a :: as, b :: bs => (eqK k a b).bind fun e => (Vz ks as bs).map fun r => e && r
 | _, _, _ => none
inductive Cv where
 | int (k : IntKind)
 | rune
 | same
 | str        -- bytes as a string
 | bytes      -- a string as bytes (shared)
 deriving Inhabited
def Uf (s : ByteArray) : Rows := s.data.toList.map fun b => [.v (.int .u8 (b.toNat : Int))]
def XK (c : Cv) : V → Option V
 | .t (.v (.int k n)) => match c with
  | .int k' => some (.t (.v (.int k' (k'.wrap n))))
  | .rune => some (.t (.v (.string (Utf8.encode n))))
  | _ => none
 | .t (.v (.string s)) => match c with
  | .same => some (.t (.v (.string s)))
  | .bytes => if s.size ≤ maxLen then some (.t (.sl false (Uf s))) else none
  | _ => none
 | _ => none
inductive Md where
 | val | ref | give
 deriving Inhabited
def C6 : Rows → Option (List UInt8)
 | [] => some []
 | [.v (.int .u8 n)] :: rs => (C6 rs).map fun l => UInt8.ofNat n.toNat :: l
 | _ => none
inductive Cd where
 | s (t : Nat)
 | c (x : Value)
 | f (f : FuncId)
 | z (cs : List T)     -- a struct of constants
 deriving Inhabited
def OU : Value → V
 | .slice none 0 0 => .nil
 | x => .t (.v x)
def V.one : V → Bool
 | .t _ | .nil | .ref .. | .sub .. | .ptr .. => true
 | _ => false
def A6 (s : List V) : Cd → V
 | .s t => s.getD t .dead
 | .c x => OU x
 | .f f => .fn f []
 | .z cs => .agg (cs.map fun c => match c with | .sl true [] => V.nil | c => V.t c)
def XL : V → Option Id
 | .ptr id p i off m _ => if p.isEmpty && (i == 0 && (off == 0 && m == 1)) then some id else none
 | .vb id off _ _ => if off == 0 then some id else none
 | _ => none
inductive O where
 | mv (x : Cd)
 | pick (c a b : Cd)
 | alloc (z : List T)
 | box (x : Cd)
 | vbox (x : Cd)
 | vst (n : Nat) (x y : Cd)
 | build (z : List T) (parts : List (Nat × Nat × Cd))
 | bsl (sz : Nat) (parts : List Cd)
 | bslz (sz : Nat) (parts : List Cd)   -- shared at once
 | ld (n : Nat) (ag : Bool) (x : Cd)
 | ldr (x : Cd)   -- one cell out of a root itself
 | st (n : Nat) (x y : Cd)
 | stk (x y : Cd)   -- a list is stored; its slot is the place from then on
 | nilc (x : Cd)
 | bin (op : BinOp) (x y : Cd)
 | eqs (ne : Bool) (ks : List FK) (x y : Cd)
 | beq (ne : Bool) (x y : Cd)
 | eqn (ne : Bool) (x : Cd)
 | eqi (ne : Bool) (x : Cd)
 | un (op : UnOp) (x : Cd)
 | conv (c : Cv) (x : Cd)
 | mks (z : List T) (byt : Nat) (x : Cd)
 | slc (sz : Nat) (x : Cd) (lo hi : Option Cd)
 | fa (off : Nat) (x : Cd)
 | fld (off n : Nat) (ag : Bool) (x : Cd)
 | ia (sz : Nat) (x i : Cd)
 | ix (x i : Cd)
 | ixa (sz len : Nat) (ag : Bool) (x i : Cd)
 | call (f : FuncId) (md : List Md) (own : List Bool) (args : List Cd)
 | callv (x : Cd) (md : List Md) (own : List Bool) (args : List Cd)
 | app (sz byt : Nat) (s x : Cd)
 | appn (q sz byt : Nat) (s x : Cd)   -- to a list below the cells of the root q
 | len (str : Bool) (x : Cd)
 | mm (mx : Bool) (x y : Cd)
 | ext (x : Cd) (i : Nat)
 | mkf (f : FuncId) (caps : List Cd)
 deriving Inhabited
inductive Cy where
 | root (id : Id) (st : Nat) (fx : Bool) (rows : Rows)
 | cell (id : Id) (p : Path) (i c : Nat)
 | none
 deriving Inhabited
inductive PA where
 | a (x : GA)
 | v (v : V)
 deriving Inhabited
def PA.arg : PA → GA
 | .a x => x
 | .v _ => .t .hole
mutual
def D6 {α : Type} (md : Md) : V → (PA → List Cy → M α) → M α
 | .t c, k => k (.a (.t c)) []
 | .nil, k => match md with
  | .ref => k (.a (.ln [])) [.none]
  | _ => k (.a (.t (.sl false []))) []
 | .agg cs, k => match md with
  | .val => k (.v (.agg cs)) []
  | _ => NS md cs fun as bs => k (.a (.agg (as.map PA.arg))) bs
 | .ref id n, k => match md with
  | .val => k (.v (.ref id n)) []
  | .ref => .get id fun
   | .mem rows st fx => if rows.length = n then .set id .dead (k (.a (.ln rows)) [.root id st fx rows]) else .fail
   | _ => .fail
  | .give => .get id fun
   | .mem rows st fx => if rows.length = n then .set id .dead (k (.a (.t (.sl false (AV rows)))) []) else .fail
   | _ => .fail
 | .sub id p i c n st, k => match md with
  | .val => k (.v (.sub id p i c n st)) []
  | .ref => .get id fun
   | .mem rows stt fx => if st = stt then (match BD rows p i c with
     | some (.sl true rs) => if rs.length = n then .set id (.mem (An rows p i c .hole) (stt + 1) fx) (k (.a (.ln rs)) [.cell id p i c]) else .fail
     | _ => .fail) else .fail
   | _ => .fail
  | .give => .fail
 | .ptr id p i off n st, k => if p.isEmpty && i = 0 && n = 1 then .get id fun
   | .mem [cells] stt fx => if off < cells.length then .set id .dead (k (.a (.lp cells off)) [.root id stt fx [cells]]) else .fail
   | _ => .fail else .fail
 | .pp cs, k => k (.a (.pp cs)) []
 | .fn f caps, k => NS .ref caps fun as bs => k (.a (.fn f (as.map PA.arg))) bs
 | .tup _, _ => .fail
 | .vb .., _ => .fail
 | .dead, _ => .fail
def NS {α : Type} (md : Md) : List V → (List PA → List Cy → M α) → M α
 | v :: vs, k => D6 md v fun a b => NS md vs fun as bs => k (a :: as) (b ++ bs)
 | [], k => k [] []
end
def Fn {α : Type} : List Md → List V → (List PA → List Cy → M α) → M α
 | md, v :: vs, k => D6 (md.headD .val) v fun a b => Fn md.tail vs fun as bs => k (a :: as) (b ++ bs)
 | _, [], k => k [] []
def Es {α : Type} : V → (T → M α) → M α
 | .t c, k => k c
 | .nil, k => k (.sl false [])
 | v, k => Ds v fun rows => k (.sl false (AV rows))
def LZ {α : Type} : List V → (List T → M α) → M α
 | [], k => k []
 | v :: vs, k => Es v fun t => LZ vs fun ts => k (t :: ts)
def Pu {α : Type} : PA → (GA → M α) → M α
 | .a x, k => k x
 | .v (.agg cs), k => LZ cs fun ts => k (.agg (ts.map GA.t))
 | .v v, k => Es v fun t => k (.t t)
def Mh {α : Type} : List PA → (List GA → M α) → M α
 | [], k => k []
 | p :: ps, k => Pu p fun a => Mh ps fun as => k (a :: as)
def D7 {α : Type} : List Cy → List (Option Rows) → M α → M α
 | [], [], m => m
 | .root id st fx rows0 :: bs, o :: os, m => .get id fun
   | .dead => (match o with
    | some rows => if rows.map (·.length) = rows0.map (·.length) then .set id (.mem rows (st + 1) fx) (D7 bs os m) else .fail
    | none => D7 bs os m)
   | _ => .fail
 | .cell id p i c :: bs, o :: os, m => .get id fun
   | .mem rows stt fx => (match o with
    | some rs => .set id (.mem (An rows p i c (.sl true rs)) (stt + 1) fx) (D7 bs os m)
    | none => D7 bs os m)
   | _ => .fail
 | .none :: bs, _ :: os, m => D7 bs os m
 | _, _, _ => .fail
def Ai : List Cy → List Id
 | [] => []
 | .root id _ _ _ :: bs => id :: Ai bs
 | .cell id _ _ _ :: bs => id :: Ai bs
 | .none :: bs => Ai bs
def Bx : List Id → Bool
 | [] => true
 | a :: l => !l.contains a && Bx l
def Qe (d : Nat) (own : Bool) (k : Nat) : T → V × List DK
 | .sl o rows => if own && o then (.ref (d, k) rows.length, [.mem rows 0 false]) else (.t (.sl false (AV rows)), [])
 | .v x => (.t (.v x), [])
 | .hole => (.dead, [])
def Z6 (d : Nat) (own : Bool) (k : Nat) : List T → List V × List DK
 | [] => ([], [])
 | t :: ts => let a := Qe d own k t; let b := Z6 d own (k + a.2.length) ts; (a.1 :: b.1, a.2 ++ b.2)
def La (d : Nat) (own : Bool) (k : Nat) : RV → V × List DK
 | .t c => Qe d own k c
 | .agg cs => let a := Z6 d own k cs; (.agg a.1, a.2)
 | .box cells => (.ptr (d, k) [] 0 0 1 0, [.mem [cells] 0 false])
def Fe (d : Nat) (k : Nat) : List Bool → List RV → List V × List DK
 | _, [] => ([], [])
 | own, v :: vs => let a := La d (own.headD false) k v; let b := Fe d (k + a.2.length) own.tail vs; (a.1 :: b.1, a.2 ++ b.2)
def OA (vs : List V) : V := match vs with | [v] => v | _ => .tup vs
def V.isOwned : V → Bool
 | .ref _ _ => true
 | .sub .. => true
 | _ => false
def PA.reads : PA → Bool
 | .a _ => false
 | .v (.agg cs) => cs.any V.isOwned
 | .v x => x.isOwned
mutual
def allOwn : T → Bool
 | .v _ => true
 | .sl o rows => o && BB rows
 | .hole => true
def DQ : List T → Bool
 | [] => true
 | t :: ts => allOwn t && DQ ts
def BB : List (List T) → Bool
 | [] => true
 | r :: rs => DQ r && BB rs
end
def RV.allOwn : RV → Bool
 | .t c => TT.allOwn c
 | .agg cs => DQ cs
 | .box cs => DQ cs
def Am.allOwn (r : Am) : Bool := r.vals.all RV.allOwn && r.after.all fun o => match o with | some rows => BB rows | none => true
def Qp (d : Nat) (f : FuncId) (md : List Md) (own : List Bool) (args : List V) : M V :=
 Fn md args fun ps bs => if !Bx (Ai bs) then .fail else Mh ps fun as => .call f as fun res => if (ps.any PA.reads) && !res.allOwn then .fail else D7 bs res.after
  (let a := Fe d 0 own res.vals; if a.2.isEmpty then .ret (OA a.1) else .new a.2 (.ret (OA a.1)))
def LIM : Nat := 140737488351232
def no (cs : List V) (k : Nat) : List V → List V
 | [] => cs
 | v :: vs => no (cs.set k v) (k + 1) vs
def V.isDead : V → Bool
 | .dead => true
 | _ => false
def bld (s : List V) (cs : List V) : List (Nat × Nat × Cd) → Option (List V)
 | [] => some cs
 | q :: qs => if (A6 s q.2.2).isDead = false ∧ (cellsOf (A6 s q.2.2)).length = q.2.1 ∧ q.1 + q.2.1 ≤ cs.length then bld s (no cs q.1 (cellsOf (A6 s q.2.2))) qs else none
def fB (id : Id) (p : Path) (i off st : Nat) : List T → V
 | [.sl true rs] => .sub id p i off rs.length st
 | _ => .dead
def Av (s : List V) (d : Nat) : O → M V
 | .mv x => .ret (A6 s x)
 | .pick c a b => match A6 s c with
  | .t (.v (.bool t)) => .ret (if t then A6 s a else A6 s b)
  | _ => .fail
 | .alloc z => .new [.mem [z] 0 false] (.ret (.ptr (d, 0) [] 0 0 1 0))
 | .box x => ED (cellsOf (A6 s x)) fun ts => if ts.isEmpty then .fail else .new [.mem [ts] 0 false] (.ret (.ptr (d, 0) [] 0 0 1 0))
 | .vbox x => match A6 s x with
  | .agg cs => if cs.isEmpty || !cs.all V.one then .fail else .new [.mem [List.replicate cs.length .hole] 0 false] (.ret (.vb (d, 0) 0 0 cs))
  | _ => .fail
 | .vst n x y => match XL (A6 s x), A6 s y with
  | some id, .agg cs => if cs.length = n ∧ cs.all V.one = true then .get id fun
    | .mem [row] stt fx => if row.length = n then .set id (.mem [List.replicate n .hole] (stt + 1) fx) (.ret (.vb id 0 (stt + 1) cs)) else .fail
    | _ => .fail else .fail
  | _, _ => .fail
 | .build z parts => match bld s (z.map fun c => match c with | .sl true [] => V.nil | c => V.t c) parts with
  | some cs => .ret (.agg cs)
  | none => .fail
 | .bsl sz parts => CD (parts.map fun q => cellsOf (A6 s q)) fun rs => if rs.all fun r => r.length == sz then .new [.mem rs 0 false] (.ret (.ref (d, 0) rs.length)) else .fail
 | .bslz sz parts => CD (parts.map fun q => cellsOf (A6 s q)) fun rs => if rs.all fun r => r.length == sz then .new [.mem rs 0 false] (.set (d, 0) .dead (.ret (.t (.sl false (AV rs))))) else .fail
 | .ld n ag x => match A6 s x with
  | .ptr id p i off m st => .get id fun
    | .mem rows stt _ => (match Cq rows stt p i m st with
     | some row => if off + n ≤ row.length then
       (let vs := Jz id p i off stt ((row.drop off).take n); if ag then .ret (.agg vs) else match vs with | [v] => .ret v | _ => .fail) else .fail
     | none => .fail)
    | _ => .fail
  | .vb id off st cs => .get id fun
    | .mem rows stt _ => if (st = stt ∧ rows.length = 1) ∧ off + n ≤ cs.length then
       (let vs := (cs.drop off).take n; if ag then .ret (.agg vs) else match vs with | [v] => .ret v | _ => .fail) else .fail
    | _ => .fail
  | .pp cs => if n ≤ cs.length then (let vs := (cs.take n).map V.t; if ag then .ret (.agg vs) else match vs with | [v] => .ret v | _ => .fail) else .fail
  | _ => .fail
 | .ldr x => match A6 s x with
  | .ptr id p i off m st => if p = [] then .get id fun
    | .mem rows stt _ => (match Cq rows stt p i m st with
     | some row => (match row[off]? with
      | some t => .ret (LY id p i off stt t)
      | none => .fail)
     | none => .fail)
    | _ => .fail else .fail
  | _ => .fail
 | .st n x y => match A6 s x with
  | .ptr id p i off m st => ED (cellsOf (A6 s y)) fun ts => .get id fun
    | .mem rows stt fx => (match Cq rows stt p i m st with
     | some row => if ts.length = n ∧ off + n ≤ row.length then
       .set id (.mem (GC rows p i off ts) (stt + 1) fx) (.ret .dead) else .fail
     | none => .fail)
    | _ => .fail
  | _ => .fail
 | .stk x y => match A6 s x, A6 s y with
  | .ptr id p i off m st, .ref id2 n2 => ED [.ref id2 n2] fun ts => .get id fun
    | .mem rows stt fx => (match Cq rows stt p i m st with
     | some row => if ts.length = 1 ∧ off + 1 ≤ row.length then
       .set id (.mem (GC rows p i off ts) (stt + 1) fx) (.ret (fB id p i off (stt + 1) ts)) else .fail
     | none => .fail)
    | _ => .fail
  | _, _ => .fail
 | .nilc x => match A6 s x with
  | .ptr a b c d e f => .ret (.ptr a b c d e f)
  | .vb id o st cs => .ret (.vb id o st cs)
  | .pp cs => .ret (.pp cs)
  | .fn f caps => .ret (.fn f caps)
  | _ => .fail
 | .bin op x y => match A6 s x, A6 s y with
  | .t (.v a), .t (.v b) => match CO op a b with | some r => .ret (.t (.v r)) | none => .fail
  | _, _ => .fail
 | .eqs ne ks x y => match A6 s x, A6 s y with
  | .agg as, .agg bs => match Vz ks as bs with | some r => .ret (.t (.v (.bool (if ne then !r else r)))) | none => .fail
  | _, _ => .fail
 | .beq ne x y => match A6 s x, A6 s y with
  | .t (.v (.bool a)), .t (.v (.bool b)) => .ret (.t (.v (.bool (if ne then !(a == b) else a == b))))
  | _, _ => .fail
 | .eqi ne x => match A6 s x with
  | .t (.v .nilIface) => .ret (.t (.v (.bool (!ne))))
  | _ => .fail
 | .eqn ne x => match A6 s x with
  | .nil => .ret (.t (.v (.bool (!ne))))
  | .t (.v (.slice q _ _)) => .ret (.t (.v (.bool (if ne then !q.isNone else q.isNone))))
  | .t (.sl _ (_ :: _)) => .ret (.t (.v (.bool ne)))
  | _ => .fail
 | .un op x => match op, A6 s x with
  | .not, .t (.v (.bool b)) => .ret (.t (.v (.bool (!b))))
  | .neg, .t (.v (.int k n)) => .ret (.t (.v (.int k (k.wrap (0 - n)))))
  | _, _ => .fail
 | .conv c x => match c with
  | .str => match A6 s x with
   | .sub .. => .fail
   | v => Ds v fun rows => match C6 rows with | some l => .ret (.t (.v (.string ⟨l.toArray⟩))) | none => .fail
  | _ => match XK c (A6 s x) with | some v => .ret v | none => .fail
 | .mks z byt x => match A6 s x with
  | .t (.v (.int _ n)) => if 0 ≤ n ∧ n.toNat * byt ≤ LIM ∧ 0 < byt then .new [.mem (List.replicate n.toNat z) 0 false] (.ret (.ref (d, 0) n.toNat)) else .fail
  | _ => .fail
 | .slc sz x lo hi =>
  let b (o : Option Cd) (e : Int) : Option Int := match o with
   | none => some e
   | some q => match A6 s q with | .t (.v (.int _ n)) => some n | _ => none
  match A6 s x with
  | .t (.v (.string st)) => match b lo 0, b hi st.size with
   | some l, some h => if (0 ≤ l ∧ l ≤ h ∧ h ≤ st.size) ∧ sz = 0 then .ret (.t (.v (.string (st.extract l.toNat h.toNat)))) else .fail
   | _, _ => .fail
  | .t (.sl _ rows) => match b lo 0, b hi rows.length with
   | some l, some h => if (0 ≤ l ∧ l ≤ h ∧ h ≤ rows.length) ∧ 0 < sz ∧ (rows.all fun r => r.length == sz) then .ret (.t (.sl false ((rows.drop l.toNat).take (h.toNat - l.toNat)))) else .fail
   | _, _ => .fail
  | _ => .fail
 | .fa off x => match A6 s x with
  | .ptr id p i o n st => .ret (.ptr id p i (o + off) n st)
  | .vb id o st cs => .ret (.vb id (o + off) st cs)
  | .pp cs => .ret (.pp (cs.drop off))
  | _ => .fail
 | .fld off n ag x => match A6 s x with
  | .agg cs => if off + n ≤ cs.length then (let vs := (cs.drop off).take n; if ag then .ret (.agg vs) else match vs with | [v] => .ret v | _ => .fail) else .fail
  | _ => .fail
 | .ia sz x i => match A6 s i with
  | .t (.v (.int _ n)) => if 0 ≤ n then (match A6 s x with
   | .t (.sl _ rows) => (match rows[n.toNat]? with | some row => if row.length = sz then .ret (.pp row) else .fail | none => .fail)
   | .ref id m => .get id fun
     | .mem rows _ _ => if rows.length = m then (match rows[n.toNat]? with | some row => if row.length = sz then .ret (.ptr id [] n.toNat 0 m 0) else .fail | none => .fail) else .fail
     | _ => .fail
   | .sub id p j c m st => .get id fun
     | .mem rows stt _ => if st = stt then (match BD rows p j c with
      | some (.sl true rs) => if rs.length = m then (match rs[n.toNat]? with | some row => if row.length = sz then .ret (.ptr id (p ++ [(j, c)]) n.toNat 0 m st) else .fail | none => .fail) else .fail
      | _ => .fail) else .fail
     | _ => .fail
   | _ => .fail) else .fail
  | _ => .fail
 | .ix x i => match A6 s x, A6 s i with
  | .t (.v (.string st)), .t (.v (.int _ n)) => if h : 0 ≤ n ∧ n.toNat < st.size then .ret (.t (.v (.int .u8 (st[n.toNat]'h.2).toNat))) else .fail
  | _, _ => .fail
 | .ixa sz len ag x i => match A6 s x, A6 s i with
  | .agg cs, .t (.v (.int _ n)) => if 0 ≤ n ∧ n < len ∧ cs.length = len * sz then
    (let vs := (cs.drop (n.toNat * sz)).take sz; if ag then .ret (.agg vs) else match vs with | [v] => .ret v | _ => .fail) else .fail
  | _, _ => .fail
 | .call f md own args => Qp d f md own (args.map (A6 s))
 | .callv x md own args => match A6 s x with
  | .fn f caps => Qp d f (md ++ (caps.map fun _ => Md.ref)) own (args.map (A6 s) ++ caps)
  | _ => .fail
 | .app sz byt a x => Fy (A6 s x) fun new => if new.all fun r => r.length == sz then (match A6 s a with
  | .nil => if new.length * byt ≤ LIM ∧ 0 < byt then .new [.mem new 0 false] (.ret (.ref (d, 0) new.length)) else .fail
  | .ref id n => .get id fun
    | .mem rows st _ => if rows.length = n ∧ (n + new.length) * byt ≤ LIM ∧ 0 < byt ∧ (rows.all fun r => r.length == sz) then .set id (.mem (rows ++ new) st false) (.ret (.ref id (n + new.length))) else .fail
    | _ => .fail
  | .sub id p i c n st => take (.sub id p i c n st) fun
    | .sl true rows => if (rows.length + new.length) * byt ≤ LIM ∧ 0 < byt ∧ (rows.all fun r => r.length == sz) then .new [.mem (rows ++ new) 0 false] (.ret (.ref (d, 0) (rows.length + new.length))) else .fail
    | _ => .fail
  | _ => .fail) else .fail
 | .appn q sz byt a x => match A6 s a, A6 s x with
  | .sub id p i c n st, .ref id2 n2 => if p ≠ [] ∧ id.1 = q ∧ id2.1 ≠ q then Fy (.ref id2 n2) fun new => if new.all fun r => r.length == sz then take (.sub id p i c n st) fun
    | .sl true rows => if (rows.length + new.length) * byt ≤ LIM ∧ 0 < byt ∧ (rows.all fun r => r.length == sz) then .new [.mem (rows ++ new) 0 false] (.ret (.ref (d, 0) (rows.length + new.length))) else .fail
    | _ => .fail else .fail else .fail
  | _, _ => .fail
 | .len str x => match str, A6 s x with
  | true, .t (.v (.string st)) => .ret (.t (.v (.int .i64 st.size)))
  | false, .t (.sl _ rows) => .ret (.t (.v (.int .i64 rows.length)))
  | false, .nil => .ret (.t (.v (.int .i64 0)))
  | false, .ref _ n => .ret (.t (.v (.int .i64 n)))
  | false, .sub _ _ _ _ n _ => .ret (.t (.v (.int .i64 n)))
  | _, _ => .fail
 | .mm mx x y => match A6 s x, A6 s y with
  | .t (.v (.int k a)), .t (.v (.int _ b)) => .ret (.t (.v (.int k (if mx then (if a < b then b else a) else (if b < a then b else a)))))
  | _, _ => .fail
 | .ext x i => match A6 s x with
  | .tup vs => match vs[i]? with | some v => .ret v | none => .fail
  | _ => .fail
 | .mkf f caps => .ret (.fn f (caps.map (A6 s)))
structure IT where
 d : Option Nat
 g : Option (Nat × Bool)
 o : O
 rd : List Nat := []
 wr : List Nat := []
 deriving Inhabited
@[simp] abbrev oo (d : Nat) (o : O) : IT := ⟨some d, none, o, [], []⟩
@[simp] abbrev ow (d : Nat) (g : Nat) (w : Bool) (o : O) : IT := ⟨some d, some (g, w), o, [], []⟩
@[simp] abbrev on (o : O) : IT := ⟨none, none, o, [], []⟩
inductive H where
 | kill (ts : List Nat)
 | clean (ts : List Nat)
 | freeze (t : Nat)
 | own (t d : Nat)
 | home (t d : Nat)
 | frzc (d k : Nat)
 | frzr (d k : Nat)
 | frzb (d k : Nat)
 deriving Inhabited
inductive K where
 | skip
 | reg (draw : Bool) (Ct : List IT)
 | seq (a b : K)
 | cond (x : Cd) (a b : K)
 | blk (id : Nat) (b : K)
 | loop (b : K)
 | ex (id : Nat)
 | ret
 | h (hs : List H) (k : K)
 | hp (hs : List H) (k : K)
 deriving Inhabited
inductive Ex where
 | normal
 | exit (id : Nat)
 | ret
 deriving Inhabited
structure St where
 s : List V
 r : R
 deriving Inhabited
def St.put (st : St) (d : Option Nat) (v : V) : St := match d with
 | some t => { st with s := st.s.set t v }
 | none => st
def FB (s : List V) : Option (Nat × Bool) → Option Bool
 | none => some true
 | some (t, want) => match s.getD t .dead with
  | .t (.v (.bool b)) => some (b == want)
  | .tup [] => some false
  | _ => none
def Ce (call : AN) (draw : Bool) (e : IT) (st : St) : Option St :=
 (FB st.s e.g).bind fun w => if w then
  ((if draw then (Av st.s (e.d.getD 0) e.o).runA call (e.d.getD 0) e.rd e.wr st.r else (Av st.s (e.d.getD 0) e.o).run call (e.d.getD 0) st.r).map fun q => ({ st with r := q.2 } : St).put e.d q.1)
  else some (st.put e.d (.tup []))
def DL (call : AN) (draw : Bool) : List IT → St → Option St
 | [], st => some st
 | e :: es, st => (Ce call draw e st).bind (DL call draw es)
mutual
def V.mentions (ts : List Nat) : V → Bool
 | .ref id _ => ts.contains id.1
 | .sub .. => true
 | .ptr id p _ _ _ _ => !p.isEmpty || ts.contains id.1
 | .agg cs => I6 ts cs
 | .fn _ cs => I6 ts cs
 | .tup cs => I6 ts cs
 | .vb .. => true
 | _ => false
def I6 (ts : List Nat) : List V → Bool
 | [] => false
 | v :: vs => v.mentions ts || I6 ts vs
end
def DK.calm : DK → DK
 | .mem rows _ fx => .mem rows 0 fx
 | .dead => .dead
def NT (ts : List Nat) (t : Nat) (es : List DK) : List DK := if ts.contains t then [] else es.map DK.calm
def K0 (ts : List Nat) (t : Nat) (v : V) : V := if ts.contains t || v.mentions ts then .dead else v
def Kb {α : Type} : V → (V → M α) → M α
 | .ref id n, k => .get id fun
   | .mem rows _ fx => if rows.length = n ∧ fx = false then .set id .dead (k (.t (.sl false (AV rows)))) else .fail
   | _ => .fail
 | .ptr id p i off n _, k => if p.isEmpty && (i == 0 && n == 1) then .get id fun
   | .mem [cells] _ fx => if off < cells.length ∧ fx = false then .set id .dead (k (.pp ((GB cells).drop off))) else .fail
   | _ => .fail else .fail
 | .nil, k => k (.t (.sl false []))
 | .t (.sl o rows), k => k (.t (.sl o rows))
 | _, _ => .fail
def doH (st : St) : H → Option St
 | .kill ts => some { st with s := ts.foldl (fun s t => s.set t .dead) st.s }
 | .clean ts => some { s := st.s.mapIdx (K0 ts), r := st.r.mapIdx (NT ts) }
 | .freeze t => ((Kb (st.s.getD t .dead) .ret).run (fun _ _ => none) 0 st.r).map fun q => { s := st.s.set t q.1, r := q.2 }
 | .own t d => match st.s.getD t .dead with
  | .nil => if d < st.r.length && (st.r.getD d []).isEmpty then some { s := st.s.set t (.ref (d, 0) 0), r := st.r.set d [.mem [] 0 false] } else none
  | .ref _ _ => some st
  | _ => none
 | .home t d => match st.s.getD t .dead with
  | .ref id n => match AK st.r id, st.r.getD d [] with
   | .mem rows _ false, [.dead] => if rows.length = n ∧ id.1 ≠ d then some { s := (st.s.mapIdx (K0 [id.1, d])).set t (.ref (d, 0) n), r := (st.r.set id.1 []).set d [.mem rows 0 false] } else none
   | _, _ => none
  | _ => none
 | .frzc d k => match AK st.r (d, 0) with
  | .mem rows stt fx => match BD rows [] 0 k with
   | some (.sl true rs) => some { st with r := Bc st.r (d, 0) (.mem (An rows [] 0 k (.sl false (AV rs))) stt fx) }
   | some (.sl false _) => some st
   | _ => none
  | _ => none
 | .frzr d k => match AK st.r (d, k) with
  | .mem rows stt fx => some { st with r := Bc st.r (d, k) (.mem (AV rows) (stt + 1) fx) }
  | _ => none
 | .frzb d k => match AK st.r (d, 0) with
  | .mem rows stt fx => match BD rows [] 0 k with
   | some (.sl true rs) => some { st with r := Bc st.r (d, 0) (.mem (An rows [] 0 k (.sl true (AV rs))) (stt + 1) fx) }
   | _ => none
  | _ => none
def Pv : List H → St → Option St
 | [], st => some st
 | h :: hs, st => (doH st h).bind (Pv hs)
def iter (f : St → Option (Ex × St)) : Nat → St → Option (Ex × St)
 | 0, _ => none
 | n + 1, st => (f st).bind fun q => match q.1 with
  | .normal => iter f n q.2
  | e => some (e, q.2)
def C2 (call : AN) (lf : Nat) : K → St → Option (Ex × St)
 | .skip, st => some (.normal, st)
 | .reg draw Ct, st => (DL call draw Ct st).map fun st' => (.normal, st')
 | .seq a b, st => (C2 call lf a st).bind fun q => match q.1 with
  | .normal => C2 call lf b q.2
  | e => some (e, q.2)
 | .cond x a b, st => match A6 st.s x with
  | .t (.v (.bool true)) => C2 call lf a st
  | .t (.v (.bool false)) => C2 call lf b st
  | _ => none
 | .blk id b, st => (C2 call lf b st).map fun q => match q.1 with
  | .exit j => if j = id then (.normal, q.2) else (.exit j, q.2)
  | e => (e, q.2)
 | .loop b, st => iter (fun st => C2 call lf b st) lf st
 | .ex id, st => some (.exit id, st)
 | .ret, st => some (.ret, st)
 | .h hs k, st => (C2 call lf k st).bind fun q => match q.1 with
  | .normal => (Pv hs q.2).map fun st' => (.normal, st')
  | e => some (e, q.2)
 | .hp hs k, st => (Pv hs st).bind fun st' => C2 call lf k st'
inductive RK where
 | tmp (t : Nat)
 | cell (t n : Nat) (ag : Bool)
 deriving Inhabited
inductive K2 where
 | seqL (a : K2) (b : K)
 | seqR (a : K) (b : K2)
 | condL (x : Cd) (a : K2) (b : K)
 | condR (x : Cd) (a : K) (b : K2)
 | condB (x : Cd) (a b : K2)
 | blk (id : Nat) (b : K2)
 | h (hs : List H) (k : K2)
 | hp (hs : List H) (k : K2)
 | coin (t u : Nat) (a b : K)
 deriving Inhabited
def K2.pick (c : Bool) : K2 → K
 | .seqL a b => .seq (a.pick c) b
 | .seqR a b => .seq a (b.pick c)
 | .condL x a b => .cond x (a.pick c) b
 | .condR x a b => .cond x a (b.pick c)
 | .condB x a b => .cond x (a.pick c) (b.pick c)
 | .blk id b => .blk id (b.pick c)
 | .h hs k => .h hs (k.pick c)
 | .hp hs k => .hp hs (k.pick c)
 | .coin t u a b => .seq (.reg false [oo t (.alloc [.v (.bool false)]), on (.st 1 (.s t) (.c (.bool (!c)))), on (.st 1 (.s t) (.c (.bool c))), oo u (.ld 1 false (.s t))]) (.cond (.s u) a b)
structure F where
 nt : Nat
 res : List RK
 body : K
 co : Option K2
 deriving Inhabited
mutual
def Su (t k : Nat) : GA → V × List DK
 | .t c => (.t c, [])
 | .agg cs => let a := Z7 t k cs; (.agg a.1, a.2)
 | .ln rows => (.ref (t, k) rows.length, [.mem rows 0 true])
 | .lp cells off => (.ptr (t, k) [] 0 off 1 0, [.mem [cells] 0 true])
 | .pp cells => (.pp cells, [])
 | .fn f caps => let a := Z7 t k caps; (.fn f a.1, a.2)
def Z7 (t k : Nat) : List GA → List V × List DK
 | [] => ([], [])
 | a :: as => let x := Su t k a; let y := Z7 t (k + x.2.length) as; (x.1 :: y.1, x.2 ++ y.2)
end
def Lr (t : Nat) : List GA → List (V × List DK)
 | [] => []
 | a :: as => Su t 0 a :: Lr (t + 1) as
def enter (nt : Nat) (args : List GA) : St :=
 let ps := Lr 0 args
 { s := ps.map (·.1) ++ List.replicate (nt - args.length) .dead, r := ps.map (·.2) ++ List.replicate (nt - args.length) [] }
def iY {α : Type} : V → (T → M α) → M α
 | .nil, k => k (.sl true [])
 | v, k => take v k
def dh {α : Type} : List V → (List T → M α) → M α
 | [], k => k []
 | v :: vs, k => iY v fun t => dh vs fun ts => k (t :: ts)
def Z8 {α : Type} : V → (RV → M α) → M α
 | .agg cs, k => dh cs fun ts => k (.agg ts)
 | .ptr id p i off n st, k => if p.isEmpty && i = 0 && off = 0 && n = 1 then .get id fun
   | .mem [cells] _ fx => if fx then .fail else .set id .dead (k (.box cells))
   | _ => .fail else .fail
 | v, k => iY v fun t => k (.t t)
def np {α : Type} (s : List V) : RK → (V → M α) → M α
 | .tmp t, k => k (s.getD t .dead)
 | .cell t n ag, k => match s.getD t .dead with
  | .ptr id p i off m st => .get id fun
    | .mem rows stt _ => (match Cq rows stt p i m st with
     | some row => if off + n ≤ row.length then
       (let vs := Jz id p i off stt ((row.drop off).take n); if ag then k (.agg vs) else match vs with | [v] => k v | _ => .fail) else .fail
     | none => .fail)
    | _ => .fail
  | _ => .fail
def bq {α : Type} (s : List V) : List RK → (List RV → M α) → M α
 | [], k => k []
 | q :: qs, k => np s q fun v => Z8 v fun x => bq s qs fun xs => k (x :: xs)
def Z9 : DK → Option Rows
 | .mem rows _ true => some rows
 | _ => none
def ZA (r : R) (na : Nat) : List (Option Rows) := (r.take na).flatMap fun es => es.map Z9
def MP (r : R) (na : Nat) : List Nat := (r.take na).map (·.length)
abbrev br := FuncId → Option F
def SY (call : AN) (lf : Nat) (nt : Nat) (res : List RK) (body : K) (args : List GA) : Option Am :=
 if args.length ≤ nt then
  (C2 call lf body (enter nt args)).bind fun q => match q.1 with
   | .exit _ => none
   | _ => ((bq q.2.s res M.ret).run (fun _ _ => none) 0 q.2.r).bind fun o =>
    if MP o.2 args.length = MP (enter nt args).r args.length then some { vals := o.1, after := ZA o.2 args.length } else none
 else none
noncomputable def bt (call : AN) (lf : Nat) (fn : F) (args : List GA) : Option Am := match fn.co with
 | none => SY call lf fn.nt fn.res fn.body args
 | some k => (SY call lf fn.nt fn.res (k.pick true) args).bind fun x => (SY call lf fn.nt fn.res (k.pick false) args).bind fun y => @ite _ (x = y) (Classical.propDecidable _) (some x) none
noncomputable def EM (FT : br) (X : AN) : Nat → AN
 | 0, _, _ => none
 | n + 1, f, args => match X f args with
  | some r => some r
  | none => (FT f).bind fun fn => bt (EM FT X n) n fn args
end TT
