import Derived.Test.YtgihjlfmnfbcaaaDoorTA
import Derived.Laws.Strings
import Derived.Laws.StructEq
set_option linter.unusedVariables false
set_option linter.unusedSimpArgs false
namespace TT
open Go
def KA (p : AE) (i : Nat) : Nat := match p with
 | [] => i
 | (j, _) :: _ => j
abbrev CD := Option Addr × Nat
def Gh (ρ : Id → CD) (r : R) (id : Id) (n : Nat) (u : Value) : Prop :=
 ∀ rows stt fx, A9 r id = .mem rows stt fx → n ≤ rows.length ∧ (rows.length = n → u = .slice (ρ id).1 n (ρ id).2)
def GP (w : World) (ρ : Id → CD) (r : R) (id : Id) (p : AE) (i c n st : Nat) (u : Value) : Prop :=
 ∀ rows stt fx, A9 r id = .mem rows stt fx → st ≤ stt ∧ (st = stt → KA p i < rows.length ∧
  ∀ rs, AX rows p i c = some (.sl true rs) → rs.length = n → ∃ b k, AM w (ρ id).1 rows p i c b k ∧ w.cell? ⟨b, k, none⟩ = some u)
def Ft (w : World) (ρ : Id → CD) (r : R) (id : Id) (p : AE) (i off n st : Nat) (a : Addr) : Prop :=
 ∀ rows stt fx, A9 r id = .mem rows stt fx → (p = [] → n ≤ rows.length) ∧ (p ≠ [] → st ≤ stt) ∧ ((p = [] → rows.length = n) → (p ≠ [] → st = stt) →
  (p ≠ [] → KA p i < rows.length) ∧ ∀ row, (Af rows p).bind (·[i]?) = some row → off < row.length → ∃ b k, AM w (ρ id).1 rows p i off b k ∧ a = ⟨b, k, none⟩)
def En (w : World) (ρ : Id → CD) (r : R) (id : Id) (st : Nat) (us : List Value) : Prop :=
 ∀ rows stt fx, A9 r id = .mem rows stt fx → 1 ≤ rows.length ∧ st ≤ stt ∧ (st = stt → rows.length = 1 → ∃ row b, rows = [row] ∧ row.length = us.length ∧ (ρ id).1 = some ⟨b, 0, none⟩ ∧
  ∀ (j : Nat) u, us[j]? = some u → w.cell? ⟨b, j, none⟩ = some u)
def AD (r : R) (id : Id) : Prop := id.2 < (r.getD id.1 []).length
mutual
def A0 (w : World) (B : Nat → Prop) (ρ : Id → CD) (r : R) : V → Value → Prop
 | .t c, u => CF w B c u ∧ u.oneCell' = true
 | .nil, u => u = .slice none 0 0
 | .agg cs, u => ∃ us, u = .agg us ∧ A4 w B ρ r cs us.toList
 | .ref id n, u => AD r id ∧ (∃ q cap, u = .slice q n cap ∧ n ≤ cap ∧ cap ≤ maxLen) ∧ Gh ρ r id n u
 | .sub id p i c n st, u => AD r id ∧ (∃ q cap, u = .slice q n cap ∧ n ≤ cap) ∧ GP w ρ r id p i c n st u
 | .ptr id p i off n st, u => AD r id ∧ ∃ a, u = .pointer (some a) ∧ Ft w ρ r id p i off n st a
 | .pp cs, u => ∃ b o, u = .pointer (some ⟨b, o, none⟩) ∧ B b ∧ E6 w B b o cs
 | .fn f caps, u => ∃ us, u = .func (.func f) #[] us ∧ A4 w B ρ r caps us.toList
 | .tup vs, u => ∃ us, u = .tuple us ∧ A4 w B ρ r vs us.toList
 | .vb id off st cs, u => AD r id ∧ (∃ a, u = .pointer (some a) ∧ Ft w ρ r id [] 0 off 1 0 a) ∧ ∃ us, A4 w B ρ r cs us ∧ En w ρ r id st us
 | .vw id lo hi n, u => AD r id ∧ ∃ q cap, u = .slice (if cap = lo then q else q.map (·.add lo)) (hi - lo) (cap - lo) ∧ lo ≤ hi ∧ hi ≤ n ∧ n ≤ cap ∧ Gh ρ r id n (.slice q n cap)
 | .dead, _ => True
def A4 (w : World) (B : Nat → Prop) (ρ : Id → CD) (r : R) : List V → List Value → Prop
 | [], us => us = []
 | v :: vs, us => ∃ u us', us = u :: us' ∧ A0 w B ρ r v u ∧ A4 w B ρ r vs us'
end
theorem A4.get {w : World} {B : Nat → Prop} {ρ : Id → CD} {r : R} : ∀ {vs : List V} {us : List Value}, A4 w B ρ r vs us → ∀ (i : Nat) (v : V), vs[i]? = some v → ∃ u, us[i]? = some u ∧ A0 w B ρ r v u
 | [], us, h, i, v, hi => by simp at hi
 | v0 :: vs, us, h, i, v, hi => by
  simp only [A4] at h
  obtain ⟨u, us', rfl, h1, h2⟩ := h
  cases i with
  | zero => simp at hi; subst hi; exact ⟨u, by simp, h1⟩
  | succ i => simp at hi; obtain ⟨u', h3, h4⟩ := A4.get h2 i v hi; exact ⟨u', by simpa using h3, h4⟩
theorem A4.length {w : World} {B : Nat → Prop} {ρ : Id → CD} {r : R} : ∀ {vs : List V} {us : List Value}, A4 w B ρ r vs us → us.length = vs.length
 | [], us, h => by simp only [A4] at h; simp [h]
 | v0 :: vs, us, h => by
  simp only [A4] at h
  obtain ⟨u, us', rfl, h1, h2⟩ := h
  simp [A4.length h2]
theorem A4.append {w : World} {B : Nat → Prop} {ρ : Id → CD} {r : R} : ∀ {vs vs' : List V} {us us' : List Value}, A4 w B ρ r vs us → A4 w B ρ r vs' us' → A4 w B ρ r (vs ++ vs') (us ++ us')
 | [], vs', us, us', h, h' => by simp only [A4] at h; subst h; simpa using h'
 | v0 :: vs, vs', us, us', h, h' => by
  simp only [A4] at h
  obtain ⟨u, us1, rfl, h1, h2⟩ := h
  simp only [List.cons_append, A4]
  exact ⟨u, us1 ++ us', rfl, h1, A4.append h2 h'⟩
theorem A4.drop {w : World} {B : Nat → Prop} {ρ : Id → CD} {r : R} : ∀ {vs : List V} {us : List Value} (n : Nat), A4 w B ρ r vs us → A4 w B ρ r (vs.drop n) (us.drop n)
 | vs, us, 0, h => by simpa using h
 | [], us, n + 1, h => by simp only [A4] at h; subst h; simp [A4]
 | v0 :: vs, us, n + 1, h => by
  simp only [A4] at h
  obtain ⟨u, us1, rfl, h1, h2⟩ := h
  simpa using A4.drop n h2
theorem A4.take {w : World} {B : Nat → Prop} {ρ : Id → CD} {r : R} : ∀ {vs : List V} {us : List Value} (n : Nat), A4 w B ρ r vs us → A4 w B ρ r (vs.take n) (us.take n)
 | vs, us, 0, h => by simp [A4]
 | [], us, n + 1, h => by simp only [A4] at h; subst h; simp [A4]
 | v0 :: vs, us, n + 1, h => by
  simp only [A4] at h
  obtain ⟨u, us1, rfl, h1, h2⟩ := h
  simp only [List.take_succ_cons, A4]
  exact ⟨u, us1.take n, rfl, h1, A4.take n h2⟩
mutual
theorem A0.turn {w w' : World} {B B' : Nat → Prop} {ρ ρ' : Id → CD} {r r' : R} (hB : ∀ b, B b → B' b) (h : Bu B w w') (hT : ∀ id, AD r id → AD r' id)
  (h1 : ∀ id n u, AD r id → Gh ρ r id n u → Gh ρ' r' id n u) (h2 : ∀ id p i c n st u, AD r id → GP w ρ r id p i c n st u → GP w' ρ' r' id p i c n st u)
  (h3 : ∀ id p i off n st a, AD r id → Ft w ρ r id p i off n st a → Ft w' ρ' r' id p i off n st a)
  (h4 : ∀ id st us, AD r id → En w ρ r id st us → En w' ρ' r' id st us) : ∀ {v : V} {u : Value}, A0 w B ρ r v u → A0 w' B' ρ' r' v u
 | .t c, u, hh => by simp only [A0] at hh ⊢; exact ⟨CF.same hB h hh.1, hh.2⟩
 | .nil, u, hh => by simpa only [A0] using hh
 | .agg cs, u, hh => by simp only [A0] at hh ⊢; obtain ⟨us, g1, g2⟩ := hh; exact ⟨us, g1, A4.turn hB h hT h1 h2 h3 h4 g2⟩
 | .ref id n, u, hh => by simp only [A0] at hh ⊢; exact ⟨hT _ hh.1, hh.2.1, h1 _ _ _ hh.1 hh.2.2⟩
 | .sub id p i c n st, u, hh => by simp only [A0] at hh ⊢; exact ⟨hT _ hh.1, hh.2.1, h2 _ _ _ _ _ _ _ hh.1 hh.2.2⟩
 | .ptr id p i off n st, u, hh => by simp only [A0] at hh ⊢; obtain ⟨g0, a, g1, g2⟩ := hh; exact ⟨hT _ g0, a, g1, h3 _ _ _ _ _ _ _ g0 g2⟩
 | .pp cs, u, hh => by
  simp only [A0] at hh ⊢
  obtain ⟨b, o, g1, g2, g3⟩ := hh
  exact ⟨b, o, g1, hB b g2, E6.same hB h g2 g3⟩
 | .fn f cs, u, hh => by simp only [A0] at hh ⊢; obtain ⟨us, g1, g2⟩ := hh; exact ⟨us, g1, A4.turn hB h hT h1 h2 h3 h4 g2⟩
 | .tup cs, u, hh => by simp only [A0] at hh ⊢; obtain ⟨us, g1, g2⟩ := hh; exact ⟨us, g1, A4.turn hB h hT h1 h2 h3 h4 g2⟩
 | .vb id off st cs, u, hh => by simp only [A0] at hh ⊢; obtain ⟨g0, ⟨a, g1, g2⟩, us, g3, g4⟩ := hh; exact ⟨hT _ g0, ⟨a, g1, h3 _ _ _ _ _ _ _ g0 g2⟩, us, A4.turn hB h hT h1 h2 h3 h4 g3, h4 _ _ _ g0 g4⟩
 | .vw id lo hi n, u, hh => by simp only [A0] at hh ⊢; obtain ⟨g0, q, cap, g1, g2, g3, g4, g5⟩ := hh; exact ⟨hT _ g0, q, cap, g1, g2, g3, g4, h1 _ _ _ g0 g5⟩
 | .dead, u, hh => by simp only [A0]
theorem A4.turn {w w' : World} {B B' : Nat → Prop} {ρ ρ' : Id → CD} {r r' : R} (hB : ∀ b, B b → B' b) (h : Bu B w w') (hT : ∀ id, AD r id → AD r' id)
  (h1 : ∀ id n u, AD r id → Gh ρ r id n u → Gh ρ' r' id n u) (h2 : ∀ id p i c n st u, AD r id → GP w ρ r id p i c n st u → GP w' ρ' r' id p i c n st u)
  (h3 : ∀ id p i off n st a, AD r id → Ft w ρ r id p i off n st a → Ft w' ρ' r' id p i off n st a)
  (h4 : ∀ id st us, AD r id → En w ρ r id st us → En w' ρ' r' id st us) : ∀ {vs : List V} {us : List Value}, A4 w B ρ r vs us → A4 w' B' ρ' r' vs us
 | [], us, hh => by simpa only [A4] using hh
 | v :: vs, us, hh => by
  simp only [A4] at hh ⊢
  obtain ⟨u, us', g1, g2, g3⟩ := hh
  exact ⟨u, us', g1, A0.turn hB h hT h1 h2 h3 h4 g2, A4.turn hB h hT h1 h2 h3 h4 g3⟩
end
structure Gt where
 ok : (Nat → Prop) → World → Prop
 mono : ∀ {B B' : Nat → Prop} {w w' : World}, ok B w → (∀ b, B b → B' b) → (∀ b, B b → w'.heap[b]? = w.heap[b]?) → ok B' w'
structure Gc where
 P : Program
 G : Gt
 w0 : World
 B0 : Nat → Prop
 L0 : Nat → Prop
 hG : G.ok B0 w0
 hL : ∀ b, L0 b → ¬ B0 b
 hB : ∀ b, B0 b → b < w0.heap.size
 q0 : Id → CD
 n0 : Id → Nat
def Eo (c : Gc) (w : World) (B : Nat → Prop) (ρ : Id → CD) (r : R) (id : Id) (S : Nat → Prop) : BO → Prop
 | .dead => JE S
 | .mem rows stt fx => C7 w B (ρ id).1 (ρ id).2 rows S ∧ (fx = true → ρ id = c.q0 id ∧ rows.length = c.n0 id)
structure Az (c : Gc) (w : World) (B : Nat → Prop) (ρ : Id → CD) (Sf : Id → Nat → Prop) (X : Nat → Prop) (r : R) : Prop where
 ents : ∀ id, Eo c w B ρ r id (Sf id) (A9 r id)
 disj : ∀ id id' b, Sf id b → Sf id' b → id = id'
 nb : ∀ id b, Sf id b → ¬ B b
 xb : ∀ b, X b → ¬ B b
 xd : ∀ id b, X b → ¬ Sf id b
 inB : ∀ b, B b → b < w.heap.size
 inX : ∀ b, X b → b < w.heap.size
 own : ∀ id b, Sf id b → c.L0 b ∨ c.w0.heap.size ≤ b
 ownX : ∀ b, X b → c.L0 b ∨ c.w0.heap.size ≤ b
 old : ∀ b, c.B0 b → B b
 sh : ∀ b, B b → c.B0 b ∨ c.L0 b ∨ c.w0.heap.size ≤ b
 size : c.w0.heap.size ≤ w.heap.size
 frame : ∀ b, b < c.w0.heap.size → ¬ c.L0 b → w.heap[b]? = c.w0.heap[b]?
 os : w.os = c.w0.os
 tape : w.tape = c.w0.tape
 output : w.output = c.w0.output
theorem Az.tabs {c : Gc} {w : World} {B : Nat → Prop} {ρ : Id → CD} {Sf : Id → Nat → Prop} {X : Nat → Prop} {r : R} (h : Az c w B ρ Sf X r) : c.G.ok B w :=
 c.G.mono c.hG h.old fun b hb => h.frame b (c.hB b hb) fun hl => c.hL b hl hb
theorem Ar {r : R} {id : Id} (h : A9 r id ≠ .dead) : AD r id := by
 unfold AD
 rcases Nat.lt_or_ge id.2 (r.getD id.1 []).length with h' | h'
 ·exact h'
 ·exfalso
  apply h
  simp only [A9, List.getD] at h' ⊢
  rw [List.getElem?_eq_none h']
  rfl
theorem SW {r : R} {id : Id} (h : AD r id) : id.1 < r.length := by
 unfold AD at h
 rcases Nat.lt_or_ge id.1 r.length with h' | h'
 ·exact h'
 ·simp [List.getD, List.getElem?_eq_none h'] at h
theorem EA {r : R} {id : Id} (e : BO) (t : Nat) : (AS r id e).getD t [] = if t = id.1 then (r.getD t []).set id.2 e else r.getD t [] := by
 simp only [AS, List.getD, List.getElem?_set]
 by_cases h : id.1 = t
 ·subst h
  simp only [if_true]
  split
  ·simp
  ·rename_i h'
   rw [List.getElem?_eq_none (by omega)]
   simp
 ·rw [if_neg h, if_neg (fun e => h e.symm)]
theorem A5 {r : R} {id : Id} (h : AD r id) (e : BO) : A9 (AS r id e) id = e := by
 simp only [A9, EA, if_true]
 simp [List.getD, List.getElem?_set, AD] at h ⊢
 simp [h]
theorem A6 {r : R} {id id' : Id} (h : id ≠ id') (e : BO) : A9 (AS r id e) id' = A9 r id' := by
 simp only [A9, EA]
 split
 ·rename_i h1
  have h2 : id.2 ≠ id'.2 := fun h2 => h (Prod.ext h1.symm h2)
  simp [List.getD, List.getElem?_set, h2]
 ·rfl
theorem C9 {r : R} {id id' : Id} (e : BO) : AD (AS r id e) id' ↔ AD r id' := by
 unfold AD
 rw [EA]
 split <;> simp
theorem AQ {r : R} {id : Id} (e : BO) : (AS r id e).length = r.length := by simp [AS]
end TT
namespace TT
open Go
theorem Lr (rows : Rows) (I C : Nat) (t : T) (i : Nat) : (CC rows I C t)[i]? = if i = I then (rows[i]?).map (·.set C t) else rows[i]? := by
 unfold CC
 cases h : rows[I]? with
 | none =>
  simp only []
  by_cases e : i = I
  ·subst e; simp [h]
  ·simp [e]
 | some row =>
  simp only []
  rw [List.getElem?_set]
  by_cases e : I = i
  ·subst e
   obtain ⟨h1, h2⟩ := List.getElem?_eq_some_iff.1 h
   simp [h1, h2]
  ·rw [if_neg e, if_neg (fun e' => e e'.symm)]
theorem FE {rows : Rows} {I C : Nat} {t : T} {i : Nat} {row' : List T} (h : (CC rows I C t)[i]? = some row') :
  ∃ row, rows[i]? = some row ∧ row.length = row'.length ∧ ∀ c, row'[c]? = row[c]? ∨ (i = I ∧ c = C ∧ row'[c]? = some t) := by
 rw [Lr] at h
 split at h
 ·rename_i e
  obtain ⟨row, h1, h2⟩ := Option.map_eq_some_iff.1 h
  refine ⟨row, h1, by rw [← h2]; simp, fun c => ?_⟩
  rw [← h2, List.getElem?_set]
  by_cases ec : C = c
  ·subst ec
   by_cases hl : C < row.length
   ·exact .inr ⟨e, rfl, by simp [hl]⟩
   ·left; simp [hl]
  ·left; rw [if_neg ec]
 ·exact ⟨row', h, rfl, fun c => .inl rfl⟩
theorem KB {rows : Rows} {I C : Nat} {t : T} {i : Nat} {row : List T} (h : rows[i]? = some row) : ∃ row', (CC rows I C t)[i]? = some row' ∧ row'.length = row.length := by
 rw [Lr]
 split
 ·exact ⟨row.set C t, by simp [h], by simp⟩
 ·exact ⟨row, h, rfl⟩
theorem Fu : ∀ (p P : AE) {rows : Rows} {I C : Nat} {t : T} {rs' : Rows}, t.isOwn = false → Af (AO rows P I C t) p = some rs' →
  ∃ rs, Af rows p = some rs ∧ rs.length = rs'.length ∧ (∀ (i : Nat) row', rs'[i]? = some row' → ∃ row, rs[i]? = some row ∧ row.length = row'.length ∧ ∀ (c : Nat) z', row'[c]? = some (.sl true z') → ∃ z, row[c]? = some (.sl true z) ∧ z.length = z'.length) ∧
   ∀ w q i c b k, AM w q rows p i c b k → AM w q (AO rows P I C t) p i c b k
 | [], [], rows, I, C, t, rs', ht, h => by
  simp only [AO, Af, Option.some.injEq] at h
  subst h
  refine ⟨rows, rfl, (F0 ..).symm, ?_, ?_⟩
  ·intro i row' hr
   obtain ⟨row, h1, h2, h3⟩ := FE hr
   refine ⟨row, h1, h2, fun c z' hz => ?_⟩
   rcases h3 c with h4 | ⟨_, _, h4⟩
   ·exact ⟨z', by rw [← h4]; exact hz, rfl⟩
   ·rw [h4] at hz; simp only [Option.some.injEq] at hz; subst hz; simp [T.isOwn] at ht
  ·rintro w q i c b k ⟨g1, row, g2, g3, g4⟩
   obtain ⟨row', h1, h2⟩ := KB (I := I) (C := C) (t := t) g2
   exact ⟨g1, row', h1, by omega, by rw [h2]; exact g4⟩
 | [], (I0, C0) :: P, rows, I, C, t, rs', ht, h => by
  simp only [Af, Option.some.injEq] at h
  subst h
  simp only [AO]
  split
  ·rename_i rows1 hrc
   refine ⟨rows, rfl, (F0 ..).symm, ?_, ?_⟩
   ·intro i row' hr
    obtain ⟨row, h1, h2, h3⟩ := FE hr
    refine ⟨row, h1, h2, fun c z' hz => ?_⟩
    rcases h3 c with h4 | ⟨e1, e2, h4⟩
    ·exact ⟨z', by rw [← h4]; exact hz, rfl⟩
    ·subst e1; subst e2
     rw [h4] at hz
     simp only [Option.some.injEq, T.sl.injEq, true_and] at hz
     subst hz
     obtain ⟨row0, g1, g2⟩ := Option.bind_eq_some_iff.1 hrc
     rw [h1] at g1
     cases g1
     exact ⟨rows1, g2, by rw [AJ]⟩
   ·rintro w q i c b k ⟨g1, row, g2, g3, g4⟩
    obtain ⟨row', h1, h2⟩ := KB (I := I0) (C := C0) (t := .sl true (AO rows1 P I C t)) g2
    exact ⟨g1, row', h1, by omega, by rw [h2]; exact g4⟩
  ·exact ⟨rows, rfl, rfl, fun i row' hr => ⟨row', hr, rfl, fun c z' hz => ⟨z', hz, rfl⟩⟩, fun w q i c b k hh => hh⟩
 | (i0, c0) :: p, P, rows, I, C, t, rs', ht, h => by
  simp only [Af] at h
  cases hrc' : (AO rows P I C t)[i0]?.bind (·[c0]?) with
  | none => simp [hrc'] at h
  | some x =>
   rw [hrc'] at h
   cases x with
   | v x => simp at h
   | hole => simp at h
   | sl own rows1' =>
    cases own with
    | false => simp at h
    | true =>
     simp only [] at h
     obtain ⟨row', hr', hc'⟩ := Option.bind_eq_some_iff.1 hrc'
     have key : ∃ row rows1, rows[i0]? = some row ∧ row.length = row'.length ∧ row[c0]? = some (.sl true rows1) ∧
       (rows1' = rows1 ∨ ∃ P1, rows1' = AO rows1 P1 I C t) := by
      cases P with
      | nil =>
       simp only [AO] at hr'
       obtain ⟨row, h1, h2, h3⟩ := FE hr'
       rcases h3 c0 with h4 | ⟨_, _, h4⟩
       ·exact ⟨row, rows1', h1, h2, by rw [← h4]; exact hc', .inl rfl⟩
       ·rw [h4] at hc'; simp only [Option.some.injEq] at hc'; subst hc'; simp [T.isOwn] at ht
      | cons IC P =>
       obtain ⟨I0, C0⟩ := IC
       simp only [AO] at hr'
       split at hr'
       ·rename_i rowsP hP
        obtain ⟨row, h1, h2, h3⟩ := FE hr'
        rcases h3 c0 with h4 | ⟨e1, e2, h4⟩
        ·exact ⟨row, rows1', h1, h2, by rw [← h4]; exact hc', .inl rfl⟩
        ·subst e1; subst e2
         rw [h4] at hc'
         simp only [Option.some.injEq, T.sl.injEq, true_and] at hc'
         obtain ⟨row0, g1, g2⟩ := Option.bind_eq_some_iff.1 hP
         rw [h1] at g1
         cases g1
         exact ⟨row, rowsP, h1, h2, g2, .inr ⟨P, hc'.symm⟩⟩
       ·exact ⟨row', rows1', hr', rfl, hc', .inl rfl⟩
     obtain ⟨row, rows1, k1, k2, k3, k4⟩ := key
     have hget : ∀ p', Af rows ((i0, c0) :: p') = Af rows1 p' := fun p' => by
      have : rows[i0]?.bind (·[c0]?) = some (.sl true rows1) := by rw [k1]; exact k3
      simp only [Af, this]
     rcases k4 with k4 | ⟨P1, k4⟩
     ·subst k4
      refine ⟨rs', by rw [hget]; exact h, rfl, fun i row' hr => ⟨row', hr, rfl, fun c z' hz => ⟨z', hz, rfl⟩⟩, ?_⟩
      rintro w q i c b k ⟨b0, rw_, rws, q1, n1, cap1, g1, g2, g3, g4, g5⟩
      rw [k1] at g2; cases g2
      rw [k3] at g3; cases g3
      exact ⟨b0, row', rows1', q1, n1, cap1, g1, hr', hc', by rw [← k2]; exact g4, g5⟩
     ·subst k4
      obtain ⟨rs, m1, m2, m3, m4⟩ := Fu p P1 ht h
      refine ⟨rs, by rw [hget]; exact m1, m2, m3, ?_⟩
      rintro w q i c b k ⟨b0, rw_, rws, q1, n1, cap1, g1, g2, g3, g4, g5⟩
      rw [k1] at g2; cases g2
      rw [k3] at g3; cases g3
      exact ⟨b0, row', _, q1, n1, cap1, g1, hr', hc', by rw [← k2]; exact g4, m4 w q1 i c b k g5⟩
theorem RC {p P : AE} {rows : Rows} {I C i c : Nat} {t : T} {z' : Rows} (ht : t.isOwn = false) (h : AX (AO rows P I C t) p i c = some (.sl true z')) :
  ∃ z, AX rows p i c = some (.sl true z) ∧ z.length = z'.length := by
 simp only [AX] at h
 obtain ⟨rs', h1, h2⟩ := Option.bind_eq_some_iff.1 h
 obtain ⟨row', h3, h4⟩ := Option.bind_eq_some_iff.1 h2
 obtain ⟨rs, m1, _, m3, _⟩ := Fu p P ht h1
 obtain ⟨row, n1, _, n3⟩ := m3 i row' h3
 obtain ⟨z, n4, n5⟩ := n3 c z' h4
 exact ⟨z, by simp only [AX, m1, Option.bind_some, n1, n4], n5⟩
theorem Gh.of_same {ρ : Id → CD} {r r' : R} (h : ∀ id rows stt fx, A9 r' id = .mem rows stt fx → ∃ rows0 stt0 fx0, A9 r id = .mem rows0 stt0 fx0 ∧ rows0.length = rows.length) {id : Id} {n : Nat} {u : Value} (hh : Gh ρ r id n u) : Gh ρ r' id n u := by
 intro rows stt fx hg
 obtain ⟨rows0, stt0, fx0, h1, h2⟩ := h id rows stt fx hg
 have := hh rows0 stt0 fx0 h1
 exact ⟨by omega, fun e => this.2 (by omega)⟩
section
variable {w w' : World} {B B' : Nat → Prop} {ρ : Id → CD} {r : R} {id0 : Id}
theorem Nd {e : BO} (he : ∀ rows stt fx, e ≠ .mem rows stt fx) {v : V} {u : Value} (h : A0 w B ρ r v u) : A0 w B ρ (AS r id0 e) v u := by
 have hT : ∀ id, AD r id → AD (AS r id0 e) id := fun id h => (C9 e).2 h
 have hg : ∀ id, AD r id → ∀ rows stt fx, A9 (AS r id0 e) id = .mem rows stt fx → A9 r id = .mem rows stt fx := by
  intro id ht rows stt fx h
  by_cases e1 : id0 = id
  ·subst e1; rw [A5 ht] at h; exact absurd h (he rows stt fx)
  ·rwa [A6 e1] at h
 exact A0.turn (fun _ h => h) (fun _ _ => rfl) hT (fun id n u ht hh rows stt fx h => hh rows stt fx (hg id ht _ _ _ h))
  (fun id p i c n st u ht hh rows stt fx h => hh rows stt fx (hg id ht _ _ _ h)) (fun id p i off n st a ht hh rows stt fx h => hh rows stt fx (hg id ht _ _ _ h)) (fun id st us ht hh rows stt fx h => hh rows stt fx (hg id ht _ _ _ h)) h
theorem JH {rows : Rows} {stt : Nat} {fx fx' : Bool} (h0 : A9 r id0 = .mem rows stt fx) {P : AE} {I C : Nat} {t : T} (ht : t.isOwn = false) {v : V} {u : Value} (h : A0 w B ρ r v u) :
  A0 w B ρ (AS r id0 (.mem (AO rows P I C t) stt fx')) v u := by
 have hth : AD r id0 := Ar (by rw [h0]; simp)
 have hT : ∀ id, AD r id → AD (AS r id0 (.mem (AO rows P I C t) stt fx')) id := fun id h => (C9 _).2 h
 refine A0.turn (fun _ h => h) (fun _ _ => rfl) hT ?_ ?_ ?_ ?_ h
 ·intro id n u _ hh
  refine Gh.of_same (fun id rows' stt' fx'' hg => ?_) hh
  by_cases e1 : id0 = id
  ·subst e1; rw [A5 hth] at hg; cases hg; exact ⟨_, _, _, h0, (AJ ..).symm⟩
  ·rw [A6 e1] at hg; exact ⟨_, _, _, hg, rfl⟩
 ·intro id p i c n st u _ hh rows' stt' fx'' hg
  by_cases e1 : id0 = id
  ·subst e1; rw [A5 hth] at hg; cases hg
   obtain ⟨g1, g2⟩ := hh _ _ _ h0
   refine ⟨g1, fun e => ⟨by rw [AJ]; exact (g2 e).1, fun rs hrs hl => ?_⟩⟩
   obtain ⟨z, z1, z2⟩ := RC ht hrs
   obtain ⟨b, k, l1, l2⟩ := (g2 e).2 z z1 (by omega)
   simp only [AX] at hrs
   obtain ⟨rs', y1, _⟩ := Option.bind_eq_some_iff.1 hrs
   obtain ⟨_, _, _, _, y5⟩ := Fu p P ht y1
   exact ⟨b, k, y5 _ _ _ _ _ _ l1, l2⟩
  ·rw [A6 e1] at hg; exact hh _ _ _ hg
 ·intro id p i off n st a _ hh rows' stt' fx'' hg
  by_cases e1 : id0 = id
  ·subst e1; rw [A5 hth] at hg; cases hg
   obtain ⟨g1, g2, g3⟩ := hh _ _ _ h0
   refine ⟨fun e => by rw [AJ]; exact g1 e, g2, fun e e' => ?_⟩
   obtain ⟨g4, g5⟩ := g3 (fun q => by have := e q; rw [AJ] at this; exact this) e'
   refine ⟨fun q => by rw [AJ]; exact g4 q, fun row hrow hlt => ?_⟩
   obtain ⟨rs', y1, y2⟩ := Option.bind_eq_some_iff.1 hrow
   obtain ⟨rs, z1, _, z3, z4⟩ := Fu p P ht y1
   obtain ⟨row0, x1, x2, _⟩ := z3 i row y2
   obtain ⟨b, k, l1, l2⟩ := g5 row0 (by rw [z1]; exact x1) (by omega)
   exact ⟨b, k, z4 _ _ _ _ _ _ l1, l2⟩
  ·rw [A6 e1] at hg; exact hh _ _ _ hg
 ·intro id st us _ hh rows' stt' fx'' hg
  by_cases e1 : id0 = id
  ·subst e1; rw [A5 hth] at hg; cases hg
   obtain ⟨g1, g2, g3⟩ := hh _ _ _ h0
   refine ⟨by rw [AJ]; exact g1, g2, fun e e' => ?_⟩
   obtain ⟨row, b, rfl, z2, z3⟩ := g3 e (by rw [AJ] at e'; exact e')
   have hl : (AO [row] P I C t).length = 1 := AJ ..
   match hrows : AO [row] P I C t, hl with
   | [row'], _ =>
    obtain ⟨rs, w1, _, w3, _⟩ := Fu [] P (rows := [row]) (I := I) (C := C) (rs' := [row']) ht (by rw [hrows]; rfl)
    simp only [Af, Option.some.injEq] at w1
    subst w1
    obtain ⟨row0, y1, y2, _⟩ := w3 0 row' rfl
    simp only [List.getElem?_cons_zero, Option.some.injEq] at y1
    subst y1
    exact ⟨row', b, rfl, by omega, z3⟩
  ·rw [A6 e1] at hg; exact hh _ _ _ hg
theorem AM.same {S : Nat → Prop} : ∀ (p : AE) {q : Option Addr} {cap : Nat} {rows : Rows} {S : Nat → Prop} {i c b k : Nat}, C7 w B q cap rows S → Bu S w w' → AM w q rows p i c b k → AM w' q rows p i c b k
 | [], q, cap, rows, S, i, c, b, k, _, _, h => h
 | (i0, c0) :: p, q, cap, rows, S, i, c, b, k, ho, hs, h => by
  obtain ⟨b0, row, rows1, q1, n1, cap1, g1, g2, g3, g4, g5⟩ := h
  have hgc : AX rows [] i0 c0 = some (.sl true rows1) := by simp only [AX, Af, Option.bind_some, g2, g3]
  obtain ⟨b', k', cur, e, u, S1, S2, l1, l2, l3, l4, l5, l6, l7, _⟩ := C7.lens [] ho hgc
  obtain ⟨e1, row', e2, e3, e4⟩ := l1
  rw [g1] at e1
  simp only [Option.some.injEq, Addr.mk.injEq, and_true] at e1
  subst e1
  rw [g2] at e2; cases e2
  have hc : w.cell? ⟨b0, i0 * row.length + c0, none⟩ = some u := by rw [l2.cell _, ← e4]; exact l3
  rw [hc] at g4
  simp only [Option.some.injEq] at g4
  subst g4
  obtain ⟨q2, cap2, he, hs1⟩ := Bf.1 l5
  injection he with e5 e6 e7
  subst e5
  refine ⟨b0, row, rows1, q1, n1, cap1, g1, g2, g3, by rw [BW (hs b0 (l6.right l7))]; exact hc, ?_⟩
  exact AM.same (S := S1) p hs1 (fun x hx => hs x (l6.left hx)) g5
end
end TT
namespace TT
open Go
theorem AM.unique {w : World} : ∀ (p : AE) {q : Option Addr} {rows : Rows} {i c b k b' k' : Nat}, AM w q rows p i c b k → AM w q rows p i c b' k' → b = b' ∧ k = k'
 | [], q, rows, i, c, b, k, b', k', ⟨h1, row, h2, h3, h4⟩, ⟨g1, row', g2, g3, g4⟩ => by
  rw [h1] at g1
  simp only [Option.some.injEq, Addr.mk.injEq, and_true] at g1
  rw [h2] at g2; cases g2
  exact ⟨g1, by omega⟩
 | (i0, c0) :: p, q, rows, i, c, b, k, b', k', ⟨b0, row, rows1, q1, n1, cap1, h1, h2, h3, h4, h5⟩, ⟨b0', row', rows1', q1', n1', cap1', g1, g2, g3, g4, g5⟩ => by
  rw [h1] at g1
  simp only [Option.some.injEq, Addr.mk.injEq, and_true] at g1
  subst g1
  rw [h2] at g2; cases g2
  rw [h3] at g3; cases g3
  rw [h4] at g4; cases g4
  exact AM.unique p h5 g5
section
variable {w w' : World} {B B' : Nat → Prop} {ρ ρ' : Id → CD} {r r' : R} {id0 : Id}
def KC (w w' : World) (B : Nat → Prop) (ρ : Id → CD) (r : R) (id : Id) : Prop :=
 ∀ rows stt fx, A9 r id = .mem rows stt fx → ∃ S, C7 w B (ρ id).1 (ρ id).2 rows S ∧ Bu S w w'
theorem GP.kept {id : Id} (hk : KC w w' B ρ r id) {p : AE} {i c n st : Nat} {u : Value} (h : GP w ρ r id p i c n st u) : GP w' ρ r id p i c n st u := by
 intro rows stt fx hg
 obtain ⟨g1, g2⟩ := h rows stt fx hg
 obtain ⟨S, o1, o2⟩ := hk rows stt fx hg
 refine ⟨g1, fun e => ⟨(g2 e).1, fun rs hrs hl => ?_⟩⟩
 obtain ⟨b, k, l1, l2⟩ := (g2 e).2 rs hrs hl
 obtain ⟨b', k', cur, ee, u', S1, S2, m1, m2, m3, m4, m5, m6, m7, _⟩ := C7.lens p o1 hrs
 obtain ⟨rfl, rfl⟩ := AM.unique p l1 m1
 refine ⟨b, k, AM.same (S := S) p o1 o2 l1, ?_⟩
 rw [BW (o2 b (m6.right m7))]
 exact l2
theorem Ft.kept {id : Id} (hk : KC w w' B ρ r id) {p : AE} {i off n st : Nat} {a : Addr} (h : Ft w ρ r id p i off n st a) : Ft w' ρ r id p i off n st a := by
 intro rows stt fx hg
 obtain ⟨g1, g2, g3⟩ := h rows stt fx hg
 obtain ⟨S, o1, o2⟩ := hk rows stt fx hg
 refine ⟨g1, g2, fun e e' => ⟨(g3 e e').1, fun row hr hl => ?_⟩⟩
 obtain ⟨b, k, l1, l2⟩ := (g3 e e').2 row hr hl
 exact ⟨b, k, AM.same (S := S) p o1 o2 l1, l2⟩
theorem En.kept {id : Id} (hk : KC w w' B ρ r id) {st : Nat} {us : List Value} (h : En w ρ r id st us) : En w' ρ r id st us := by
 intro rows stt fx hg
 obtain ⟨g1, g2, g3⟩ := h rows stt fx hg
 obtain ⟨S, o1, o2⟩ := hk rows stt fx hg
 refine ⟨g1, g2, fun e e' => ?_⟩
 obtain ⟨row, b, rfl, z2, z3, z4⟩ := g3 e e'
 refine ⟨row, b, rfl, z2, z3, fun j u hj => ?_⟩
 have hj' : j < row.length := by rw [z2]; exact (List.getElem?_eq_some_iff.1 hj).1
 obtain ⟨b', k', cur, ee, u', S1, S2, m1, m2, m3, m4, m5, m6, m7, _⟩ := C7.lens [] o1 (i := 0) (c := j) (t := row[j]) (by simp only [AX, Af, Option.bind_some, List.getElem?_cons_zero, List.getElem?_eq_getElem hj'])
 obtain ⟨e1, _⟩ := m1
 rw [z3] at e1
 simp only [Option.some.injEq, Addr.mk.injEq, and_true] at e1
 subst e1
 rw [BW (o2 b (m6.right m7))]
 exact z4 j u hj
theorem B5 (hB : ∀ b, B b → B' b) (hs : Bu B w w') (hk : ∀ id, KC w w' B ρ r id) {v : V} {u : Value} (h : A0 w B ρ r v u) : A0 w' B' ρ r v u :=
 A0.turn hB hs (fun _ h => h) (fun _ _ _ _ h => h) (fun id _ _ _ _ _ _ _ h => GP.kept (hk id) h) (fun id _ _ _ _ _ _ _ h => Ft.kept (hk id) h) (fun id _ _ _ h => En.kept (hk id) h) h
theorem DQ {rows rows' : Rows} {stt stt' : Nat} {fx fx' : Bool} (h0 : A9 r id0 = .mem rows stt fx) (hl : rows'.length = rows.length)
  (hr : ∀ (i : Nat) (row' : List T), rows'[i]? = some row' → ∃ row : List T, rows[i]? = some row ∧ row.length = row'.length) (hst : stt < stt')
  (hB : ∀ b, B b → B' b) (hs : Bu B w w') (hk : ∀ id, id ≠ id0 → KC w w' B ρ r id) {v : V} {u : Value} (h : A0 w B ρ r v u) : A0 w' B' ρ (AS r id0 (.mem rows' stt' fx')) v u := by
 have hth : AD r id0 := Ar (by rw [h0]; simp)
 refine A0.turn hB hs (fun id h => (C9 _).2 h) ?_ ?_ ?_ ?_ h
 ·intro id n u _ hh
  refine Gh.of_same (fun id rows' stt' fx'' hg => ?_) hh
  by_cases e1 : id0 = id
  ·subst e1; rw [A5 hth] at hg; cases hg; exact ⟨_, _, _, h0, hl.symm⟩
  ·rw [A6 e1] at hg; exact ⟨_, _, _, hg, rfl⟩
 ·intro id p i c n st u _ hh
  by_cases e1 : id0 = id
  ·subst e1
   intro rows1 stt1 fx1 hg
   rw [A5 hth] at hg; cases hg
   obtain ⟨g1, g2⟩ := hh _ _ _ h0
   exact ⟨by omega, fun e => by omega⟩
  ·have := GP.kept (hk id (Ne.symm e1)) hh
   intro rows1 stt1 fx1 hg
   rw [A6 e1] at hg
   exact this _ _ _ hg
 ·intro id p i off n st a _ hh
  by_cases e1 : id0 = id
  ·subst e1
   intro rows1 stt1 fx1 hg
   rw [A5 hth] at hg; cases hg
   obtain ⟨g1, g2, g3⟩ := hh _ _ _ h0
   refine ⟨fun e => by have := g1 e; omega, fun e => by have := g2 e; omega, fun e e' => ?_⟩
   cases p with
   | cons x p => have := g2 (by simp); have := e' (by simp); omega
   | nil =>
    refine ⟨fun q => absurd rfl q, fun row' hrow hlt => ?_⟩
    simp only [Af, Option.bind_some] at hrow
    obtain ⟨row, r1, r2⟩ := hr i row' hrow
    obtain ⟨_, g5⟩ := g3 (fun _ => by have := e rfl; omega) (fun q => absurd rfl q)
    obtain ⟨b, k, l1, l2⟩ := g5 row (by simp only [Af, Option.bind_some]; exact r1) (by omega)
    obtain ⟨x1, row1, x2, x3, x4⟩ := l1
    rw [r1] at x2; cases x2
    exact ⟨b, k, ⟨x1, row', hrow, hlt, by rw [← r2]; exact x4⟩, l2⟩
  ·have := Ft.kept (hk id (Ne.symm e1)) hh
   intro rows1 stt1 fx1 hg
   rw [A6 e1] at hg
   exact this _ _ _ hg
 ·intro id st us _ hh
  by_cases e1 : id0 = id
  ·subst e1
   intro rows1 stt1 fx1 hg
   rw [A5 hth] at hg; cases hg
   obtain ⟨g1, g2, _⟩ := hh _ _ _ h0
   exact ⟨by omega, by omega, fun e _ => by omega⟩
  ·intro rows1 stt1 fx1 hg
   rw [A6 e1] at hg
   exact En.kept (hk id (Ne.symm e1)) hh _ _ _ hg
theorem Ec {d : Nat} {es : List BO} (hd : d < r.length) (hr : r.getD d [] = []) {id : Id} : A9 (r.set d es) id = if id.1 = d then es.getD id.2 .dead else A9 r id := by
 simp only [A9, List.getD, List.getElem?_set]
 by_cases h : d = id.1
 ·subst h; simp [hd]
 ·rw [if_neg h, if_neg (fun e => h e.symm)]
theorem It {d : Nat} {es : List BO} (hd : d < r.length) (hr : r.getD d [] = []) {id : Id} (h : AD r id) : id.1 ≠ d ∧ AD (r.set d es) id := by
 have hne : id.1 ≠ d := fun e => by subst e; unfold AD at h; rw [hr] at h; simp at h
 refine ⟨hne, ?_⟩
 unfold AD at h ⊢
 simp only [List.getD, List.getElem?_set] at h ⊢
 rw [if_neg (fun e => hne e.symm)]
 exact h
theorem Hn {d : Nat} {es : List BO} (hd : d < r.length) (hr : r.getD d [] = []) (hρ : ∀ id : Id, id.1 ≠ d → ρ' id = ρ id) {v : V} {u : Value} (h : A0 w B ρ r v u) : A0 w B ρ' (r.set d es) v u := by
 have hg : ∀ id, AD r id → ∀ rows stt fx, A9 (r.set d es) id = .mem rows stt fx → A9 r id = .mem rows stt fx := by
  intro id ht rows stt fx h
  rw [Ec hd hr, if_neg (It (es := es) hd hr ht).1] at h
  exact h
 have hq : ∀ id, AD r id → ρ' id = ρ id := fun id ht => hρ id (It (es := es) hd hr ht).1
 exact A0.turn (fun _ h => h) (fun _ _ => rfl) (fun id ht => (It hd hr ht).2)
  (fun id n u ht hh rows stt fx h => by rw [hq id ht]; exact hh rows stt fx (hg id ht _ _ _ h))
  (fun id p i c n st u ht hh rows stt fx h => by rw [hq id ht]; exact hh rows stt fx (hg id ht _ _ _ h))
  (fun id p i off n st a ht hh rows stt fx h => by rw [hq id ht]; exact hh rows stt fx (hg id ht _ _ _ h)) (fun id st us ht hh rows stt fx h => by rw [hq id ht]; exact hh rows stt fx (hg id ht _ _ _ h)) h
theorem JI {rows new rs : Rows} {i0 c0 : Nat} {p : AE} (h : i0 < rows.length) : Af (rows ++ new) ((i0, c0) :: p) = Af rows ((i0, c0) :: p) := by
 simp only [Af, List.getElem?_append_left h]
theorem Nf {rows new : Rows} {p : AE} {i c : Nat} (h : KA p i < rows.length) : AX (rows ++ new) p i c = AX rows p i c := by
 cases p with
 | nil => simp only [KA] at h; simp only [AX, Af, Option.bind_some, List.getElem?_append_left h]
 | cons x p => obtain ⟨i0, c0⟩ := x; simp only [KA] at h; simp only [AX, JI (rs := []) h]
theorem JJ {rows new : Rows} {stt : Nat} {fx fx' : Bool} {q' : Option Addr} {cap' : Nat} (h0 : A9 r id0 = .mem rows stt fx)
  (hρ : ∀ id, id ≠ id0 → ρ' id = ρ id) (h1 : new = [] → ρ' id0 = ρ id0)
  (hc : ∀ (i : Nat) row c, rows[i]? = some row → c < row.length → ∀ b, (ρ id0).1 = some ⟨b, 0, none⟩ → ∃ b', (ρ' id0).1 = some ⟨b', 0, none⟩ ∧ w'.cell? ⟨b', i * row.length + c, none⟩ = w.cell? ⟨b, i * row.length + c, none⟩)
  (hB : ∀ b, B b → B' b) (hs : Bu B w w') (hk : ∀ id, id ≠ id0 → KC w w' B ρ r id)
  (hn : ∀ (i c : Nat) rows1, AX rows [] i c = some (.sl true rows1) → ∃ q1 cap1 S1 b k, AM w (ρ id0).1 rows [] i c b k ∧ w.cell? ⟨b, k, none⟩ = some (.slice q1 rows1.length cap1) ∧ C7 w B q1 cap1 rows1 S1 ∧ Bu S1 w w')
  {v : V} {u : Value} (h : A0 w B ρ r v u) : A0 w' B' ρ' (AS r id0 (.mem (rows ++ new) stt fx')) v u := by
 have hth : AD r id0 := Ar (by rw [h0]; simp)
 have deep : ∀ (i0 c0 : Nat) (p : AE) (i c b k : Nat), AM w (ρ id0).1 rows ((i0, c0) :: p) i c b k → AM w' (ρ' id0).1 (rows ++ new) ((i0, c0) :: p) i c b k ∧
   ∀ rs, AX rows ((i0, c0) :: p) i c = some (.sl true rs) → w'.cell? ⟨b, k, none⟩ = w.cell? ⟨b, k, none⟩ := by
  intro i0 c0 p i c b k hl
  obtain ⟨b0, row, rows1, q1, n1, cap1, g1, g2, g3, g4, g5⟩ := hl
  have hgc : AX rows [] i0 c0 = some (.sl true rows1) := by simp only [AX, Af, Option.bind_some, g2, g3]
  obtain ⟨q2, cap2, S1, b2, k2, m1, m2, m3, m4⟩ := hn i0 c0 rows1 hgc
  obtain ⟨y1, row', y2, y3, y4⟩ := m1
  rw [g1] at y1
  simp only [Option.some.injEq, Addr.mk.injEq, and_true] at y1
  subst y1
  rw [g2] at y2; cases y2
  subst y4
  rw [g4] at m2
  simp only [Option.some.injEq, Value.slice.injEq] at m2
  obtain ⟨e1, e2, e3⟩ := m2
  subst e1
  obtain ⟨b', z1, z2⟩ := hc i0 row c0 g2 y3 b0 g1
  have hlt : i0 < rows.length := (List.getElem?_eq_some_iff.1 g2).1
  refine ⟨⟨b', row, rows1, q1, n1, cap1, z1, by rw [List.getElem?_append_left hlt]; exact g2, g3, by rw [z2]; exact g4, AM.same (S := S1) p m3 m4 g5⟩, fun rs hrs => ?_⟩
  have hrc : rows[i0]?.bind (·[c0]?) = some (.sl true rows1) := by rw [g2]; exact g3
  simp only [AX, Af, hrc] at hrs
  obtain ⟨b3, k3, cur, ee, u', S3, S4, x1, x2, x3, x4, x5, x6, x7, _⟩ := C7.lens p m3 (i := i) (c := c) (t := .sl true rs) (by simpa only [AX] using hrs)
  obtain ⟨rfl, rfl⟩ := AM.unique p g5 x1
  exact BW (m4 b (x6.right x7)) k
 refine A0.turn hB hs (fun id h => (C9 _).2 h) ?_ ?_ ?_ ?_ h
 ·intro id n u _ hh
  by_cases e1 : id0 = id
  ·subst e1
   intro rows1 stt1 fx1 hg
   rw [A5 hth] at hg; cases hg
   obtain ⟨g1, g2⟩ := hh _ _ _ h0
   refine ⟨by simp; omega, fun e => ?_⟩
   simp only [List.length_append] at e
   have hnew : new = [] := List.eq_nil_of_length_eq_zero (by omega)
   rw [h1 hnew]
   exact g2 (by omega)
  ·intro rows1 stt1 fx1 hg
   rw [A6 e1] at hg
   rw [hρ id (Ne.symm e1)]
   exact hh _ _ _ hg
 ·intro id p i c n st u _ hh
  by_cases e1 : id0 = id
  ·subst e1
   intro rows1 stt1 fx1 hg
   rw [A5 hth] at hg; cases hg
   obtain ⟨g1, g2⟩ := hh _ _ _ h0
   refine ⟨g1, fun e => ⟨by have := (g2 e).1; simp; omega, fun rs hrs hl => ?_⟩⟩
   rw [Nf (g2 e).1] at hrs
   obtain ⟨b, k, l1, l2⟩ := (g2 e).2 rs hrs hl
   cases p with
   | cons x p =>
    obtain ⟨i0, c0⟩ := x
    obtain ⟨d1, d2⟩ := deep i0 c0 p i c b k l1
    exact ⟨b, k, d1, by rw [d2 rs hrs]; exact l2⟩
   | nil =>
    obtain ⟨y1, row, y2, y3, y4⟩ := l1
    obtain ⟨b', z1, z2⟩ := hc i row c y2 y3 b y1
    have hlt : i < rows.length := (List.getElem?_eq_some_iff.1 y2).1
    exact ⟨b', k, ⟨z1, row, by rw [List.getElem?_append_left hlt]; exact y2, y3, y4⟩, by rw [y4, z2, ← y4]; exact l2⟩
  ·have := GP.kept (hk id (Ne.symm e1)) hh
   intro rows1 stt1 fx1 hg
   rw [A6 e1] at hg
   rw [hρ id (Ne.symm e1)]
   exact this _ _ _ hg
 ·intro id p i off n st a _ hh
  by_cases e1 : id0 = id
  ·subst e1
   intro rows1 stt1 fx1 hg
   rw [A5 hth] at hg; cases hg
   obtain ⟨g1, g2, g3⟩ := hh _ _ _ h0
   refine ⟨fun e => by have := g1 e; simp; omega, g2, fun e e' => ?_⟩
   cases p with
   | cons x p =>
    obtain ⟨i0, c0⟩ := x
    obtain ⟨g4, g5⟩ := g3 (fun q => by cases q) e'
    have hlt := g4 (by simp)
    refine ⟨fun _ => by simp; omega, fun row hrow hl => ?_⟩
    rw [JI (rs := []) (by simpa [KA] using hlt)] at hrow
    obtain ⟨b, k, l1, l2⟩ := g5 row hrow hl
    exact ⟨b, k, (deep i0 c0 p i off b k l1).1, l2⟩
   | nil =>
    have en := e rfl
    simp only [List.length_append] at en
    have := g1 rfl
    have hnew : new = [] := List.eq_nil_of_length_eq_zero (by omega)
    obtain ⟨_, g5⟩ := g3 (fun _ => by omega) (fun q => absurd rfl q)
    refine ⟨fun q => absurd rfl q, fun row hrow hl => ?_⟩
    rw [hnew, List.append_nil] at hrow
    obtain ⟨b, k, l1, l2⟩ := g5 row hrow hl
    rw [hnew, List.append_nil, h1 hnew]
    exact ⟨b, k, l1, l2⟩
  ·have := Ft.kept (hk id (Ne.symm e1)) hh
   intro rows1 stt1 fx1 hg
   rw [A6 e1] at hg
   rw [hρ id (Ne.symm e1)]
   exact this _ _ _ hg
 ·intro id st us _ hh
  by_cases e1 : id0 = id
  ·subst e1
   intro rows1 stt1 fx1 hg
   rw [A5 hth] at hg; cases hg
   obtain ⟨g1, g2, g3⟩ := hh _ _ _ h0
   refine ⟨by simp; omega, g2, fun e e' => ?_⟩
   simp only [List.length_append] at e'
   have hnew : new = [] := List.eq_nil_of_length_eq_zero (by omega)
   obtain ⟨row, b, rfl, z2, z3, z4⟩ := g3 e (by omega)
   rw [hnew, h1 hnew]
   refine ⟨row, b, rfl, z2, z3, fun j u hj => ?_⟩
   have hj' : j < row.length := by rw [z2]; exact (List.getElem?_eq_some_iff.1 hj).1
   obtain ⟨b', y1, y2⟩ := hc 0 row j rfl hj' b z3
   rw [h1 hnew, z3] at y1
   simp only [Option.some.injEq, Addr.mk.injEq, and_true] at y1
   subst y1
   simp only [Nat.zero_mul, Nat.zero_add] at y2
   rw [y2]
   exact z4 j u hj
  ·intro rows1 stt1 fx1 hg
   rw [A6 e1] at hg
   rw [hρ id (Ne.symm e1)]
   exact En.kept (hk id (Ne.symm e1)) hh _ _ _ hg
end
end TT
namespace TT
open Go
structure Ed (w : World) (B : Nat → Prop) (ρ : Id → CD) (r r' : R) : Prop where
 claims : ∀ v u, A0 w B ρ r v u → A0 w B ρ r' v u
 len : ∀ t, (r'.getD t []).length = (r.getD t []).length
 size : r'.length = r.length
theorem Ed.refl (w : World) (B : Nat → Prop) (ρ : Id → CD) (r : R) : Ed w B ρ r r := ⟨fun _ _ h => h, fun _ => rfl, rfl⟩
theorem Ed.trans {w : World} {B : Nat → Prop} {ρ : Id → CD} {r r' r'' : R} (h : Ed w B ρ r r') (h' : Ed w B ρ r' r'') : Ed w B ρ r r'' :=
 ⟨fun v u hh => h'.claims v u (h.claims v u hh), fun t => (h'.len t).trans (h.len t), h'.size.trans h.size⟩
theorem Gi {r : R} {id : Id} (e : BO) (t : Nat) : ((AS r id e).getD t []).length = (r.getD t []).length := by
 rw [EA]; split <;> simp
section
variable {c : Gc} {w : World} {B : Nat → Prop} {ρ : Id → CD} {Sf : Id → Nat → Prop} {X : Nat → Prop} {r : R} {id0 : Id}
theorem Az.mem (hI : Az c w B ρ Sf X r) {rows : Rows} {stt : Nat} {fx : Bool} (h0 : A9 r id0 = .mem rows stt fx) : C7 w B (ρ id0).1 (ρ id0).2 rows (Sf id0) ∧ (fx = true → ρ id0 = c.q0 id0 ∧ rows.length = c.n0 id0) := by
 have := hI.ents id0
 rw [h0] at this
 exact this
theorem Eo.claims {r' : R} (h : ∀ v u, A0 w B ρ r v u → A0 w B ρ r' v u) {id : Id} {S : Nat → Prop} {e : BO} (hh : Eo c w B ρ r id S e) : Eo c w B ρ r' id S e := by
 cases e with
 | dead => exact hh
 | mem rows stt fx => exact hh
theorem Az.gone (hI : Az c w B ρ Sf X r) {rows : Rows} {stt : Nat} {fx : Bool} (h0 : A9 r id0 = .mem rows stt fx) {e : BO} (he : e = .dead) :
  Az c w B ρ (fun id b => id ≠ id0 ∧ Sf id b) (fun b => X b ∨ Sf id0 b) (AS r id0 e) ∧ Ed w B ρ r (AS r id0 e) := by
 have hne : ∀ rows stt fx, e ≠ .mem rows stt fx := by rw [he]; simp
 have hth : AD r id0 := Ar (by rw [h0]; simp)
 have hst : Ed w B ρ r (AS r id0 e) := ⟨fun v u h => Nd hne h, Gi e, AQ e⟩
 refine ⟨?_, hst⟩
 constructor
 ·intro id
  by_cases e1 : id0 = id
  ·subst e1
   rw [A5 hth]
   rw [he]
   exact fun b hb => hb.1 rfl
  ·rw [A6 e1]
   have h1 := Eo.claims hst.claims (hI.ents id)
   have heq : (fun b => id ≠ id0 ∧ Sf id b) = Sf id := funext fun b => propext ⟨fun h => h.2, fun h => ⟨Ne.symm e1, h⟩⟩
   rw [heq]; exact h1
 ·exact fun id id' b h h' => hI.disj id id' b h.2 h'.2
 ·exact fun id b h => hI.nb id b h.2
 ·exact fun b h => h.elim (hI.xb b) (hI.nb id0 b)
 ·intro id b h h'
  rcases h with h | h
  ·exact hI.xd id b h h'.2
  ·exact h'.1 (hI.disj id id0 b h'.2 h)
 ·exact hI.inB
 ·intro b h
  rcases h with h | h
  ·exact hI.inX b h
  ·rcases (hI.mem h0).1 with ⟨_, _, _, h4⟩ | ⟨b', sz, e', cur, S', h3, h4, h5, h6, h7, h8, h9, h10⟩
   ·exact absurd h (h4 b)
   ·rcases (h9.1 b).1 h with rfl | h'
    ·exact h4.lt
    ·exact Ad.inHeap h10 b h'
 ·exact fun id b h => hI.own id b h.2
 ·exact fun b h => h.elim (hI.ownX b) (hI.own id0 b)
 ·exact hI.old
 ·exact hI.sh
 ·exact hI.size
 ·exact hI.frame
 ·exact hI.os
 ·exact hI.tape
 ·exact hI.output
theorem IE {cur : Array Value} {k : Nat} {u : Value} (h : cur[k]? = some u) : cur.setIfInBounds k u = cur := by
 apply Array.ext_getElem?
 intro i
 rw [Array.getElem?_setIfInBounds]
 by_cases e : k = i
 ·subst e
  have hlt : k < cur.size := by
   rcases Nat.lt_or_ge k cur.size with h' | h'
   ·exact h'
   ·rw [Array.getElem?_eq_none h'] at h; cases h
  rw [if_pos rfl, if_pos hlt]; exact h.symm
 ·rw [if_neg e]
theorem Az.hole (hI : Az c w B ρ Sf X r) {rows rs : Rows} {stt : Nat} {fx : Bool} (h0 : A9 r id0 = .mem rows stt fx) {p : AE} {i k : Nat} (hg : AX rows p i k = some (.sl true rs)) :
  ∃ b o u S1 S2, AM w (ρ id0).1 rows p i k b o ∧ w.cell? ⟨b, o, none⟩ = some u ∧ u.oneCell' = true ∧ C8 w B (.sl true rs) u S1 ∧ AH (Sf id0) S1 S2 ∧
   Az c w B ρ (fun id b => (id ≠ id0 ∧ Sf id b) ∨ (id = id0 ∧ S2 b)) (fun b => X b ∨ S1 b) (AS r id0 (.mem (AO rows p i k .hole) stt fx)) ∧
   Ed w B ρ r (AS r id0 (.mem (AO rows p i k .hole) stt fx)) := by
 obtain ⟨hm1, hm2⟩ := hI.mem h0
 obtain ⟨b, o, cur, e, u, S1, S2, l1, l2, l3, l4, l5, l6, l7, l8⟩ := C7.lens p hm1 hg
 have hth : AD r id0 := Ar (by rw [h0]; simp)
 have hst : Ed w B ρ r (AS r id0 (.mem (AO rows p i k .hole) stt fx)) := ⟨fun v u h => JH h0 rfl h, Gi _, AQ _⟩
 have hnew := l8 w B .hole u (fun _ => False) (fun _ h => h) (fun _ _ => rfl) (fun _ _ _ => rfl) (by rw [IE l3]; exact l2) l4 (by simp only [C8]; exact fun b h => h) (fun _ h => h.elim)
 have hS2 : (fun x => False ∨ S2 x) = S2 := funext fun x => by simp
 rw [hS2] at hnew
 refine ⟨b, o, u, S1, S2, l1, by rw [l2.cell _]; exact l3, l4, l5, l6, ?_, hst⟩
 have sub1 : ∀ x, S1 x → Sf id0 x := fun x h => l6.left h
 have sub2 : ∀ x, S2 x → Sf id0 x := fun x h => l6.right h
 have sub : ∀ id x, ((id ≠ id0 ∧ Sf id x) ∨ (id = id0 ∧ S2 x)) → Sf id x := fun id x h => by
  rcases h with h | ⟨h, h'⟩
  ·exact h.2
  ·subst h; exact sub2 x h'
 constructor
 ·intro id
  by_cases e1 : id0 = id
  ·subst e1
   rw [A5 hth]
   have heq : (fun b => (id0 ≠ id0 ∧ Sf id0 b) ∨ (id0 = id0 ∧ S2 b)) = S2 := funext fun b => propext ⟨fun h => h.elim (fun h => absurd rfl h.1) (fun h => h.2), fun h => .inr ⟨rfl, h⟩⟩
   rw [heq]
   exact ⟨hnew, fun hf => ⟨(hm2 hf).1, by rw [AJ]; exact (hm2 hf).2⟩⟩
  ·rw [A6 e1]
   have heq : (fun b => (id ≠ id0 ∧ Sf id b) ∨ (id = id0 ∧ S2 b)) = Sf id := funext fun b => propext ⟨fun h => sub id b h, fun h => .inl ⟨Ne.symm e1, h⟩⟩
   rw [heq]
   exact Eo.claims hst.claims (hI.ents id)
 ·exact fun id id' b h h' => hI.disj id id' b (sub _ _ h) (sub _ _ h')
 ·exact fun id b h => hI.nb id b (sub _ _ h)
 ·exact fun b h => h.elim (hI.xb b) (fun h => hI.nb id0 b (sub1 b h))
 ·intro id x h h'
  rcases h with h | h
  ·exact hI.xd id x h (sub _ _ h')
  ·have e1 := hI.disj id id0 x (sub _ _ h') (sub1 x h)
   subst e1
   rcases h' with h' | h'
   ·exact h'.1 rfl
   ·exact l6.2 x h h'.2
 ·exact hI.inB
 ·exact fun b h => h.elim (hI.inX b) (fun h => C8.inHeap l5 b h)
 ·exact fun id b h => hI.own id b (sub _ _ h)
 ·exact fun b h => h.elim (hI.ownX b) (fun h => hI.own id0 b (sub1 b h))
 ·exact hI.old
 ·exact hI.sh
 ·exact hI.size
 ·exact hI.frame
 ·exact hI.os
 ·exact hI.tape
 ·exact hI.output
theorem Az.congrX {X' : Nat → Prop} (hI : Az c w B ρ Sf X r) (h : ∀ b, X b ↔ X' b) : Az c w B ρ Sf X' r := by
 have : X = X' := funext fun b => propext (h b)
 rwa [← this]
theorem IF {α : Type} {call : AC} {d : Nat} {v : V} {u : Value} {k : T → M α} {x : α × R} (hrun : (take v k).run call d r = some x) (hI : Az c w B ρ Sf X r) (hv : A0 w B ρ r v u) :
  ∃ t S Sf' r', (k t).run call d r' = some x ∧ C8 w B t u S ∧ u.oneCell' = true ∧ Az c w B ρ Sf' (fun b => X b ∨ S b) r' ∧ (∀ b, S b → ¬ X b) ∧ Ed w B ρ r r' ∧ (∀ id b, Sf' id b → Sf id b) := by
 cases v with
 | t t =>
  simp only [take] at hrun
  simp only [A0] at hv
  refine ⟨t, fun _ => False, Sf, r, hrun, ?_, hv.2, hI.congrX (fun b => by simp), fun _ h => h.elim, Ed.refl .., fun _ _ h => h⟩
  cases t with
  | v x => have := hv.1; simp only [CF] at this; simp only [C8]; exact ⟨this, fun _ h => h⟩
  | sl o rows => cases o with
   | false => simp only [C8]; exact ⟨hv.1, fun _ h => h⟩
   | true => have := hv.1; simp only [CF] at this
  | hole => simp only [C8]; exact fun _ h => h
 | nil =>
  simp only [take] at hrun
  simp only [A0] at hv
  subst hv
  refine ⟨.sl true [], fun _ => False, Sf, r, hrun, ?_, rfl, hI.congrX (fun b => by simp), fun _ h => h.elim, Ed.refl .., fun _ _ h => h⟩
  simp only [C8]
  exact ⟨none, 0, rfl, .inl ⟨rfl, rfl, trivial, fun _ h => h⟩⟩
 | ref id n =>
  simp only [take, M.run] at hrun
  cases he : A9 r id with
  | dead => rw [he] at hrun; simp [M.run] at hrun
  | mem rows stt fx =>
   rw [he] at hrun
   simp only at hrun
   split at hrun
   ·rename_i hl
    simp only [M.run] at hrun
    obtain ⟨h1, h2⟩ := hI.gone he (e := .dead) rfl
    simp only [A0] at hv
    have hu := (hv.2.2 rows stt fx he).2 hl
    obtain ⟨hm, _⟩ := hI.mem he
    refine ⟨.sl true rows, Sf id, _, _, hrun, Bf.2 ⟨_, _, by rw [hl]; exact hu, hm⟩, by rw [hu]; rfl, h1, fun b h h' => hI.xd id b h' h, h2, fun _ _ h => h.2⟩
   ·simp [M.run] at hrun
 | sub id p i ci n st =>
  simp only [take, M.run] at hrun
  cases he : A9 r id with
  | dead => rw [he] at hrun; simp [M.run] at hrun
  | mem rows stt fx =>
   rw [he] at hrun
   simp only at hrun
   split at hrun
   ·rename_i hs
    cases hc : AX rows p i ci with
    | none => rw [hc] at hrun; simp [M.run] at hrun
    | some t =>
     rw [hc] at hrun
     cases t with
     | v x => simp [M.run] at hrun
     | hole => simp [M.run] at hrun
     | sl o rs => cases o with
      | false => simp [M.run] at hrun
      | true =>
       simp only at hrun
       split at hrun
       ·rename_i hl
        simp only [M.run] at hrun
        obtain ⟨b, o, u', S1, S2, l1, l2, l3, l4, l5, l6, l7⟩ := hI.hole he hc
        simp only [A0] at hv
        obtain ⟨b', o', m1, m2⟩ := ((hv.2.2 rows stt fx he).2 hs).2 rs hc hl
        obtain ⟨rfl, rfl⟩ := AM.unique p l1 m1
        rw [l2] at m2
        simp only [Option.some.injEq] at m2
        subst m2
        refine ⟨.sl true rs, S1, _, _, hrun, l4, l3, l6, fun x h h' => hI.xd id x h' (l5.left h), l7, ?_⟩
        rintro id' x (h | ⟨h, h'⟩)
        ·exact h.2
        ·subst h; exact l5.right h'
       ·simp [M.run] at hrun
   ·simp [M.run] at hrun
 | agg cs => simp [take, M.run] at hrun
 | ptr id p i off n st => simp [take, M.run] at hrun
 | pp cs => simp [take, M.run] at hrun
 | fn f caps => simp [take, M.run] at hrun
 | tup vs => simp [take, M.run] at hrun
 | vb id off st cs => simp [take, M.run] at hrun
 | vw id lo hi n => simp [take, M.run] at hrun
 | dead => simp [take, M.run] at hrun
def AY (w : World) (B : Nat → Prop) : List T → List Value → (Nat → Prop) → Prop
 | [], us, S => us = [] ∧ JE S
 | t :: ts, us, S => ∃ u us' S1 S2, us = u :: us' ∧ u.oneCell' = true ∧ C8 w B t u S1 ∧ AY w B ts us' S2 ∧ AH S S1 S2
theorem FF {α : Type} {call : AC} {d : Nat} : ∀ {vs : List V} {us : List Value} {k : List T → M α} {x : α × R} {Sf : Id → Nat → Prop} {X : Nat → Prop} {r : R}, (Bv vs k).run call d r = some x → Az c w B ρ Sf X r → A4 w B ρ r vs us →
  ∃ ts S Sf' r', (k ts).run call d r' = some x ∧ AY w B ts us S ∧ Az c w B ρ Sf' (fun b => X b ∨ S b) r' ∧ (∀ b, S b → ¬ X b) ∧ Ed w B ρ r r' ∧ ts.length = vs.length ∧ (∀ id b, Sf' id b → Sf id b)
 | [], us, k, x, Sf, X, r, hrun, hI, hv => by
  simp only [Bv] at hrun
  simp only [A4] at hv
  exact ⟨[], fun _ => False, Sf, r, hrun, by simp only [AY]; exact ⟨hv, fun _ h => h⟩, hI.congrX (fun b => by simp), fun _ h => h.elim, Ed.refl .., rfl, fun _ _ h => h⟩
 | v :: vs, us, k, x, Sf, X, r, hrun, hI, hv => by
  simp only [Bv] at hrun
  simp only [A4] at hv
  obtain ⟨u, us', rfl, h1, h2⟩ := hv
  obtain ⟨t, S1, Sf1, r1, g1, g2, g3, g4, g5, g6, g7⟩ := IF hrun hI h1
  have h2' : A4 w B ρ r1 vs us' := by
   have : ∀ {vs : List V} {us : List Value}, A4 w B ρ r vs us → A4 w B ρ r1 vs us := by
    intro vs
    induction vs with
    | nil => intro us h; simpa only [A4] using h
    | cons a vs ih =>
     intro us h
     simp only [A4] at h ⊢
     obtain ⟨u, us', rfl, h1, h2⟩ := h
     exact ⟨u, us', rfl, g6.claims _ _ h1, ih h2⟩
   exact this h2
  obtain ⟨ts, S2, Sf2, r2, m1, m2, m3, m4, m5, m6, m7⟩ := FF g1 g4 h2'
  refine ⟨t :: ts, fun b => S1 b ∨ S2 b, Sf2, r2, m1, ?_, m3.congrX (fun b => by simp [or_assoc]), ?_, g6.trans m5, by simp [m6], fun id b h => g7 id b (m7 id b h)⟩
  ·simp only [AY]
   exact ⟨u, us', S1, S2, rfl, g3, g2, m2, AH.mk' fun b h h' => m4 b h' (.inr h)⟩
  ·intro b h
   rcases h with h | h
   ·exact g5 b h
   ·exact fun hx => m4 b h (.inl hx)
theorem A4.step {r' : R} (h : Ed w B ρ r r') : ∀ {vs : List V} {us : List Value}, A4 w B ρ r vs us → A4 w B ρ r' vs us
 | [], us, hh => by simpa only [A4] using hh
 | v :: vs, us, hh => by
  simp only [A4] at hh ⊢
  obtain ⟨u, us', rfl, h1, h2⟩ := hh
  exact ⟨u, us', rfl, h.claims _ _ h1, A4.step h h2⟩
theorem AY.length : ∀ {ts : List T} {us : List Value} {S : Nat → Prop}, AY w B ts us S → us.length = ts.length
 | [], us, S, h => by simp only [AY] at h; simp [h.1]
 | t :: ts, us, S, h => by
  simp only [AY] at h
  obtain ⟨u, us', S1, S2, rfl, _, _, h2, _⟩ := h
  simp [AY.length h2]
theorem AY.one : ∀ {ts : List T} {us : List Value} {S : Nat → Prop}, AY w B ts us S → ∀ u ∈ us, u.oneCell' = true
 | [], us, S, h => by simp only [AY] at h; simp [h.1]
 | t :: ts, us, S, h => by
  simp only [AY] at h
  obtain ⟨u, us', S1, S2, rfl, h1, _, h2, _⟩ := h
  intro x hx
  rcases List.mem_cons.1 hx with rfl | hx
  ·exact h1
  ·exact AY.one h2 x hx
theorem AY.same {w' : World} {B' : Nat → Prop} (hB : ∀ b, B b → B' b) (h : Bu B w w') : ∀ {ts : List T} {us : List Value} {S : Nat → Prop}, Bu S w w' → AY w B ts us S → AY w' B' ts us S
 | [], us, S, _, hh => by simpa only [AY] using hh
 | t :: ts, us, S, hS, hh => by
  simp only [AY] at hh ⊢
  obtain ⟨u, us', S1, S2, rfl, h0, h1, h2, h3⟩ := hh
  exact ⟨u, us', S1, S2, rfl, h0, C8.same hB h (fun x hx => hS x (h3.left hx)) h1, AY.same hB h (fun x hx => hS x (h3.right hx)) h2, h3⟩
theorem AY.inHeap : ∀ {ts : List T} {us : List Value} {S : Nat → Prop}, AY w B ts us S → G8 w S
 | [], us, S, h => by simp only [AY] at h; exact fun b hb => absurd hb (h.2 b)
 | t :: ts, us, S, h => by
  simp only [AY] at h
  obtain ⟨u, us', S1, S2, rfl, _, h1, h2, h3⟩ := h
  intro x hx
  rcases (h3.1 x).1 hx with hx | hx
  ·exact C8.inHeap h1 x hx
  ·exact AY.inHeap h2 x hx
theorem DZ.of_values {b : Nat} : ∀ {ts : List T} {us : List Value} {S : Nat → Prop} {o : Nat}, AY w B ts us S → (∀ (j : Nat) u, us[j]? = some u → w.cell? ⟨b, o + j, none⟩ = some u) → DZ w B b o ts S
 | [], us, S, o, h, hc => by simp only [AY] at h; simp only [DZ]; exact h.2
 | t :: ts, us, S, o, h, hc => by
  simp only [AY] at h
  obtain ⟨u, us', S1, S2, rfl, h0, h1, h2, h3⟩ := h
  simp only [DZ]
  exact ⟨u, S1, S2, by simpa using hc 0 u (by simp), h0, h1, DZ.of_values h2 (fun j u' hj => by have := hc (j + 1) u' (by simpa using hj); rwa [show o + 1 + j = o + (j + 1) by omega]), h3⟩
end
end TT
namespace TT
open Go
def eqC : Value → Value → Bool
 | .int k a, .int k' b => k == k' && a == b
 | .bool a, .bool b => a == b
 | .string a, .string b => a.toList == b.toList
 | .slice none 0 0, .slice none 0 0 => true
 | .nilFunc, .nilFunc => true
 | .pointer none, .pointer none => true
 | .nilIface, .nilIface => true
 | _, _ => false
theorem RD {a b : ByteArray} (h : a.toList = b.toList) : a = b := by
 rw [ByteArray.toList_eq, ByteArray.toList_eq] at h
 obtain ⟨⟨x⟩⟩ := a
 obtain ⟨⟨y⟩⟩ := b
 simp at h
 rw [h]
theorem SX {x y : Value} (h : eqC x y = true) : x = y ∧ x.oneCell' = true := by
 unfold eqC at h
 split at h
 ·simp at h; exact ⟨by rw [h.1, h.2], rfl⟩
 ·simp at h; exact ⟨by rw [h], rfl⟩
 ·rename_i a b
  have h1 : a.toList = b.toList := by simpa using h
  exact ⟨by rw [RD h1], rfl⟩
 ·exact ⟨rfl, rfl⟩
 ·exact ⟨rfl, rfl⟩
 ·exact ⟨rfl, rfl⟩
 ·exact ⟨rfl, rfl⟩
 ·cases h
def Na : List T → List Value → Bool
 | [], [] => true
 | .v x :: ts, y :: ys => eqC x y && Na ts ys
 | .sl true [] :: ts, .slice none 0 0 :: ys => Na ts ys
 | _, _ => false
def CV : An → Operand → Bool
 | .s t, .tmp t' => t == t'
 | .c x, .const y => eqC x y
 | .f f, .func g => f == g
 | .z cs, .const (.agg ys) => Na cs ys.toList
 | _, _ => false
def KD : List An → List Operand → Bool
 | [], [] => true
 | a :: as, b :: bs => CV a b && KD as bs
 | _, _ => false
section
variable {c : Gc} {w : World} {B : Nat → Prop} {ρ : Id → CD} {Sf : Id → Nat → Prop} {X : Nat → Prop} {r : R}
theorem Fv : ∀ {ts : List T} {ys : List Value}, Na ts ys = true → A4 w B ρ r (ts.map fun c => match c with | .sl true [] => V.nil | c => V.t c) ys ∧ AY w B ts ys (fun _ => False) ∧ ts.length = ys.length
 | [], [], _ => ⟨by simp [A4], by simp only [AY]; exact ⟨trivial, fun _ h => h⟩, rfl⟩
 | [], y :: ys, h => by simp [Na] at h
 | .v x :: ts, [], h => by simp [Na] at h
 | .v x :: ts, y :: ys, h => by
  simp only [Na, Bool.and_eq_true] at h
  obtain ⟨h1, h2, h3⟩ := Fv h.2
  obtain ⟨e1, e2⟩ := SX h.1
  subst e1
  refine ⟨?_, ?_, by simp [h3]⟩
  ·simp only [List.map_cons, A4]
   exact ⟨x, ys, rfl, by simp only [A0, CF]; exact ⟨trivial, e2⟩, h1⟩
  ·simp only [AY]
   exact ⟨x, ys, _, _, rfl, e2, by simp only [C8]; exact ⟨trivial, fun _ h => h⟩, h2, ⟨fun b => by simp, fun b (h : False) => h.elim⟩⟩
 | .sl true [] :: ts, [], h => by simp [Na] at h
 | .sl true [] :: ts, y :: ys, h => by
  cases y with
  | slice q n cap =>
   cases q with
   | some q => simp [Na] at h
   | none => cases n with
    | succ n => simp [Na] at h
    | zero => cases cap with
     | succ cap => simp [Na] at h
     | zero =>
      simp only [Na] at h
      obtain ⟨h1, h2, h3⟩ := Fv h
      refine ⟨?_, ?_, by simp [h3]⟩
      ·simp only [List.map_cons, A4]
       exact ⟨_, ys, rfl, by simp only [A0], h1⟩
      ·simp only [AY]
       exact ⟨_, ys, _, _, rfl, rfl, by simp only [C8]; exact ⟨none, 0, rfl, .inl ⟨rfl, rfl, trivial, fun _ h => h⟩⟩, h2, ⟨fun b => by simp, fun b (h : False) => h.elim⟩⟩
  | _ => simp [Na] at h
 | .sl true (x :: xs) :: ts, ys, h => by cases ys <;> simp [Na] at h
 | .sl false rows :: ts, ys, h => by cases ys <;> simp [Na] at h
 | .hole :: ts, ys, h => by cases ys <;> simp [Na] at h
def Bw (w : World) (B : Nat → Prop) (ρ : Id → CD) (r : R) (s : List V) (a : Act) : Prop :=
 ∀ t, A0 w B ρ r (s.getD t .dead) (a.tmps.getD t undef)
theorem Bw.eval {s : List V} {a : Act} (h : Bw w B ρ r s a) {x : An} {y : Operand} (hx : CV x y = true) : A0 w B ρ r (A1 s x) (a.eval y) := by
 unfold CV at hx
 split at hx
 ·simp at hx; subst hx; exact h _
 ·obtain ⟨e1, e2⟩ := SX hx
  subst e1
  simp only [A1, Act.eval, Fj]
  split
  ·simp only [A0]
  ·simp only [A0, CF]; exact ⟨trivial, e2⟩
 ·simp at hx; subst hx
  simp only [A1, Act.eval, A0]
  exact ⟨#[], rfl, by simp [A4]⟩
 ·simp only [A1, Act.eval, A0]
  exact ⟨_, rfl, (Fv hx).1⟩
 ·cases hx
theorem Bw.evals {s : List V} {a : Act} (h : Bw w B ρ r s a) : ∀ {xs : List An} {ys : List Operand}, KD xs ys = true → A4 w B ρ r (xs.map (A1 s)) (ys.map a.eval)
 | [], [], _ => by simp [A4]
 | [], y :: ys, hx => by simp [KD] at hx
 | x :: xs, [], hx => by simp [KD] at hx
 | x :: xs, y :: ys, hx => by
  simp only [KD, Bool.and_eq_true] at hx
  simp only [List.map_cons, A4]
  exact ⟨_, _, rfl, h.eval hx.1, h.evals hx.2⟩
def Cu (c : Gc) (st : St) (a : Act) (w : World) : Prop :=
 ∃ B ρ Sf, Az c w B ρ Sf (fun _ => False) st.r ∧ Bw w B ρ st.r st.s a ∧ a.tmps.size = st.s.length ∧ st.r.length = st.s.length ∧ a.defers = []
theorem RE {s : List V} {a : Act} {d : Option Nat} {v : V} {u : Value} {st : St} (hs : Bw w B ρ r s a) (hz : a.tmps.size = s.length) (hv : A0 w B ρ r v u) :
  Bw w B ρ r (({ s := s, r := r } : St).put d v).s (a.put d u) := by
 cases d with
 | none => exact hs
 | some d =>
  intro t
  simp only [St.put, Act.put]
  by_cases e : d = t
  ·subst e
   by_cases hl : d < s.length
   ·have h1 : (s.set d v).getD d .dead = v := by simp [List.getD, hl]
    have h2 : (a.tmps.setIfInBounds d u).getD d undef = u := by simp [Array.getD, hz, hl]
    rw [h1, h2]; exact hv
   ·have h1 : (s.set d v).getD d .dead = .dead := by simp only [List.getD, List.getElem?_set]; simp [hl]
    rw [h1]; simp only [A0]
  ·have h1 : (s.set d v).getD t .dead = s.getD t .dead := by simp [List.getD, List.getElem?_set, e]
   have h2 : (a.tmps.setIfInBounds d u).getD t undef = a.tmps.getD t undef := by
    simp [Array.getD_eq_getD_getElem?, Array.getElem?_setIfInBounds_ne e]
   rw [h1, h2]; exact hs t
theorem Cu.fin {st : St} {a : Act} {w' : World} {B' : Nat → Prop} {ρ' : Id → CD} {Sf' : Id → Nat → Prop} {r' : R} {d : Option Nat} {v : V} {u : Value}
  (hs : Bw w B ρ st.r st.s a) (hz : a.tmps.size = st.s.length) (hl : st.r.length = st.s.length) (hd : a.defers = []) (hI : Az c w' B' ρ' Sf' (fun _ => False) r') (hr : r'.length = st.r.length)
  (hc : ∀ v u, A0 w B ρ st.r v u → A0 w' B' ρ' r' v u) (hv : A0 w' B' ρ' r' v u) : Cu c (({ st with r := r' } : St).put d v) (a.put d u) w' := by
 have h1 : Bw w' B' ρ' r' st.s a := fun t => hc _ _ (hs t)
 refine ⟨B', ρ', Sf', ?_, ?_, ?_, ?_, ?_⟩
 ·cases d <;> exact hI
 ·have := RE (d := d) (st := st) h1 hz hv
  cases d <;> exact this
 ·cases d <;> simp [St.put, Act.put, hz]
 ·cases d <;> simp [St.put, hr, hl]
 ·cases d <;> exact hd
end
end TT
namespace TT
open Go
section
variable {P : Program} {c : Gc} {w : World} {B : Nat → Prop} {ρ : Id → CD} {Sf : Id → Nat → Prop} {r : R} {a : Act} {o : Oper}
def E7 (P : Program) (o : Oper) (a : Act) (w : World) (u : Value) (w' : World) : Prop := (execOp a.eval o).run P w = .ok (.value u) w'
theorem As {s : Sem Value} {u : Value} {w' : World} (he : execOp a.eval o = (do let x ← s; pure (.value x))) (hr : s.run P w = .ok u w') : E7 P o a w u w' := by
 unfold E7
 rw [he, Sem.run_bind, hr]
 rfl
theorem SY {y : Operand} (h : o.op = .move y ∨ o.op = .assign y) : E7 P o a w (a.eval y) w := by
 unfold E7 execOp
 rcases h with h | h <;> rw [h] <;> rfl
theorem Aq {x : Value} {u : Value} (h : A0 w B ρ r (.t (.v x)) u) : u = x ∧ x.oneCell' = true := by
 simp only [A0, CF] at h
 obtain ⟨h1, h2⟩ := h
 subst h1
 exact ⟨rfl, h2⟩
theorem D8 {x : Value} (h : x.oneCell' = true) : A0 w B ρ r (.t (.v x)) x := by
 simp only [A0, CF]; exact ⟨trivial, h⟩
theorem SZ {y p q : Operand} {t : Bool} (h : o.op = .pick y p q) (hy : a.eval y = .bool t) : E7 P o a w (if t then a.eval p else a.eval q) w := by
 unfold E7 execOp
 rw [h]
 simp only [hy, asBool]
 cases t <;> rfl
theorem IG {y : Operand} {u : Value} (h : o.op = .nilCheck y) (hy : a.eval y = u) (hu : (∃ b, u = .pointer (some b)) ∨ ∃ f us, u = .func (.func f) #[] us) : E7 P o a w u w := by
 unfold E7 execOp
 rw [h]
 simp only [hy]
 rcases hu with ⟨b, rfl⟩ | ⟨f, us, rfl⟩ <;> rfl
theorem VP {y : Operand} {i : Nat} {us : Array Value} {u : Value} (h : o.op = .extract y i) (hy : a.eval y = .tuple us) (hi : us[i]? = some u) : E7 P o a w u w := by
 refine As (s := Instr.extract (.tuple us) i) ?_ ?_
 ·unfold execOp; rw [h]; simp only [hy]
 ·simp only [Instr.extract, hi]; rfl
theorem VQ {f : FuncId} {ys : Array Operand} (h : o.op = .makeFunc (.func f) #[] ys) : E7 P o a w (.func (.func f) #[] (ys.map a.eval)) w := by
 refine As (s := Instr.makeFunc (.func f) #[] (ys.map a.eval)) ?_ rfl
 unfold execOp; rw [h]; simp
theorem Qn {op : BinOp} {t : TypeId} {x y u : Value} (h : B4 op x y = some u) (xo yo : Operand) :
  ((do eqGuard op t xo yo x y; binOp op t x y) : Sem Value).run P w = .ok u w ∧ u.oneCell' = true := by
 unfold B4 at h
 split at h
 ·rename_i k n yk m
  have hg : eqGuard op t xo yo (.int k n) (.int yk m) = pure () := by cases op <;> rfl
  rw [hg]
  cases op <;> simp only [] at h
  case shl =>
   split at h
   ·cases h
   ·rename_i hm; cases h
    exact ⟨by simp [binOp, Op.shift, hm], rfl⟩
  case shr =>
   split at h
   ·cases h
   ·rename_i hm; cases h
    exact ⟨by simp [binOp, Op.shift, hm], rfl⟩
  all_goals
   split at h
   ·rename_i hk
    subst hk
    simp only [FH] at h
    first
     | (cases h; exact ⟨by first | (simp [binOp, Op.intArith]; done) | (simp [binOp, Op.intCmp]; done) | (simp [binOp]; rfl), rfl⟩)
     | (split at h
        ·cases h
        ·rename_i h0; cases h; exact ⟨by simp [binOp, Op.intDiv, h0], rfl⟩)
     | cases h
   ·cases h
 ·rename_i x y
  have hg : eqGuard op t xo yo (.string x) (.string y) = pure () := by cases op <;> rfl
  rw [hg]
  cases op <;> simp only [SV] at h <;> first
   | (cases h; done)
   | (cases h; exact ⟨by simp [binOp, Op.stringOp], rfl⟩)
   | (split at h
      ·rename_i h0; cases h
       refine ⟨?_, rfl⟩
       have h1 : ¬ (((x.size + y.size : Nat) : Int) > 9223372036854775807) := by omega
       simp only [binOp, Op.stringOp, IntKind.max_i64, if_neg h1]
       rfl
      ·cases h)
 ·cases h
theorem VR {op : BinOp} {t ty : TypeId} {x y : Operand} {u : Value} (h : o.op = .binOp op t x y ty) (hu : B4 op (a.eval x) (a.eval y) = some u) : E7 P o a w u w :=
 As (by unfold execOp; rw [h]) (Qn hu x y).1
theorem VS {op : BinOp} {t ty : TypeId} {x y : Operand} {p q : Bool} (h : o.op = .binOp op t x y ty) (ho : op = .eql ∨ op = .neq) (ht : P.underlying t = some .bool) (hx : a.eval x = .bool p) (hy : a.eval y = .bool q) :
  E7 P o a w (.bool (if op = .neq then !(p == q) else p == q)) w := by
 refine As (s := do eqGuard op t x y (.bool p) (.bool q); binOp op t (.bool p) (.bool q)) (by unfold execOp; rw [h]; simp only [hx, hy]) ?_
 have hg : eqGuard op t x y (.bool p) (.bool q) = pure () := by cases op <;> rfl
 rw [hg]
 rcases ho with rfl | rfl
 ·simp [binOp, run_equal_bool w t p q ht]
 ·simp [binOp, run_equal_bool w t p q ht]
theorem P4 {t : TypeId} {x : Operand} {b : Bool} (h : o.op = .unOp .not t x) (hx : a.eval x = .bool b) : E7 P o a w (.bool (!b)) w :=
 As (s := Op.unary .not (.bool b)) (by unfold execOp; rw [h]; simp only [hx]) rfl
theorem P5 {t : TypeId} {x : Operand} {k : IntKind} {n : Int} (h : o.op = .unOp .neg t x) (hx : a.eval x = .int k n) : E7 P o a w (.int k (k.wrap (0 - n))) w :=
 As (s := Op.unary .neg (.int k n)) (by unfold execOp; rw [h]; simp only [hx]) rfl
theorem Mf {t t' : TypeId} {d d' : TypeDesc} {x : Operand} {k k' : IntKind} {n : Int} (h : o.op = .convert t t' x) (hs : P.underlying t = some d) (hd : P.underlying t' = some (.int k')) (hx : a.eval x = .int k n) :
  E7 P o a w (.int k' (k'.wrap n)) w :=
 As (s := convert t t' (.int k n)) (by unfold execOp; rw [h]; simp only [hx]) (by simp [convert, run_underlying hs, run_underlying hd, Conv.intToInt])
theorem Ng {ats : Array TypeId} {x : Operand} {t : TypeId} {st : ByteArray} (h : o.op = .call { callee := .builtin .len, args := #[x], argTypes := #[t] }) (ht : P.underlying t = some .string) (hx : a.eval x = .string st) :
  E7 P o a w (.int .i64 st.size) w := by
 unfold E7 execOp
 rw [h]
 simp [resolve, invoke, builtin, Builtin.len_, hx, run_underlying ht, goInt]
theorem GA {x : Operand} {t e : TypeId} {q : Option Addr} {n cap : Nat} (h : o.op = .call { callee := .builtin .len, args := #[x], argTypes := #[t] }) (ht : P.underlying t = some (.slice e)) (hx : a.eval x = .slice q n cap) :
  E7 P o a w (.int .i64 n) w := by
 unfold E7 execOp
 rw [h]
 simp [resolve, invoke, builtin, Builtin.len_, hx, run_underlying ht, goInt]
theorem Xy {mx : Bool} {x y : Operand} {ts : Array TypeId} {k k' : IntKind} {n m : Int} (h : o.op = .call { callee := .builtin (if mx then .max else .min), args := #[x, y], argTypes := ts }) (hx : a.eval x = .int k n) (hy : a.eval y = .int k' m) :
  E7 P o a w (.int k (if mx then (if n < m then m else n) else (if m < n then m else n))) w := by
 unfold E7 execOp
 rw [h]
 cases mx <;> simp [resolve, invoke, builtin, Builtin.max_, Builtin.min_, Builtin.max2, Builtin.min2, hx, hy]
def Ls (P : Program) (t : TypeId) : FK → Bool
 | .int => (match P.underlying t with | some (.int _) => true | _ => false)
 | .str => (match P.underlying t with | some .string => true | _ => false)
 | .bool => (match P.underlying t with | some .bool => true | _ => false)
def HD (P : Program) : Nat → List Field → List FK → Bool
 | _, [], [] => true
 | i, f :: fs, k :: ks => f.name != "_" && f.offset == i && Ls P f.type k && HD P (i + 1) fs ks
 | _, _, _ => false
def Xz (P : Program) (t : TypeId) (ks : List FK) : Bool := (match P.underlying t with | some (.struct fs) => HD P 0 fs.toList ks | _ => false) && !P.stoodInHeld t && !P.eqGuardType P.depth t
theorem Nh {t : TypeId} {k : FK} (h : Ls P t k = true) {cs : Array Value} {off : Nat} {v : Value} (hv : cs[off]? = some v) : (part t cs off).run P w = .ok v w := by
 have : ∃ d, P.underlying t = some d ∧ (match d with | .struct _ => true | .array _ _ => true | _ => false) = false := by
  cases k <;> simp only [Ls] at h <;> split at h <;> first | exact ⟨_, by assumption, rfl⟩ | cases h
 obtain ⟨d, h1, h2⟩ := this
 unfold part isAgg
 rw [Sem.run_bind, Sem.run_bind, run_underlying h1]
 cases d <;> simp [hv] at h2 ⊢
theorem KE : ∀ {fs : List Field} {ks : List FK} {i : Nat} {as bs : List V} {xs ys : List Value} {e : Bool}, HD P i fs ks = true → A4 w B ρ r as xs → A4 w B ρ r bs ys → Ir ks as bs = some e → ∀ (px py : List Value), px.length = i → py.length = i →
  (Op.eqFields 9999 (px ++ xs).toArray (py ++ ys).toArray fs).run P w = .ok e w
 | [], ks, i, as, bs, xs, ys, e, hf, ha, hb, he, px, py, hx, hy => by
  cases ks with
  | cons k ks => simp [HD] at hf
  | nil =>
   unfold Ir at he
   split at he
   ·simp only [Option.some.injEq] at he; subst he; simp [Op.eqFields]
   ·rename_i h; cases h
   ·cases he
 | f :: fs, ks, i, as, bs, xs, ys, e, hf, ha, hb, he, px, py, hx, hy => by
  cases ks with
  | nil => simp [HD] at hf
  | cons k ks =>
   simp only [HD, Bool.and_eq_true, bne_iff_ne, ne_eq, beq_iff_eq] at hf
   obtain ⟨⟨⟨h1, h2⟩, h3⟩, h4⟩ := hf
   cases as with
   | nil => simp [Ir] at he
   | cons va as => cases bs with
    | nil => simp [Ir] at he
    | cons vb bs =>
     simp only [Ir] at he
     obtain ⟨e1, he1, he⟩ := Option.bind_eq_some_iff.1 he
     obtain ⟨e2, he2, he⟩ := Option.map_eq_some_iff.1 he
     simp only [A4] at ha hb
     obtain ⟨x, xs', rfl, ha1, ha2⟩ := ha
     obtain ⟨y, ys', rfl, hb1, hb2⟩ := hb
     have ex : (px ++ x :: xs').toArray[f.offset]? = some x := by rw [h2, ← hx]; simp
     have ey : (py ++ y :: ys').toArray[f.offset]? = some y := by rw [h2, ← hy]; simp
     have hk : (Op.equalIn 9999 f.type x y).run P w = .ok e1 w := by
      unfold eqK at he1
      split at he1
      ·split at he1
       ·rename_i hkk
        subst hkk
        simp only [Option.some.injEq] at he1; subst he1
        rw [(Aq ha1).1, (Aq hb1).1]
        simp only [Ls] at h3
        split at h3
        ·rename_i hu; exact run_equalIn_int w 9998 f.type _ _ _ _ hu
        ·cases h3
       ·cases he1
      ·simp only [Option.some.injEq] at he1; subst he1
       rw [(Aq ha1).1, (Aq hb1).1]
       simp only [Ls] at h3
       split at h3
       ·rename_i hu; exact run_equalIn_string w 9998 f.type _ _ hu
       ·cases h3
      ·simp only [Option.some.injEq] at he1; subst he1
       rw [(Aq ha1).1, (Aq hb1).1]
       simp only [Ls] at h3
       split at h3
       ·rename_i hu; exact run_equalIn_bool w 9998 f.type _ _ hu
       ·cases h3
      ·cases he1
     simp only [Op.eqFields]
     rw [if_pos h1]
     simp only [Sem.run_bind, Nh h3 ex, Nh h3 ey, Result.andThen_ok, hk]
     have ih := KE h4 ha2 hb2 he2 (px ++ [x]) (py ++ [y]) (by simp [hx]) (by simp [hy])
     cases e1 with
     | false => simp at he; subst he; simp
     | true =>
      simp at he; subst he
      simp only [Bool.not_true, Bool.false_eq_true, if_false]
      simpa using ih
theorem VT {op : BinOp} {t ty : TypeId} {x y : Operand} {ks : List FK} {as bs : List V} {e : Bool} (h : o.op = .binOp op t x y ty) (ho : op = .eql ∨ op = .neq) (ht : Xz P t ks = true) (hx : A0 w B ρ r (.agg as) (a.eval x)) (hy : A0 w B ρ r (.agg bs) (a.eval y)) (he : Ir ks as bs = some e) :
  E7 P o a w (.bool (if op = .neq then !e else e)) w := by
 simp only [A0] at hx hy
 obtain ⟨xs, ex, hx⟩ := hx
 obtain ⟨ys, ey, hy⟩ := hy
 simp only [Xz, Bool.and_eq_true, Bool.not_eq_true'] at ht
 obtain ⟨⟨h1, h2⟩, h3⟩ := ht
 split at h1
 ·rename_i fs hu
  have hfo : P.fieldsOf t = fs := by unfold Program.fieldsOf; rw [hu]
  have hu' : P.underlying t = some (.struct (P.fieldsOf t)) := by rw [hfo]; exact hu
  have hrun : (Op.equalIn 10000 t (.agg xs) (.agg ys)).run P w = .ok e w := by
   rw [run_equalIn_struct w 9999 t xs ys hu' h2, hfo]
   have := KE h1 hx hy he [] [] rfl rfl
   simpa using this
  refine As (s := do eqGuard op t x y (.agg xs) (.agg ys); binOp op t (.agg xs) (.agg ys)) (by unfold execOp; rw [h]; simp only [ex, ey]) ?_
  rw [Sem.run_bind, run_eqGuard_agg w op t x y xs ys h3]
  rcases ho with rfl | rfl
  ·simp only [Result.andThen_ok]; rw [run_eql_struct, hrun]; rfl
  ·simp only [Result.andThen_ok]; rw [run_neq_struct, hrun]; rfl
 ·cases h1
end
end TT
