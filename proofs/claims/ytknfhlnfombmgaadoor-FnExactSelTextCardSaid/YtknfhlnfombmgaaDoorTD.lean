import Derived.Test.YtknfhlnfombmgaaDoorTC
set_option linter.unusedVariables false
set_option linter.unusedSimpArgs false
namespace TT
open Go

/-- The first index of a place's way. -/
def idx0 (p : Path) (i : Nat) : Nat := match p with
  | [] => i
  | (j, _) :: _ => j

abbrev Loc := Option Addr × Nat

/-- The claim of a slot's value, of that part that speaks of what is owned. -/
def RefAt (ρ : Id → Loc) (r : R) (id : Id) (n : Nat) (u : Value) : Prop :=
  ∀ rows stt fx, getE r id = .mem rows stt fx → n ≤ rows.length ∧ (rows.length = n → u = .slice (ρ id).1 n (ρ id).2)
def SubAt (w : World) (ρ : Id → Loc) (r : R) (id : Id) (p : Path) (i c n st : Nat) (u : Value) : Prop :=
  ∀ rows stt fx, getE r id = .mem rows stt fx → st ≤ stt ∧ (st = stt → idx0 p i < rows.length ∧
    ∀ rs, getC rows p i c = some (.sl true rs) → rs.length = n → ∃ b k, LocAt w (ρ id).1 rows p i c b k ∧ w.cell? ⟨b, k, none⟩ = some u)
def PtrAt (w : World) (ρ : Id → Loc) (r : R) (id : Id) (p : Path) (i off n st : Nat) (a : Addr) : Prop :=
  ∀ rows stt fx, getE r id = .mem rows stt fx → (p = [] → n ≤ rows.length) ∧ (p ≠ [] → st ≤ stt) ∧ ((p = [] → rows.length = n) → (p ≠ [] → st = stt) →
    (p ≠ [] → idx0 p i < rows.length) ∧ ∀ row, (getP rows p).bind (·[i]?) = some row → off < row.length → ∃ b k, LocAt w (ρ id).1 rows p i off b k ∧ a = ⟨b, k, none⟩)

/-- What stands in a box of one row whose cells the slot's value itself tells. -/
def ContAt (w : World) (ρ : Id → Loc) (r : R) (id : Id) (st : Nat) (us : List Value) : Prop :=
  ∀ rows stt fx, getE r id = .mem rows stt fx → 1 ≤ rows.length ∧ st ≤ stt ∧ (st = stt → rows.length = 1 → ∃ row b, rows = [row] ∧ row.length = us.length ∧ (ρ id).1 = some ⟨b, 0, none⟩ ∧
    ∀ (j : Nat) u, us[j]? = some u → w.cell? ⟨b, j, none⟩ = some u)

def There (r : R) (id : Id) : Prop := id.2 < (r.getD id.1 []).length

mutual
def RepV (w : World) (B : Nat → Prop) (ρ : Id → Loc) (r : R) : V → Value → Prop
  | .t c, u => ShC w B c u ∧ u.oneCell' = true
  | .nil, u => u = .slice none 0 0
  | .agg cs, u => ∃ us, u = .agg us ∧ RepVs w B ρ r cs us.toList
  | .ref id n, u => There r id ∧ (∃ q cap, u = .slice q n cap ∧ n ≤ cap) ∧ RefAt ρ r id n u
  | .sub id p i c n st, u => There r id ∧ (∃ q cap, u = .slice q n cap ∧ n ≤ cap) ∧ SubAt w ρ r id p i c n st u
  | .ptr id p i off n st, u => There r id ∧ ∃ a, u = .pointer (some a) ∧ PtrAt w ρ r id p i off n st a
  | .pp cs, u => ∃ b o, u = .pointer (some ⟨b, o, none⟩) ∧ B b ∧ ShR w B b o cs
  | .fn f caps, u => ∃ us, u = .func (.func f) #[] us ∧ RepVs w B ρ r caps us.toList
  | .tup vs, u => ∃ us, u = .tuple us ∧ RepVs w B ρ r vs us.toList
  | .vb id off st cs, u => There r id ∧ (∃ a, u = .pointer (some a) ∧ PtrAt w ρ r id [] 0 off 1 0 a) ∧ ∃ us, RepVs w B ρ r cs us ∧ ContAt w ρ r id st us
  | .dead, _ => True
def RepVs (w : World) (B : Nat → Prop) (ρ : Id → Loc) (r : R) : List V → List Value → Prop
  | [], us => us = []
  | v :: vs, us => ∃ u us', us = u :: us' ∧ RepV w B ρ r v u ∧ RepVs w B ρ r vs us'
end

theorem RepVs.get {w : World} {B : Nat → Prop} {ρ : Id → Loc} {r : R} : ∀ {vs : List V} {us : List Value}, RepVs w B ρ r vs us → ∀ (i : Nat) (v : V), vs[i]? = some v → ∃ u, us[i]? = some u ∧ RepV w B ρ r v u
  | [], us, h, i, v, hi => by simp at hi
  | v0 :: vs, us, h, i, v, hi => by
    simp only [RepVs] at h
    obtain ⟨u, us', rfl, h1, h2⟩ := h
    cases i with
    | zero => simp at hi; subst hi; exact ⟨u, by simp, h1⟩
    | succ i => simp at hi; obtain ⟨u', h3, h4⟩ := RepVs.get h2 i v hi; exact ⟨u', by simpa using h3, h4⟩
theorem RepVs.length {w : World} {B : Nat → Prop} {ρ : Id → Loc} {r : R} : ∀ {vs : List V} {us : List Value}, RepVs w B ρ r vs us → us.length = vs.length
  | [], us, h => by simp only [RepVs] at h; simp [h]
  | v0 :: vs, us, h => by
    simp only [RepVs] at h
    obtain ⟨u, us', rfl, h1, h2⟩ := h
    simp [RepVs.length h2]
theorem RepVs.append {w : World} {B : Nat → Prop} {ρ : Id → Loc} {r : R} : ∀ {vs vs' : List V} {us us' : List Value}, RepVs w B ρ r vs us → RepVs w B ρ r vs' us' → RepVs w B ρ r (vs ++ vs') (us ++ us')
  | [], vs', us, us', h, h' => by simp only [RepVs] at h; subst h; simpa using h'
  | v0 :: vs, vs', us, us', h, h' => by
    simp only [RepVs] at h
    obtain ⟨u, us1, rfl, h1, h2⟩ := h
    simp only [List.cons_append, RepVs]
    exact ⟨u, us1 ++ us', rfl, h1, RepVs.append h2 h'⟩
theorem RepVs.drop {w : World} {B : Nat → Prop} {ρ : Id → Loc} {r : R} : ∀ {vs : List V} {us : List Value} (n : Nat), RepVs w B ρ r vs us → RepVs w B ρ r (vs.drop n) (us.drop n)
  | vs, us, 0, h => by simpa using h
  | [], us, n + 1, h => by simp only [RepVs] at h; subst h; simp [RepVs]
  | v0 :: vs, us, n + 1, h => by
    simp only [RepVs] at h
    obtain ⟨u, us1, rfl, h1, h2⟩ := h
    simpa using RepVs.drop n h2
theorem RepVs.take {w : World} {B : Nat → Prop} {ρ : Id → Loc} {r : R} : ∀ {vs : List V} {us : List Value} (n : Nat), RepVs w B ρ r vs us → RepVs w B ρ r (vs.take n) (us.take n)
  | vs, us, 0, h => by simp [RepVs]
  | [], us, n + 1, h => by simp only [RepVs] at h; subst h; simp [RepVs]
  | v0 :: vs, us, n + 1, h => by
    simp only [RepVs] at h
    obtain ⟨u, us1, rfl, h1, h2⟩ := h
    simp only [List.take_succ_cons, RepVs]
    exact ⟨u, us1.take n, rfl, h1, RepVs.take n h2⟩

mutual
/-- What makes a slot's value still stand for what it stood for, in another world, with other owned things. -/
theorem RepV.turn {w w' : World} {B B' : Nat → Prop} {ρ ρ' : Id → Loc} {r r' : R} (hB : ∀ b, B b → B' b) (h : Same B w w') (hT : ∀ id, There r id → There r' id)
    (h1 : ∀ id n u, There r id → RefAt ρ r id n u → RefAt ρ' r' id n u) (h2 : ∀ id p i c n st u, There r id → SubAt w ρ r id p i c n st u → SubAt w' ρ' r' id p i c n st u)
    (h3 : ∀ id p i off n st a, There r id → PtrAt w ρ r id p i off n st a → PtrAt w' ρ' r' id p i off n st a)
    (h4 : ∀ id st us, There r id → ContAt w ρ r id st us → ContAt w' ρ' r' id st us) : ∀ {v : V} {u : Value}, RepV w B ρ r v u → RepV w' B' ρ' r' v u
  | .t c, u, hh => by simp only [RepV] at hh ⊢; exact ⟨ShC.same hB h hh.1, hh.2⟩
  | .nil, u, hh => by simpa only [RepV] using hh
  | .agg cs, u, hh => by simp only [RepV] at hh ⊢; obtain ⟨us, g1, g2⟩ := hh; exact ⟨us, g1, RepVs.turn hB h hT h1 h2 h3 h4 g2⟩
  | .ref id n, u, hh => by simp only [RepV] at hh ⊢; exact ⟨hT _ hh.1, hh.2.1, h1 _ _ _ hh.1 hh.2.2⟩
  | .sub id p i c n st, u, hh => by simp only [RepV] at hh ⊢; exact ⟨hT _ hh.1, hh.2.1, h2 _ _ _ _ _ _ _ hh.1 hh.2.2⟩
  | .ptr id p i off n st, u, hh => by simp only [RepV] at hh ⊢; obtain ⟨g0, a, g1, g2⟩ := hh; exact ⟨hT _ g0, a, g1, h3 _ _ _ _ _ _ _ g0 g2⟩
  | .pp cs, u, hh => by
    simp only [RepV] at hh ⊢
    obtain ⟨b, o, g1, g2, g3⟩ := hh
    exact ⟨b, o, g1, hB b g2, ShR.same hB h g2 g3⟩
  | .fn f cs, u, hh => by simp only [RepV] at hh ⊢; obtain ⟨us, g1, g2⟩ := hh; exact ⟨us, g1, RepVs.turn hB h hT h1 h2 h3 h4 g2⟩
  | .tup cs, u, hh => by simp only [RepV] at hh ⊢; obtain ⟨us, g1, g2⟩ := hh; exact ⟨us, g1, RepVs.turn hB h hT h1 h2 h3 h4 g2⟩
  | .vb id off st cs, u, hh => by simp only [RepV] at hh ⊢; obtain ⟨g0, ⟨a, g1, g2⟩, us, g3, g4⟩ := hh; exact ⟨hT _ g0, ⟨a, g1, h3 _ _ _ _ _ _ _ g0 g2⟩, us, RepVs.turn hB h hT h1 h2 h3 h4 g3, h4 _ _ _ g0 g4⟩
  | .dead, u, hh => by simp only [RepV]
theorem RepVs.turn {w w' : World} {B B' : Nat → Prop} {ρ ρ' : Id → Loc} {r r' : R} (hB : ∀ b, B b → B' b) (h : Same B w w') (hT : ∀ id, There r id → There r' id)
    (h1 : ∀ id n u, There r id → RefAt ρ r id n u → RefAt ρ' r' id n u) (h2 : ∀ id p i c n st u, There r id → SubAt w ρ r id p i c n st u → SubAt w' ρ' r' id p i c n st u)
    (h3 : ∀ id p i off n st a, There r id → PtrAt w ρ r id p i off n st a → PtrAt w' ρ' r' id p i off n st a)
    (h4 : ∀ id st us, There r id → ContAt w ρ r id st us → ContAt w' ρ' r' id st us) : ∀ {vs : List V} {us : List Value}, RepVs w B ρ r vs us → RepVs w' B' ρ' r' vs us
  | [], us, hh => by simpa only [RepVs] using hh
  | v :: vs, us, hh => by
    simp only [RepVs] at hh ⊢
    obtain ⟨u, us', g1, g2, g3⟩ := hh
    exact ⟨u, us', g1, RepV.turn hB h hT h1 h2 h3 h4 g2, RepVs.turn hB h hT h1 h2 h3 h4 g3⟩
end

/-! ### All that holds of a call in the middle -/

/-- What a library's tables lay in the world: kept where the blocks that are shared are kept. -/
structure Gt where
  ok : (Nat → Prop) → World → Prop
  mono : ∀ {B B' : Nat → Prop} {w w' : World}, ok B w → (∀ b, B b → B' b) → (∀ b, B b → w'.heap[b]? = w.heap[b]?) → ok B' w'
def Gt.triv : Gt := ⟨fun _ _ => True, fun _ _ _ => trivial⟩
/-- What the call began with: the world, what was lent to it (its blocks; addresses and lengths of its parts). -/
structure Ctx where
  P : Program
  G : Gt
  w0 : World
  B0 : Nat → Prop
  L0 : Nat → Prop
  hG : G.ok B0 w0
  hL : ∀ b, L0 b → ¬ B0 b
  hB : ∀ b, B0 b → b < w0.heap.size
  q0 : Id → Loc
  n0 : Id → Nat

def EntRep (c : Ctx) (w : World) (B : Nat → Prop) (ρ : Id → Loc) (r : R) (id : Id) (S : Nat → Prop) : Ent → Prop
  | .dead => Emp S
  | .mem rows stt fx => OwS w B (ρ id).1 (ρ id).2 rows S ∧ (fx = true → ρ id = c.q0 id ∧ rows.length = c.n0 id)

/-- X: blocks that are owned, but on the way. -/
structure Inv (c : Ctx) (w : World) (B : Nat → Prop) (ρ : Id → Loc) (Sf : Id → Nat → Prop) (X : Nat → Prop) (r : R) : Prop where
  ents : ∀ id, EntRep c w B ρ r id (Sf id) (getE r id)
  disj : ∀ id id' b, Sf id b → Sf id' b → id = id'
  nb : ∀ id b, Sf id b → ¬ B b
  xb : ∀ b, X b → ¬ B b
  xd : ∀ id b, X b → ¬ Sf id b
  inB : ∀ b, B b → b < w.heap.size
  inX : ∀ b, X b → b < w.heap.size
  own : ∀ id b, Sf id b → c.L0 b ∨ c.w0.heap.size ≤ b
  ownX : ∀ b, X b → c.L0 b ∨ c.w0.heap.size ≤ b
  old : ∀ b, c.B0 b → B b
  sh : ∀ b, B b → c.B0 b ∨ c.L0 b ∨ c.w0.heap.size ≤ b
  size : c.w0.heap.size ≤ w.heap.size
  frame : ∀ b, b < c.w0.heap.size → ¬ c.L0 b → w.heap[b]? = c.w0.heap[b]?
  os : w.os = c.w0.os
  tape : w.tape = c.w0.tape
  output : w.output = c.w0.output

theorem Inv.tabs {c : Ctx} {w : World} {B : Nat → Prop} {ρ : Id → Loc} {Sf : Id → Nat → Prop} {X : Nat → Prop} {r : R} (h : Inv c w B ρ Sf X r) : c.G.ok B w :=
  c.G.mono c.hG h.old fun b hb => h.frame b (c.hB b hb) fun hl => c.hL b hl hb

theorem getE_there {r : R} {id : Id} (h : getE r id ≠ .dead) : There r id := by
  unfold There
  rcases Nat.lt_or_ge id.2 (r.getD id.1 []).length with h' | h'
  · exact h'
  · exfalso
    apply h
    simp only [getE, List.getD] at h' ⊢
    rw [List.getElem?_eq_none h']
    rfl

theorem there_lt {r : R} {id : Id} (h : There r id) : id.1 < r.length := by
  unfold There at h
  rcases Nat.lt_or_ge id.1 r.length with h' | h'
  · exact h'
  · simp [List.getD, List.getElem?_eq_none h'] at h

theorem setE_getD {r : R} {id : Id} (e : Ent) (t : Nat) : (setE r id e).getD t [] = if t = id.1 then (r.getD t []).set id.2 e else r.getD t [] := by
  simp only [setE, List.getD, List.getElem?_set]
  by_cases h : id.1 = t
  · subst h
    simp only [if_true]
    split
    · simp
    · rename_i h'
      rw [List.getElem?_eq_none (by omega)]
      simp
  · rw [if_neg h, if_neg (fun e => h e.symm)]

theorem getE_setE_same {r : R} {id : Id} (h : There r id) (e : Ent) : getE (setE r id e) id = e := by
  simp only [getE, setE_getD, if_true]
  simp [List.getD, List.getElem?_set, There] at h ⊢
  simp [h]

theorem getE_setE_other {r : R} {id id' : Id} (h : id ≠ id') (e : Ent) : getE (setE r id e) id' = getE r id' := by
  simp only [getE, setE_getD]
  split
  · rename_i h1
    have h2 : id.2 ≠ id'.2 := fun h2 => h (Prod.ext h1.symm h2)
    simp [List.getD, List.getElem?_set, h2]
  · rfl

theorem there_setE {r : R} {id id' : Id} (e : Ent) : There (setE r id e) id' ↔ There r id' := by
  unfold There
  rw [setE_getD]
  split <;> simp

theorem length_setE {r : R} {id : Id} (e : Ent) : (setE r id e).length = r.length := by simp [setE]

end TT
