import Derived.Test.YtknfhlnfombmgaaDoorTD15
set_option linter.unusedVariables false
set_option linter.unusedSimpArgs false
namespace TT
open Go

/-! ### What a call promises -/

abbrev Lent := Loc × Rows

mutual
def ArgRep (w : World) (B : Nat → Prop) : Arg → Value → (Nat → Prop) → List Lent → Prop
  | .t c, u, S, ls => ShC w B c u ∧ u.oneCell' = true ∧ Emp S ∧ ls = []
  | .agg as, u, S, ls => ∃ us, u = .agg us ∧ ArgReps w B as us.toList S ls
  | .ln rows, u, S, ls => ∃ q cap, u = .slice q rows.length cap ∧ OwS w B q cap rows S ∧ ls = [((q, cap), rows)]
  | .lp cells off, u, S, ls => ∃ b cap, u = .pointer (some ⟨b, off, none⟩) ∧ off < cells.length ∧ OwS w B (some ⟨b, 0, none⟩) cap [cells] S ∧ ls = [((some ⟨b, 0, none⟩, cap), [cells])]
  | .pp cells, u, S, ls => (∃ b o, u = .pointer (some ⟨b, o, none⟩) ∧ B b ∧ ShR w B b o cells) ∧ Emp S ∧ ls = []
  | .fn f caps, u, S, ls => ∃ us, u = .func (.func f) #[] us ∧ ArgReps w B caps us.toList S ls
def ArgReps (w : World) (B : Nat → Prop) : List Arg → List Value → (Nat → Prop) → List Lent → Prop
  | [], us, S, ls => us = [] ∧ Emp S ∧ ls = []
  | a :: as, us, S, ls => ∃ u us' S1 S2 l1 l2, us = u :: us' ∧ ArgRep w B a u S1 l1 ∧ ArgReps w B as us' S2 l2 ∧ Split S S1 S2 ∧ ls = l1 ++ l2
end

def RVRep (w : World) (B : Nat → Prop) : RV → Value → (Nat → Prop) → Prop
  | .t c, u, S => OwC w B c u S ∧ u.oneCell' = true
  | .agg cs, u, S => ∃ us, u = .agg us ∧ OwVs w B cs us.toList S
  | .box cells, u, S => ∃ b cap, u = .pointer (some ⟨b, 0, none⟩) ∧ OwS w B (some ⟨b, 0, none⟩) cap [cells] S
def RVReps (w : World) (B : Nat → Prop) : List RV → List Value → (Nat → Prop) → Prop
  | [], us, S => us = [] ∧ Emp S
  | a :: as, us, S => ∃ u us' S1 S2, us = u :: us' ∧ RVRep w B a u S1 ∧ RVReps w B as us' S2 ∧ Split S S1 S2

def AftRep (w : World) (B : Nat → Prop) (l : Lent) (S : Nat → Prop) : Option Rows → Prop
  | some rows => OwS w B l.1.1 l.1.2 rows S ∧ rows.length = l.2.length
  | none => Emp S
def AfterRep (w : World) (B : Nat → Prop) : List Lent → List (Option Rows) → (Nat → Prop) → Prop
  | [], os, S => os = [] ∧ Emp S
  | l :: ls, os, S => ∃ o os' S1 S2, os = o :: os' ∧ AftRep w B l S1 o ∧ AfterRep w B ls os' S2 ∧ Split S S1 S2

def retV : List Value → Value
  | [u] => u
  | us => .tuple us.toArray

structure Done (w : World) (B L : Nat → Prop) (ls : List Lent) (res : Res) (v : Value) (w' : World) (B' Sr Sa : Nat → Prop) (us : List Value) : Prop where
  val : v = retV us
  vals : RVReps w' B' res.vals us Sr
  after : AfterRep w' B' ls res.after Sa
  dis : ∀ b, Sr b → ¬ Sa b
  nr : ∀ b, Sr b → ¬ B' b
  na : ∀ b, Sa b → ¬ B' b
  old : ∀ b, B b → B' b
  sh : ∀ b, B' b → B b ∨ L b ∨ w.heap.size ≤ b
  ownr : ∀ b, Sr b → L b ∨ w.heap.size ≤ b
  owna : ∀ b, Sa b → L b ∨ w.heap.size ≤ b
  inB : ∀ b, B' b → b < w'.heap.size
  frame : ∀ b, b < w.heap.size → ¬ L b → w'.heap[b]? = w.heap[b]?
  size : w.heap.size ≤ w'.heap.size
  os : w'.os = w.os
  tape : w'.tape = w.tape
  output : w'.output = w.output

def Post (w : World) (B L : Nat → Prop) (ls : List Lent) (res : Res) : Ending → World → Prop
  | .returned v, w' => ∃ B' Sr Sa us, Done w B L ls res v w' B' Sr Sa us
  | _, _ => False

/-- A function with a body of its own. -/
def callB (P : Program) (f : FuncId) : Bool := match P.funcs[f]? with | some fn => fn.name != "runtime.NumGoroutine" && fn.body.isSome | none => false

/-- Whatever is told of a call happens. -/
def Sound (G : Gt) (P : Program) (call : CallF) : Prop := ∀ f args res, call f args = some res → callB P f = true ∧ ∀ w B L us ls, ArgReps w B args us L ls → (∀ b, L b → ¬ B b) → (∀ b, B b → b < w.heap.size) → G.ok B w → Calls P f us.toArray w (Post w B L ls res)

/-! ### Many roots turn at once -/

/-- From r to r' roots may have gone, come, or turned with a higher stamp. -/
def Chg (ids : List Id) (r r' : R) : Prop := ∀ id rows stt fx, getE r' id = .mem rows stt fx → There r id → ∃ rows0 stt0 fx0, getE r id = .mem rows0 stt0 fx0 ∧ rows.map (·.length) = rows0.map (·.length) ∧ ((stt0 < stt) ∨ (id ∉ ids ∧ rows = rows0 ∧ stt = stt0))

theorem Chg.refl (r : R) : Chg [] r r := fun id rows stt fx h _ => ⟨rows, stt, fx, h, rfl, .inr ⟨by simp, rfl, rfl⟩⟩

theorem rows_len {rows rows0 : Rows} (h : rows.map (·.length) = rows0.map (·.length)) : rows.length = rows0.length := by
  have := congrArg List.length h
  simpa using this
theorem rows_row {rows rows0 : Rows} (h : rows.map (·.length) = rows0.map (·.length)) {i : Nat} {row : List T} (hr : rows[i]? = some row) : ∃ row0 : List T, rows0[i]? = some row0 ∧ row0.length = row.length := by
  have h1 : (rows.map (·.length))[i]? = some row.length := by simp [hr]
  rw [h, List.getElem?_map] at h1
  obtain ⟨row0, e1, e2⟩ := Option.map_eq_some_iff.1 h1
  exact ⟨row0, e1, e2⟩

section
variable {P : Program} {c : Ctx} {w w' : World} {B B' : Nat → Prop} {ρ ρ' : Id → Loc} {Sf : Id → Nat → Prop} {X : Nat → Prop} {r r' : R} {a : Act} {o : Oper} {id0 : Id}

theorem claims_chg {ids : List Id} (hc : Chg ids r r') (hT : ∀ id, There r id → There r' id) (hρ : ∀ id, There r id → ρ' id = ρ id) (hB : ∀ b, B b → B' b) (hs : Same B w w')
    (hk : ∀ id rows stt fx fx', id ∉ ids → getE r id = .mem rows stt fx → getE r' id = .mem rows stt fx' → Kept w w' B ρ r id) {v : V} {u : Value} (h : RepV w B ρ r v u) : RepV w' B' ρ' r' v u := by
  refine RepV.turn hB hs hT ?_ ?_ ?_ ?_ h
  · intro id n u ht hh rows stt fx hg
    obtain ⟨rows0, stt0, fx0, e1, e2, e3⟩ := hc id rows stt fx hg ht
    have := hh rows0 stt0 fx0 e1
    rw [← rows_len e2] at this
    rw [hρ id ht]
    exact this
  · intro id p i k n st u ht hh rows stt fx hg
    obtain ⟨rows0, stt0, fx0, e1, e2, e3⟩ := hc id rows stt fx hg ht
    rw [hρ id ht]
    rcases e3 with e3 | ⟨e5, e3, e4⟩
    · obtain ⟨g1, _⟩ := hh rows0 stt0 fx0 e1
      exact ⟨by omega, fun e => by omega⟩
    · subst e3; subst e4
      exact SubAt.kept (hk id _ _ _ _ e5 e1 hg) hh _ _ _ e1
  · intro id p i off n st a ht hh rows stt fx hg
    obtain ⟨rows0, stt0, fx0, e1, e2, e3⟩ := hc id rows stt fx hg ht
    rw [hρ id ht]
    rcases e3 with e3 | ⟨e5, e3, e4⟩
    · obtain ⟨g1, g2, g3⟩ := hh rows0 stt0 fx0 e1
      have hl := rows_len e2
      refine ⟨fun e => by have := g1 e; omega, fun e => by have := g2 e; omega, fun e e' => ?_⟩
      cases p with
      | cons x p => have := g2 (by simp); have := e' (by simp); omega
      | nil =>
        refine ⟨fun q => absurd rfl q, fun row' hrow hlt => ?_⟩
        simp only [getP, Option.bind_some] at hrow
        obtain ⟨row, r1, r2⟩ := rows_row e2 hrow
        obtain ⟨_, g5⟩ := g3 (fun _ => by have := e rfl; omega) (fun q => absurd rfl q)
        obtain ⟨b, k, l1, l2⟩ := g5 row (by simp only [getP, Option.bind_some]; exact r1) (by omega)
        obtain ⟨x1, row1, x2, x3, x4⟩ := l1
        rw [r1] at x2; cases x2
        exact ⟨b, k, ⟨x1, row', hrow, hlt, by rw [← r2]; exact x4⟩, l2⟩
    · subst e3; subst e4
      exact PtrAt.kept (hk id _ _ _ _ e5 e1 hg) hh _ _ _ e1
  · intro id st us ht hh rows stt fx hg
    obtain ⟨rows0, stt0, fx0, e1, e2, e3⟩ := hc id rows stt fx hg ht
    rw [hρ id ht]
    rcases e3 with e3 | ⟨e5, e3, e4⟩
    · obtain ⟨g1, g2, _⟩ := hh rows0 stt0 fx0 e1
      have hl := rows_len e2
      exact ⟨by omega, by omega, fun e _ => by omega⟩
    · subst e3; subst e4
      exact ContAt.kept (hk id _ _ _ _ e5 e1 hg) hh _ _ _ e1

/-- The world has turned outside of what the call holds; what was on the way has become what is now on the way. -/
theorem Inv.world (hI : Inv c w B ρ Sf X r) {X' : Nat → Prop} (hheap : ∀ b, b < w.heap.size → ¬ X b → w'.heap[b]? = w.heap[b]?) (hsize : w.heap.size ≤ w'.heap.size) (hos : w'.os = w.os) (htp : w'.tape = w.tape) (hout : w'.output = w.output)
    (hB : ∀ b, B b → B' b) (hB' : ∀ b, B' b → B b ∨ X b ∨ w.heap.size ≤ b) (hBi : ∀ b, B' b → b < w'.heap.size) (hX : ∀ b, X' b → X b ∨ w.heap.size ≤ b) (hXi : ∀ b, X' b → b < w'.heap.size) (hXB : ∀ b, X' b → ¬ B' b) : Inv c w' B' ρ Sf X' r := by
  have hlt : ∀ id b, Sf id b → b < w.heap.size := fun id b h => (hI.ents id).inHeap b h
  have hSS : ∀ id, Same (Sf id) w w' := fun id b hb => hheap b (hlt id b hb) (fun hx => hI.xd id b hx hb)
  have hBB : Same B w w' := fun b hb => hheap b (hI.inB b hb) (fun hx => hI.xb b hx hb)
  constructor
  · intro id
    have h1 := hI.ents id
    cases hh : getE r id with
    | dead => rw [hh] at h1; exact h1
    | mem rows stt fx => rw [hh] at h1; exact ⟨OwS.same hB hBB (hSS id) h1.1, h1.2⟩
  · exact hI.disj
  · intro id b hb hb'
    rcases hB' b hb' with h | h | h
    · exact hI.nb id b hb h
    · exact hI.xd id b h hb
    · exact absurd (hlt id b hb) (by omega)
  · exact hXB
  · intro id b hb hb'
    rcases hX b hb with h | h
    · exact hI.xd id b h hb'
    · exact absurd (hlt id b hb') (by omega)
  · exact hBi
  · exact hXi
  · exact hI.own
  · intro b hb
    rcases hX b hb with h | h
    · exact hI.ownX b h
    · exact .inr (Nat.le_trans hI.size h)
  · exact fun b hb => hB b (hI.old b hb)
  · intro b hb
    rcases hB' b hb with h | h | h
    · exact hI.sh b h
    · exact .inr (hI.ownX b h)
    · exact .inr (.inr (Nat.le_trans hI.size h))
  · exact Nat.le_trans hI.size hsize
  · intro b hb hn
    have hx : ¬ X b := fun hx => by
      rcases hI.ownX b hx with h | h
      · exact hn h
      · omega
    rw [hheap b (Nat.lt_of_lt_of_le hb hI.size) hx]
    exact hI.frame b hb hn
  · rw [hos]; exact hI.os
  · rw [htp]; exact hI.tape
  · rw [hout]; exact hI.output

/-- A root takes up something that is on the way, in the same world. -/
theorem Inv.put (hI : Inv c w B ρ Sf X r) (ht : There r id0) {rows' : Rows} {stt' : Nat} {fx' : Bool} {S' X' : Nat → Prop} (ho : OwS w B (ρ id0).1 (ρ id0).2 rows' S') (hS : ∀ b, S' b → X b ∨ Sf id0 b) (hX : ∀ b, X' b → X b) (hXS : ∀ b, X' b → ¬ S' b)
    (hfx : fx' = true → ρ id0 = c.q0 id0 ∧ rows'.length = c.n0 id0) :
    Inv c w B ρ (fun id b => (id ≠ id0 ∧ Sf id b) ∨ (id = id0 ∧ S' b)) X' (setE r id0 (.mem rows' stt' fx')) := by
  have hno : ∀ b, S' b → ∀ id, id ≠ id0 → ¬ Sf id b := by
    intro b hb id hne h
    rcases hS b hb with h' | h'
    · exact hI.xd id b h' h
    · exact hne (hI.disj id id0 b h h')
  constructor
  · intro id
    by_cases e1 : id0 = id
    · subst e1
      rw [getE_setE_same ht]
      have he : (fun b => (id0 ≠ id0 ∧ Sf id0 b) ∨ (id0 = id0 ∧ S' b)) = S' := funext fun b => propext ⟨fun h => h.elim (fun h => absurd rfl h.1) (fun h => h.2), fun h => .inr ⟨rfl, h⟩⟩
      rw [he]
      exact ⟨ho, hfx⟩
    · rw [getE_setE_other e1]
      have he : (fun b => (id ≠ id0 ∧ Sf id b) ∨ (id = id0 ∧ S' b)) = Sf id := funext fun b => propext ⟨fun h => h.elim (fun h => h.2) (fun h => absurd h.1.symm e1), fun h => .inl ⟨Ne.symm e1, h⟩⟩
      rw [he]
      exact hI.ents id
  · intro id id' b h h'
    rcases h with ⟨a1, a2⟩ | ⟨a1, a2⟩ <;> rcases h' with ⟨b1, b2⟩ | ⟨b1, b2⟩
    · exact hI.disj id id' b a2 b2
    · exact absurd a2 (hno b b2 id a1)
    · exact absurd b2 (hno b a2 id' b1)
    · exact a1.trans b1.symm
  · intro id b h
    rcases h with ⟨a1, a2⟩ | ⟨a1, a2⟩
    · exact hI.nb id b a2
    · rcases hS b a2 with h' | h'
      · exact hI.xb b h'
      · exact hI.nb id0 b h'
  · exact fun b h => hI.xb b (hX b h)
  · intro id b h h'
    rcases h' with ⟨a1, a2⟩ | ⟨a1, a2⟩
    · exact hI.xd id b (hX b h) a2
    · exact hXS b h a2
  · exact hI.inB
  · exact fun b h => hI.inX b (hX b h)
  · intro id b h
    rcases h with ⟨a1, a2⟩ | ⟨a1, a2⟩
    · exact hI.own id b a2
    · rcases hS b a2 with h' | h'
      · exact hI.ownX b h'
      · exact hI.own id0 b h'
  · exact fun b h => hI.ownX b (hX b h)
  · exact hI.old
  · exact hI.sh
  · exact hI.size
  · exact hI.frame
  · exact hI.os
  · exact hI.tape
  · exact hI.output

/-- What is on the way may be shared. -/
theorem Inv.share (hI : Inv c w B ρ Sf X r) {X' Y : Nat → Prop} (hY : ∀ b, Y b → X b) (hX : ∀ b, X' b → X b) (hd : ∀ b, X' b → ¬ Y b) : Inv c w (fun b => B b ∨ Y b) ρ Sf X' r :=
  hI.world (fun _ _ _ => rfl) (Nat.le_refl _) rfl rfl rfl (fun _ h => .inl h) (fun b h => h.imp (fun h => h) (fun h => .inl (hY b h))) (fun b h => h.elim (hI.inB b) (fun h => hI.inX b (hY b h))) (fun b h => .inl (hX b h)) (fun b h => hI.inX b (hX b h))
    (fun b h h' => h'.elim (hI.xb b (hX b h)) (hd b h))

end
end TT
