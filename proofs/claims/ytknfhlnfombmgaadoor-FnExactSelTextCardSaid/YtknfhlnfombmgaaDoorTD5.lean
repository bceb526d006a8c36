import Derived.Test.YtknfhlnfombmgaaDoorTD4
import Derived.Laws.Strings
import Derived.Laws.StructEq
set_option linter.unusedVariables false
set_option linter.unusedSimpArgs false
namespace TT
open Go

/-! ### The compact code and the loaded code: operands -/

/-- Constants that may stand in the code, alike. -/
def eqC : Value → Value → Bool
  | .int k a, .int k' b => k == k' && a == b
  | .bool a, .bool b => a == b
  | .string a, .string b => a.toList == b.toList
  | .slice none 0 0, .slice none 0 0 => true
  | .nilFunc, .nilFunc => true
  | .pointer none, .pointer none => true
  | _, _ => false

theorem bytes_inj {a b : ByteArray} (h : a.toList = b.toList) : a = b := by
  rw [ByteArray.toList_eq, ByteArray.toList_eq] at h
  obtain ⟨⟨x⟩⟩ := a
  obtain ⟨⟨y⟩⟩ := b
  simp at h
  rw [h]

theorem eqC_eq {x y : Value} (h : eqC x y = true) : x = y ∧ x.oneCell' = true := by
  unfold eqC at h
  split at h
  · simp at h; exact ⟨by rw [h.1, h.2], rfl⟩
  · simp at h; exact ⟨by rw [h], rfl⟩
  · rename_i a b
    have h1 : a.toList = b.toList := by simpa using h
    exact ⟨by rw [bytes_inj h1], rfl⟩
  · exact ⟨rfl, rfl⟩
  · exact ⟨rfl, rfl⟩
  · exact ⟨rfl, rfl⟩
  · cases h

/-- Zero cells, alike. -/
def eqZ : List T → List Value → Bool
  | [], [] => true
  | .v x :: ts, y :: ys => eqC x y && eqZ ts ys
  | .sl true [] :: ts, .slice none 0 0 :: ys => eqZ ts ys
  | _, _ => false

def agO : Opd → Operand → Bool
  | .s t, .tmp t' => t == t'
  | .c x, .const y => eqC x y
  | .f f, .func g => f == g
  | .z cs, .const (.agg ys) => eqZ cs ys.toList
  | _, _ => false

def agOs : List Opd → List Operand → Bool
  | [], [] => true
  | a :: as, b :: bs => agO a b && agOs as bs
  | _, _ => false

section
variable {c : Ctx} {w : World} {B : Nat → Prop} {ρ : Id → Loc} {Sf : Id → Nat → Prop} {X : Nat → Prop} {r : R}

theorem eqZ_reps : ∀ {ts : List T} {ys : List Value}, eqZ ts ys = true → RepVs w B ρ r (ts.map fun c => match c with | .sl true [] => V.nil | c => V.t c) ys ∧ OwVs w B ts ys (fun _ => False) ∧ ts.length = ys.length
  | [], [], _ => ⟨by simp [RepVs], by simp only [OwVs]; exact ⟨trivial, fun _ h => h⟩, rfl⟩
  | [], y :: ys, h => by simp [eqZ] at h
  | .v x :: ts, [], h => by simp [eqZ] at h
  | .v x :: ts, y :: ys, h => by
    simp only [eqZ, Bool.and_eq_true] at h
    obtain ⟨h1, h2, h3⟩ := eqZ_reps h.2
    obtain ⟨e1, e2⟩ := eqC_eq h.1
    subst e1
    refine ⟨?_, ?_, by simp [h3]⟩
    · simp only [List.map_cons, RepVs]
      exact ⟨x, ys, rfl, by simp only [RepV, ShC]; exact ⟨trivial, e2⟩, h1⟩
    · simp only [OwVs]
      exact ⟨x, ys, _, _, rfl, e2, by simp only [OwC]; exact ⟨trivial, fun _ h => h⟩, h2, ⟨fun b => by simp, fun b (h : False) => h.elim⟩⟩
  | .sl true [] :: ts, [], h => by simp [eqZ] at h
  | .sl true [] :: ts, y :: ys, h => by
    cases y with
    | slice q n cap =>
      cases q with
      | some q => simp [eqZ] at h
      | none => cases n with
        | succ n => simp [eqZ] at h
        | zero => cases cap with
          | succ cap => simp [eqZ] at h
          | zero =>
            simp only [eqZ] at h
            obtain ⟨h1, h2, h3⟩ := eqZ_reps h
            refine ⟨?_, ?_, by simp [h3]⟩
            · simp only [List.map_cons, RepVs]
              exact ⟨_, ys, rfl, by simp only [RepV], h1⟩
            · simp only [OwVs]
              exact ⟨_, ys, _, _, rfl, rfl, by simp only [OwC]; exact ⟨none, 0, rfl, .inl ⟨rfl, rfl, trivial, fun _ h => h⟩⟩, h2, ⟨fun b => by simp, fun b (h : False) => h.elim⟩⟩
    | _ => simp [eqZ] at h
  | .sl true (x :: xs) :: ts, ys, h => by cases ys <;> simp [eqZ] at h
  | .sl false rows :: ts, ys, h => by cases ys <;> simp [eqZ] at h
  | .hole :: ts, ys, h => by cases ys <;> simp [eqZ] at h

/-- The slots of a frame. -/
def Slots (w : World) (B : Nat → Prop) (ρ : Id → Loc) (r : R) (s : List V) (a : Act) : Prop :=
  ∀ t, RepV w B ρ r (s.getD t .dead) (a.tmps.getD t undef)

theorem Slots.eval {s : List V} {a : Act} (h : Slots w B ρ r s a) {x : Opd} {y : Operand} (hx : agO x y = true) : RepV w B ρ r (evalO s x) (a.eval y) := by
  unfold agO at hx
  split at hx
  · simp at hx; subst hx; exact h _
  · obtain ⟨e1, e2⟩ := eqC_eq hx
    subst e1
    simp only [evalO, Act.eval, constV]
    split
    · simp only [RepV]
    · simp only [RepV, ShC]; exact ⟨trivial, e2⟩
  · simp at hx; subst hx
    simp only [evalO, Act.eval, RepV]
    exact ⟨#[], rfl, by simp [RepVs]⟩
  · simp only [evalO, Act.eval, RepV]
    exact ⟨_, rfl, (eqZ_reps hx).1⟩
  · cases hx

theorem Slots.evals {s : List V} {a : Act} (h : Slots w B ρ r s a) : ∀ {xs : List Opd} {ys : List Operand}, agOs xs ys = true → RepVs w B ρ r (xs.map (evalO s)) (ys.map a.eval)
  | [], [], _ => by simp [RepVs]
  | [], y :: ys, hx => by simp [agOs] at hx
  | x :: xs, [], hx => by simp [agOs] at hx
  | x :: xs, y :: ys, hx => by
    simp only [agOs, Bool.and_eq_true] at hx
    simp only [List.map_cons, RepVs]
    exact ⟨_, _, rfl, h.eval hx.1, h.evals hx.2⟩

/-- A frame and a world stand for a state. -/
def Sim (c : Ctx) (st : St) (a : Act) (w : World) : Prop :=
  ∃ B ρ Sf, Inv c w B ρ Sf (fun _ => False) st.r ∧ Slots w B ρ st.r st.s a ∧ a.tmps.size = st.s.length ∧ st.r.length = st.s.length ∧ a.defers = []

theorem put_slots {s : List V} {a : Act} {d : Option Nat} {v : V} {u : Value} {st : St} (hs : Slots w B ρ r s a) (hz : a.tmps.size = s.length) (hv : RepV w B ρ r v u) :
    Slots w B ρ r (({ s := s, r := r } : St).put d v).s (a.put d u) := by
  cases d with
  | none => exact hs
  | some d =>
    intro t
    simp only [St.put, Act.put]
    by_cases e : d = t
    · subst e
      by_cases hl : d < s.length
      · have h1 : (s.set d v).getD d .dead = v := by simp [List.getD, hl]
        have h2 : (a.tmps.setIfInBounds d u).getD d undef = u := by simp [Array.getD, hz, hl]
        rw [h1, h2]; exact hv
      · have h1 : (s.set d v).getD d .dead = .dead := by simp only [List.getD, List.getElem?_set]; simp [hl]
        rw [h1]; simp only [RepV]
    · have h1 : (s.set d v).getD t .dead = s.getD t .dead := by simp [List.getD, List.getElem?_set, e]
      have h2 : (a.tmps.setIfInBounds d u).getD t undef = a.tmps.getD t undef := by
        simp [Array.getD_eq_getD_getElem?, Array.getElem?_setIfInBounds_ne e]
      rw [h1, h2]; exact hs t

/-- How an operation ends: what was told still holds, and the new value stands for the new slot. -/
theorem Sim.fin {st : St} {a : Act} {w' : World} {B' : Nat → Prop} {ρ' : Id → Loc} {Sf' : Id → Nat → Prop} {r' : R} {d : Option Nat} {v : V} {u : Value}
    (hs : Slots w B ρ st.r st.s a) (hz : a.tmps.size = st.s.length) (hl : st.r.length = st.s.length) (hd : a.defers = []) (hI : Inv c w' B' ρ' Sf' (fun _ => False) r') (hr : r'.length = st.r.length)
    (hc : ∀ v u, RepV w B ρ st.r v u → RepV w' B' ρ' r' v u) (hv : RepV w' B' ρ' r' v u) : Sim c (({ st with r := r' } : St).put d v) (a.put d u) w' := by
  have h1 : Slots w' B' ρ' r' st.s a := fun t => hc _ _ (hs t)
  refine ⟨B', ρ', Sf', ?_, ?_, ?_, ?_, ?_⟩
  · cases d <;> exact hI
  · have := put_slots (d := d) (st := st) h1 hz hv
    cases d <;> exact this
  · cases d <;> simp [St.put, Act.put, hz]
  · cases d <;> simp [St.put, hr, hl]
  · cases d <;> exact hd

end
end TT
