import Derived.Test.YtgihjlfmnfbcaaaDoorTHX
import Derived.Test.YtgihjlfmnfbcaaaDoorTEqF
import Derived.Test.YtgihjlfmnfbcaaaDoorTD13
import Derived.Below
import Derived.Test.YtgihjlfmnfbcaaaDoorTE
set_option linter.unusedVariables false
set_option linter.unusedSimpArgs false
set_option maxRecDepth 100000
namespace TT
open Go Go.RowKit
end TT
namespace TT
open Go Go.RowKit
end TT
namespace TT
open Go Go.RowKit
end TT
namespace TT
open Go Go.RowKit
def NI : Rows → Option (List (ByteArray × ByteArray))
 | [] => some []
 | [.v (.string a), .v (.string b)] :: rs => (NI rs).map ((a, b) :: ·)
 | _ => none
end TT
namespace TT
open Go Go.RowKit
end TT
namespace TT
open Go Go.RowKit
def cells2 : List (ByteArray × ByteArray) → List Value
 | [] => []
 | x :: l => .string x.1 :: .string x.2 :: cells2 l
def PrL (n₀ : Nat) (W : World) (sv : Value) (l : List (ByteArray × ByteArray)) : Prop :=
 ∃ q cap, sv = .slice q l.length cap ∧ (l.length = 0 ∨ ∃ b off, q = some ⟨b, off, none⟩ ∧ b < n₀ ∧ ∀ (j : Nat) v, (cells2 l)[j]? = some v → W.cell? ⟨b, off + j, none⟩ = some v)
theorem PrL.below {n₀ : Nat} {X Y : World} {sv : Value} {l : List (ByteArray × ByteArray)} (h : PrL n₀ X sv l) (hb : Below n₀ X Y) : PrL n₀ Y sv l := by
 obtain ⟨q, cap, e, h⟩ := h
 exact ⟨q, cap, e, h.imp id fun ⟨b, off, e1, e2, e3⟩ => ⟨b, off, e1, e2, fun j v hj => (hb.cell (p := ⟨b, off + j, none⟩) e2).trans (e3 j v hj)⟩⟩
theorem PrL.one {n₀ : Nat} {X : World} {sv : Value} {l : List (ByteArray × ByteArray)} (h : PrL n₀ X sv l) : sv.oneCell' = true := by
 obtain ⟨q, cap, rfl, _⟩ := h
 rfl
theorem Ae.cells2 {w : World} {B : Nat → Prop} {b : Nat} : ∀ {rs : Rows} {o sz : Nat} {l : List (ByteArray × ByteArray)}, Ae w B b o sz rs → NI rs = some l → l.length = rs.length ∧ ∀ (j : Nat) v, (TT.cells2 l)[j]? = some v → w.cell? ⟨b, o + j, none⟩ = some v
 | [], o, sz, l, h, hp => by
  cases hp
  exact ⟨rfl, fun j v hj => by simp [TT.cells2] at hj⟩
 | r :: rs, o, sz, l, h, hp => by
  unfold NI at hp
  split at hp
  ·rename_i heq; cases heq
  ·rename_i a c rs' heq
   cases heq
   obtain ⟨l', e1, rfl⟩ := Option.map_eq_some_iff.1 hp
   simp only [Ae, E6, CF] at h
   obtain ⟨h0, ⟨⟨u1, k1, _, rfl⟩, ⟨u2, k2, _, rfl⟩, _⟩, h3⟩ := h
   have hs : sz = 2 := by simpa using h0.symm
   subst hs
   obtain ⟨g1, g2⟩ := Ae.cells2 h3 e1
   refine ⟨by simp [g1], fun j v hj => ?_⟩
   match j, hj with
   | 0, hj => simp only [TT.cells2] at hj; cases hj; exact k1
   | 1, hj => simp only [TT.cells2] at hj; cases hj; exact k2
   | j + 2, hj =>
    have := g2 j v (by simpa [TT.cells2] using hj)
    rw [show o + (j + 2) = o + 2 + j by omega]
    exact this
  ·cases hp
theorem E6.vals {w : World} {B : Nat → Prop} {b : Nat} : ∀ {ts : List T} {o : Nat}, E6 w B b o ts → ∃ us, Cq w B ts us ∧ ∀ (i : Nat) x, us[i]? = some x → w.cell? ⟨b, o + i, none⟩ = some x
 | [], o, h => ⟨[], by simp only [Cq], fun i x hx => by simp at hx⟩
 | t :: ts, o, h => by
  simp only [E6] at h
  obtain ⟨⟨u, h1, h2, h3⟩, h4⟩ := h
  obtain ⟨us, g1, g2⟩ := E6.vals h4
  refine ⟨u :: us, by simp only [Cq]; exact ⟨u, us, rfl, h3, h2, g1⟩, fun i x hx => ?_⟩
  cases i with
  | zero => simp at hx; subst hx; exact h1
  | succ i => have := g2 i x (by simpa using hx); rwa [show o + 1 + i = o + (i + 1) by omega] at this
theorem Ae.elems {w : World} {B : Nat → Prop} {b : Nat} : ∀ {rs : Rows} {o sz : Nat}, Ae w B b o sz rs → ∀ (j : Nat) r, rs[j]? = some r → ∃ us, us.length = sz ∧ Cq w B r us ∧ ∀ (i : Nat) x, us[i]? = some x → w.cell? ⟨b, o + j * sz + i, none⟩ = some x
 | [], o, sz, h, j, r, hj => by simp at hj
 | r0 :: rs, o, sz, h, j, r, hj => by
  simp only [Ae] at h
  obtain ⟨h0, h1, h2⟩ := h
  cases j with
  | zero =>
   simp at hj; subst hj
   obtain ⟨us, g1, g2⟩ := E6.vals h1
   exact ⟨us, by rw [Cq.length g1, h0], g1, fun i x hx => by have := g2 i x hx; simpa using this⟩
  | succ j =>
   obtain ⟨us, g1, g2, g3⟩ := Ae.elems h2 j r (by simpa using hj)
   refine ⟨us, g1, g2, fun i x hx => ?_⟩
   have := g3 i x hx
   rwa [show o + sz + j * sz + i = o + (j + 1) * sz + i by rw [Nat.succ_mul]; omega] at this
theorem Cq.same {w w' : World} {B B' : Nat → Prop} (hB : ∀ b, B b → B' b) (h : Bu B w w') : ∀ {ts : List T} {us : List Value}, Cq w B ts us → Cq w' B' ts us
 | [], us, hh => by simpa [Cq] using hh
 | t :: ts, us, hh => by
  simp only [Cq] at hh ⊢
  obtain ⟨u, us', e, h1, h2, h3⟩ := hh
  exact ⟨u, us', e, CF.same hB h h1, h2, Cq.same hB h h3⟩
end TT
