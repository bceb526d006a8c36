import Derived.Test.YtejfgkcjhmmjkaaGreatDoorTHX
import Derived.Test.YtejfgkcjhmmjkaaGreatDoorTEqF
import Derived.Test.YtejfgkcjhmmjkaaGreatDoorTD13
import Derived.Below
import Derived.Test.YtejfgkcjhmmjkaaGreatDoorTE
import Derived.Lib.Replace
set_option linter.unusedVariables false
set_option linter.unusedSimpArgs false
set_option maxRecDepth 100000
namespace TT
open Go Go.RowKit
end TT
namespace TT
open Go Go.RowKit
end TT
namespace TT
open Go Go.RowKit
end TT
namespace TT
open Go Go.RowKit
def pairsOf : Rows → Option (List (ByteArray × ByteArray))
 | [] => some []
 | [.v (.string a), .v (.string b)] :: rs => (pairsOf rs).map ((a, b) :: ·)
 | _ => none
end TT
namespace TT
open Go Go.RowKit
end TT
namespace TT
open Go Go.RowKit
def cells2 : List (ByteArray × ByteArray) → List Value
 | [] => []
 | x :: l => .string x.1 :: .string x.2 :: cells2 l
def PrL (n₀ : Nat) (W : World) (sv : Value) (l : List (ByteArray × ByteArray)) : Prop :=
 ∃ q cap, sv = .slice q l.length cap ∧ (l.length = 0 ∨ ∃ b off, q = some ⟨b, off, none⟩ ∧ b < n₀ ∧ ∀ (j : Nat) v, (cells2 l)[j]? = some v → W.cell? ⟨b, off + j, none⟩ = some v)
theorem PrL.one {n₀ : Nat} {X : World} {sv : Value} {l : List (ByteArray × ByteArray)} (h : PrL n₀ X sv l) : sv.oneCell' = true := by
 obtain ⟨q, cap, rfl, _⟩ := h
 rfl
theorem ShRs.cells2 {w : World} {B : Nat → Prop} {b : Nat} : ∀ {rs : Rows} {o sz : Nat} {l : List (ByteArray × ByteArray)}, ShRs w B b o sz rs → pairsOf rs = some l → l.length = rs.length ∧ ∀ (j : Nat) v, (TT.cells2 l)[j]? = some v → w.cell? ⟨b, o + j, none⟩ = some v
 | [], o, sz, l, h, hp => by
  cases hp
  exact ⟨rfl, fun j v hj => by simp [TT.cells2] at hj⟩
 | r :: rs, o, sz, l, h, hp => by
  unfold pairsOf at hp
  split at hp
  ·rename_i heq; cases heq
  ·rename_i a c rs' heq
   cases heq
   obtain ⟨l', e1, rfl⟩ := Option.map_eq_some_iff.1 hp
   simp only [ShRs, ShR, ShC] at h
   obtain ⟨h0, ⟨⟨u1, k1, _, rfl⟩, ⟨u2, k2, _, rfl⟩, _⟩, h3⟩ := h
   have hs : sz = 2 := by simpa using h0.symm
   subst hs
   obtain ⟨g1, g2⟩ := ShRs.cells2 h3 e1
   refine ⟨by simp [g1], fun j v hj => ?_⟩
   match j, hj with
   | 0, hj => simp only [TT.cells2] at hj; cases hj; exact k1
   | 1, hj => simp only [TT.cells2] at hj; cases hj; exact k2
   | j + 2, hj =>
    have := g2 j v (by simpa [TT.cells2] using hj)
    rw [show o + (j + 2) = o + 2 + j by omega]
    exact this
  ·cases hp
theorem ShR.vals {w : World} {B : Nat → Prop} {b : Nat} : ∀ {ts : List T} {o : Nat}, ShR w B b o ts → ∃ us, ShVs w B ts us ∧ ∀ (i : Nat) x, us[i]? = some x → w.cell? ⟨b, o + i, none⟩ = some x
 | [], o, h => ⟨[], by simp only [ShVs], fun i x hx => by simp at hx⟩
 | t :: ts, o, h => by
  simp only [ShR] at h
  obtain ⟨⟨u, h1, h2, h3⟩, h4⟩ := h
  obtain ⟨us, g1, g2⟩ := ShR.vals h4
  refine ⟨u :: us, by simp only [ShVs]; exact ⟨u, us, rfl, h3, h2, g1⟩, fun i x hx => ?_⟩
  cases i with
  | zero => simp at hx; subst hx; exact h1
  | succ i => have := g2 i x (by simpa using hx); rwa [show o + 1 + i = o + (i + 1) by omega] at this
theorem ShRs.elems {w : World} {B : Nat → Prop} {b : Nat} : ∀ {rs : Rows} {o sz : Nat}, ShRs w B b o sz rs → ∀ (j : Nat) r, rs[j]? = some r → ∃ us, us.length = sz ∧ ShVs w B r us ∧ ∀ (i : Nat) x, us[i]? = some x → w.cell? ⟨b, o + j * sz + i, none⟩ = some x
 | [], o, sz, h, j, r, hj => by simp at hj
 | r0 :: rs, o, sz, h, j, r, hj => by
  simp only [ShRs] at h
  obtain ⟨h0, h1, h2⟩ := h
  cases j with
  | zero =>
   simp at hj; subst hj
   obtain ⟨us, g1, g2⟩ := ShR.vals h1
   exact ⟨us, by rw [ShVs.length g1, h0], g1, fun i x hx => by have := g2 i x hx; simpa using this⟩
  | succ j =>
   obtain ⟨us, g1, g2, g3⟩ := ShRs.elems h2 j r (by simpa using hj)
   refine ⟨us, g1, g2, fun i x hx => ?_⟩
   have := g3 i x hx
   rwa [show o + sz + j * sz + i = o + (j + 1) * sz + i by rw [Nat.succ_mul]; omega] at this
theorem ShVs.same {w w' : World} {B B' : Nat → Prop} (hB : ∀ b, B b → B' b) (h : Same B w w') : ∀ {ts : List T} {us : List Value}, ShVs w B ts us → ShVs w' B' ts us
 | [], us, hh => by simpa [ShVs] using hh
 | t :: ts, us, hh => by
  simp only [ShVs] at hh ⊢
  obtain ⟨u, us', e, h1, h2, h3⟩ := hh
  exact ⟨u, us', e, ShC.same hB h h1, h2, ShVs.same hB h h3⟩
end TT
namespace TT
open Go Go.RowKit
def replB (s t u : ByteArray) : ByteArray := ⟨(Lib.replaceAll s.data.toList t.data.toList u.data.toList).toArray⟩
def x_replace : LibF
 | [.t (.v (.string s)), .t (.v (.string t)), .t (.v (.string u))] => if s.size < 4294967281 ∧ 1 ≤ t.size ∧ s.size + Lib.countB s t * u.size ≤ 140737488355328 then some ⟨[.t (.v (.string (replB s t u)))], []⟩ else none
 | _ => none
theorem x_replace_ok (s t u : ByteArray) {r : ByteArray} {e : ByteArray → Res} (he : ∀ r, e r = ⟨[.t (.v (.string r))], []⟩) (hr : (if s.size < 4294967281 ∧ 1 ≤ t.size ∧ s.size + Lib.countB s t * u.size ≤ 140737488355328 then some (replB s t u) else none) = some r) : x_replace [.t (.v (.string s)), .t (.v (.string t)), .t (.v (.string u))] = some (e r) := by
 split at hr
 ·rename_i h
  cases hr
  rw [he]
  simp only [x_replace, if_pos h]
 ·cases hr
theorem x_replace_sound {G : Gt} {P : Program} {f : FuncId} {g : Nat} (hG : ∀ B w, G.ok B w → ∃ m, w.cell? ⟨g, 0, none⟩ = some (.int .i64 m)) (hc : callB P f = true) (h : ∀ (s old new : ByteArray) (m : Int) (w : World), s.size < 4294967281 → w.cell? ⟨g, 0, none⟩ = some (.int .i64 m) → 1 ≤ old.size → s.size + Lib.countB s old * new.size ≤ 140737488355328 →
  Calls P f #[.string s, .string old, .string new] w fun e w' => e = .returned (.string ⟨(Lib.replaceAll s.data.toList old.data.toList new.data.toList).toArray⟩) ∧ Below w.heap.size w w') : Sound1 G P f x_replace := sound1_plain hc fun args res hr => by
 unfold x_replace at hr
 split at hr
 ·rename_i s t u
  split at hr
  ·rename_i hs
   cases hr
   refine ⟨[.string s, .string t, .string u], [.string (replB s t u)], rfl, rfl, fun v hv => ?_, fun w B hg => ?_⟩
   ·simp only [List.mem_cons, List.not_mem_nil, or_false] at hv
    subst hv; rfl
   ·obtain ⟨m, hm⟩ := hG B w hg
    refine Calls.mono (h s t u m w hs.1 hm hs.2.1 hs.2.2) ?_
    rintro e w' ⟨rfl, hb⟩
    exact ⟨rfl, hb⟩
  ·cases hr
 ·cases hr
end TT
