import Derived.Test.YtknfhlnfombmgaaDoorTG1
import Derived.Test.YtknfhlnfombmgaaDoorTE
import Derived.Below
set_option linter.unusedVariables false
set_option linter.unusedSimpArgs false
namespace TT
open Go Go.RowKit

theorem den_sound {G : Gt} {P : Program} {FT : FTab} {X : CallF} (hX : Sound G P X) (hm : P.follows .mixedOrders = true) (hF : ∀ f fn, FT f = some fn → agF P f fn = true) : Sound G P (den FT X) := fun f args res h => by
  obtain ⟨n, hn⟩ := (den_some FT X).1 h
  exact callN_sound hX hm hF n f args res hn

/-- No function stands apart. -/
def noX : CallF := fun _ _ => none
theorem noX_sound (G : Gt) (P : Program) : Sound G P noX := fun f args res h => by cases h

/-- A law's function that answers with one plain value. -/
theorem law_calls {G : Gt} {P : Program} {call : CallF} (hS : Sound G P call) {f : FuncId} {args : List Arg} {us : List Value} {w : World} {u0 : Value} (h : call f args = some ⟨[.t (.v u0)], []⟩) (hA : ArgReps w (fun b => b < w.heap.size) args us (fun _ => False) []) (hG : G.ok (fun b => b < w.heap.size) w) :
    Calls P f us.toArray w fun e w' => e = .returned u0 ∧ Below w.heap.size w w' := by
  refine Calls.mono ((hS f args _ h).2 w _ _ us [] hA (fun _ h => h.elim) (fun _ h => h) hG) fun e w' hp => ?_
  cases e with
  | panicked ch => exact hp.elim
  | outgrown => exact hp.elim
  | returned v =>
    obtain ⟨B', Sr, Sa, us', D⟩ := hp
    have hv := D.vals
    simp only [RVReps] at hv
    obtain ⟨u, us2, S1, S2, rfl, h1, ⟨rfl, _⟩, _⟩ := hv
    have h2 := h1.1
    simp only [OwC] at h2
    refine ⟨by rw [D.val]; simp [retV, h2.1], ⟨D.os, D.tape, D.output, D.size, fun k hk => D.frame k hk (fun h => h)⟩⟩

/-- Arguments of shared content. -/
theorem args_nil {w : World} {B : Nat → Prop} : ArgReps w B [] [] (fun _ => False) [] := by simp only [ArgReps]; exact ⟨trivial, fun _ h => h, trivial⟩
theorem args_cons {w : World} {B : Nat → Prop} {a : Arg} {as : List Arg} {u : Value} {us : List Value} (h : ArgRep w B a u (fun _ => False) []) (h' : ArgReps w B as us (fun _ => False) []) : ArgReps w B (a :: as) (u :: us) (fun _ => False) [] := by
  simp only [ArgReps]
  exact ⟨u, us, _, _, [], [], rfl, h, h', ⟨fun b => by simp, fun b (h : False) => h.elim⟩, rfl⟩
theorem sh_args {w : World} {B : Nat → Prop} : ∀ {ts : List T} {us : List Value}, ShVs w B ts us → ArgReps w B (ts.map Arg.t) us (fun _ => False) []
  | [], us, h => by simp only [ShVs] at h; subst h; exact args_nil
  | t :: ts, us, h => by
    simp only [ShVs] at h
    obtain ⟨u, us', rfl, h1, h2, h3⟩ := h
    exact args_cons (by simp only [ArgRep]; exact ⟨h1, h2, fun _ h => h, trivial⟩) (sh_args h3)
theorem arg_agg {w : World} {B : Nat → Prop} {ts : List T} {cs : Array Value} (h : ShVs w B ts cs.toList) : ArgRep w B (.agg (ts.map Arg.t)) (.agg cs) (fun _ => False) [] := by
  simp only [ArgRep]
  exact ⟨cs, rfl, sh_args h⟩
theorem arg_one {w : World} {B : Nat → Prop} {t : T} {u : Value} (h : ShVs w B [t] [u]) : ArgRep w B (.t t) u (fun _ => False) [] := by
  simp only [ShVs] at h
  obtain ⟨u', us', e, h1, h2, h3⟩ := h
  cases e
  simp only [ArgRep]
  exact ⟨h1, h2, fun _ h => h, trivial⟩

end TT
