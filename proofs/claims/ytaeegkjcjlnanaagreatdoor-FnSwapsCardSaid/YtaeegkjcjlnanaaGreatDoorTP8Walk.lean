import Derived.Test.YtaeegkjcjlnanaaGreatDoorTP8Bent
import Derived.Test.YtaeegkjcjlnanaaGreatDoorTP2Has
import Derived.Test.YtaeegkjcjlnanaaGreatDoorTP3Copy
import Derived.Test.YtaeegkjcjlnanaaGreatDoorTP3Same
set_option linter.unusedVariables false
set_option linter.unusedSimpArgs false
set_option linter.unusedSectionVars false
namespace TT
open Go
theorem b9 (p : List Int) (hp : p.length ≤ 4000000) : HL p p = some true := by
 rw [HL, Ph, if_neg Bool.false_ne_true]
 exact Z4 p (fun i => CW p p i) true (fun k x hk ih => by
  rw [CW, X1 hk, Ge hk, Jv (by have := (List.getElem?_eq_some_iff.1 hk).1; omega)]
  simp only [if_true, A3, Ph, Bool.false_eq_true, if_false]
  exact ih) (by rw [CW, Qd, if_neg Bool.false_ne_true])
theorem Tu (w : AJ) (h1 : w.Tre.sz ≤ 1048576) (h2 : w.Path.length ≤ 4000000) : En w w = some true := by
 rw [En, Ts _ h1]
 simp only [A3, if_true, b9 _ h2]
def kh (w : AJ) : Bool := (CJ w.Tre w.Path).2 && O8 w.Tre
theorem nC (w : AJ) (hs : w.Tre.sz ≤ 1048576) (hp : w.Path.length ≤ 2000000) : Cp w = some (kh w) := by
 obtain ⟨t1, t2⟩ := X8 w.Tre hs
 rw [Cp, Gd _ _ hs hp, t2, kh]
 simp only [A3]
 cases (CJ w.Tre w.Path).2 <;> rfl
theorem ki (w : AJ) (hs : w.Tre.sz ≤ 1048576) (hp : w.Path.length ≤ 2000000) : E5 w = some w := by
 rw [E5, IK _ hs, Dp, DX (by omega) (by omega) (by omega)]
 simp only [A3]
end TT
namespace TT
open Go
theorem nE (c : A2) (h : FV c) : AQ (Ll c) fun r => r.1.Tre.sz ≤ 20000 ∧ r.1.Path.length ≤ 20001 ∧ FV r.2 := by
 rw [Ll]
 refine (mt c h).bnd fun t ht => (E9 _ ht.2 10).bnd fun b hb => AQ.ite (fun _ => ?_) fun _ => ?_
 ·refine (nB _ hb).bnd fun u hu => (Xr _ hu.2 _ (by have := hu.1; omega)).bnd fun p hp => AQ.ret ⟨hu.1, ?_, hp.2⟩
  have h1 := hp.1
  have h2 := hu.1
  show p.1.length ≤ _
  omega
 ·refine (Xr _ hb _ (by have := ht.1; omega)).bnd fun p hp => AQ.ret ⟨?_, ?_, hp.2⟩
  ·have := ht.1
   show t.1.sz ≤ _
   omega
  ·have h1 := hp.1
   have h2 := ht.1
   show p.1.length ≤ _
   omega
theorem A04 {w : AJ} (h : kh w = true) : (∃ x, BA w.Tre w.Path = some x) ∧ O8 w.Tre = true := by
 rw [kh, Bool.and_eq_true, CJ] at h
 refine ⟨?_, h.2⟩
 cases e : BA w.Tre w.Path with
 | none => rw [e] at h; cases h.1
 | some x => exact ⟨x, rfl⟩
theorem A05 {t : A0} {p : List Int} {x : A0} (hx : BA t p = some x) (hB : O8 t = true) : kh ⟨t, p⟩ = true := by
 rw [kh]
 show ((CJ t p).2 && O8 t) = true
 rw [CJ, hx, hB]; rfl
section
variable (w : AJ) (hs : w.Tre.sz ≤ 100000) (hp : w.Path.length ≤ 100000)
include hs hp
end
end TT
