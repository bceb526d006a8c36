import Derived.Test.YtaeegkjcjlnanaaGreatDoorTP3Cur
import Derived.Test.YtaeegkjcjlnanaaGreatDoorTP3Copy
set_option linter.unusedVariables false
set_option linter.unusedSimpArgs false
namespace TT
open Go
theorem YQ {α ρ : Type} (l : List α) (F : Int → Option ρ) (r : ρ) (hF : ∀ (k : Nat) x, l[k]? = some x → F ((k + 1 : Nat) : Int) = some r → F (k : Int) = some r) (h0 : F ((l.length : Nat) : Int) = some r) : F 0 = some r := by
 have key : ∀ (m k : Nat), k ≤ l.length → l.length ≤ k + m → F (k : Int) = some r := by
  intro m
  induction m with
  | zero => intro k h1 h2; rw [show k = l.length by omega]; exact h0
  | succ m ih =>
   intro k h1 h2
   by_cases e : k = l.length
   ·rw [e]; exact h0
   ·exact hF k _ (List.getElem?_eq_getElem (by omega)) (ih (k + 1) (by omega) (by omega))
 exact key l.length 0 (by omega) (by omega)
theorem jz (l : List A1) (hl : l.length ≤ 4000000) : EN l l = some true := by
 rw [EN, PH]
 refine YQ l (fun i => Aj l l i) true (fun k x hx ih => ?_) ?_
 ·have := TS hx
  show Aj l l k = _
  rw [Aj, Zj hx, M3 hx, LU (by omega)]
  simp only [if_true, A5, Jg, Bool.and_self]
  exact ih
 ·show Aj l l _ = _
  rw [Aj, RR]; rfl
theorem k8 (l : List A3) (hl : l.length ≤ 4000000) : EO l l = some true := by
 rw [EO, PH]
 refine YQ l (fun i => Ak l l i) true (fun k x hx ih => ?_) ?_
 ·have := TS hx
  show Ak l l k = _
  rw [Ak, Zj hx, M3 hx, LU (by omega)]
  simp only [if_true, A5, Jg, Bool.and_self]
  exact ih
 ·show Ak l l _ = _
  rw [Ak, RR]; rfl
theorem cQ : ∀ n : A0, n.sz ≤ 1048576 → Ea n n = some true := by
 refine A0.ind' fun n ih hs => ?_
 rw [A0.sz_eq] at hs
 have ha : GM n n = some true := by
  rw [GM, Zh, Jg, Jg, Jg, Jg, jz _ (by omega), k8 _ (by omega)]; rfl
 have hk : Az n.Kids n.Kids = some true := by
  rw [Az, PH]
  refine YQ n.Kids (fun i => AK n.Kids n.Kids i) true (fun k x hx h => ?_) ?_
  ·have := TS hx
   have h2 := Cp A0.sz (VU hx)
   show AK n.Kids n.Kids k = _
   rw [AK, Zj hx, M3 hx, LU (by omega)]
   simp only [if_true, A5, ih x (VU hx) (by omega)]
   exact h
  ·show AK n.Kids n.Kids _ = _
   rw [AK, RR]; rfl
 rw [Ea, ha, A5, hk]; rfl
end TT
namespace TT
open Go
end TT
