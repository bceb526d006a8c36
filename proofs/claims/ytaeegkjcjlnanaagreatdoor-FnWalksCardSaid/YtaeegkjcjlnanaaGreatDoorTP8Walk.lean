import Derived.Test.YtaeegkjcjlnanaaGreatDoorTP8Bent
import Derived.Test.YtaeegkjcjlnanaaGreatDoorTP2Has
import Derived.Test.YtaeegkjcjlnanaaGreatDoorTP3Copy
import Derived.Test.YtaeegkjcjlnanaaGreatDoorTP3Same
set_option linter.unusedVariables false
set_option linter.unusedSimpArgs false
set_option linter.unusedSectionVars false
namespace TT
open Go
theorem aK (p : List Int) (hp : p.length ≤ 4000000) : H9 p p = some true := by
 rw [H9, PH, if_neg Bool.false_ne_true]
 exact YQ p (fun i => CR p p i) true (fun k x hk ih => by
  rw [CR, Zj hk, M3 hk, LU (by have := (List.getElem?_eq_some_iff.1 hk).1; omega)]
  simp only [if_true, A5, PH, Bool.false_eq_true, if_false]
  exact ih) (by rw [CR, RR, if_neg Bool.false_ne_true])
theorem LB (w : A8) (h1 : w.Tre.sz ≤ 1048576) (h2 : w.Path.length ≤ 4000000) : AY w w = some true := by
 rw [AY, cQ _ h1]
 simp only [A5, if_true, aK _ h2]
def QG (w : A8) : Bool := (CC w.Tre w.Path).2 && RY w.Tre
theorem gt (w : A8) (hs : w.Tre.sz ≤ 1048576) (hp : w.Path.length ≤ 2000000) : Da w = some (QG w) := by
 obtain ⟨t1, t2⟩ := tR w.Tre hs
 rw [Da, O7 _ _ hs hp, t2, QG]
 simp only [A5]
 cases (CC w.Tre w.Path).2 <;> rfl
theorem Va (w : A8) (hs : w.Tre.sz ≤ 1048576) (hp : w.Path.length ≤ 2000000) : Bz w = some w := by
 rw [Bz, Wh _ hs, Bk, DO (by omega) (by omega) (by omega)]
 simp only [A5]
theorem zi (w : A8) (path : List Int) (hs : w.Tre.sz ≤ 1048576) (hp : w.Path.length ≤ 2000000) (hq : path.length ≤ 2000000) : N1 w path = some (if (CC w.Tre path).2 && QG w then (⟨w.Tre, path⟩, true) else (w, false)) := by
 rw [N1, Va w hs hp, O7 _ _ hs hq, gt w hs hp, Bk, DO (by omega) (by omega) (by omega)]
 simp only [A5]
 cases hn : (CC w.Tre path).2 <;> cases QG w <;> rfl
end TT
namespace TT
open Go
theorem mT (c : A2) (h : Fe c) : AT (LO c) fun r => r.1.Tre.sz ≤ 20000 ∧ r.1.Path.length ≤ 20001 ∧ Fe r.2 := by
 rw [LO]
 refine (mK c h).bnd fun t ht => (Ed _ ht.2 10).bnd fun b hb => AT.ite (fun _ => ?_) fun _ => ?_
 ·refine (mS _ hb).bnd fun u hu => (XR _ hu.2 _ (by have := hu.1; omega)).bnd fun p hp => AT.ret ⟨hu.1, ?_, hp.2⟩
  have h1 := hp.1
  have h2 := hu.1
  show p.1.length ≤ _
  omega
 ·refine (XR _ hb _ (by have := ht.1; omega)).bnd fun p hp => AT.ret ⟨?_, ?_, hp.2⟩
  ·have := ht.1
   show t.1.sz ≤ _
   omega
  ·have h1 := hp.1
   have h2 := ht.1
   show p.1.length ≤ _
   omega
theorem XU : ∀ (p : List Int) {n y : A0} {k : Int}, FJ n (p ++ [k]) = some y → ∃ x, FJ n p = some x ∧ getI x.Kids k = some y
 | [], n, y, k, h => by
  obtain ⟨z, h1, h2⟩ := Option.bind_eq_some_iff.1 h
  have : z = y := Option.some.inj h2
  subst this
  exact ⟨n, rfl, h1⟩
 | i :: p, n, y, k, h => by
  obtain ⟨z, h1, h2⟩ := Option.bind_eq_some_iff.1 h
  obtain ⟨x, h3, h4⟩ := XU p h2
  exact ⟨x, Option.bind_eq_some_iff.2 ⟨z, h1, h3⟩, h4⟩
theorem tY {w : A8} (h : QG w = true) : (∃ x, FJ w.Tre w.Path = some x) ∧ RY w.Tre = true := by
 rw [QG, Bool.and_eq_true, CC] at h
 refine ⟨?_, h.2⟩
 cases e : FJ w.Tre w.Path with
 | none => rw [e] at h; cases h.1
 | some x => exact ⟨x, rfl⟩
theorem tZ {t : A0} {p : List Int} {x : A0} (hx : FJ t p = some x) (hB : RY t = true) : QG ⟨t, p⟩ = true := by
 rw [QG]
 show ((CC t p).2 && RY t) = true
 rw [CC, hx, hB]; rfl
def wTo (w : A8) (q : List Int) : A8 × Bool := if (CC w.Tre q).2 && QG w then (⟨w.Tre, q⟩, true) else (w, false)
theorem gu {w : A8} {q : List Int} (h : (wTo w q).2 = true) : wTo w q = (⟨w.Tre, q⟩, true) ∧ QG w = true ∧ ∃ x, FJ w.Tre q = some x := by
 unfold wTo at h ⊢
 split at h
 ·rename_i hc
  rw [if_pos hc]
  rw [Bool.and_eq_true, CC] at hc
  refine ⟨rfl, hc.2, ?_⟩
  cases e : FJ w.Tre q with
  | none => rw [e] at hc; cases hc.1
  | some x => exact ⟨x, rfl⟩
 ·cases h
theorem aL {w : A8} {q : List Int} (h : (wTo w q).2 = false) : wTo w q = (w, false) := by
 unfold wTo at h ⊢
 split at h
 ·cases h
 ·rename_i hc; rw [if_neg hc]
theorem ta {w : A8} {q : List Int} {x : A0} (hw : QG w = true) (hx : FJ w.Tre q = some x) : wTo w q = (⟨w.Tre, q⟩, true) := by
 unfold wTo
 rw [CC, hx, hw]; rfl
section
variable (w : A8) (hs : w.Tre.sz ≤ 100000) (hp : w.Path.length ≤ 100000)
include hs hp
theorem kA (p : List Int) (i : Int) (h : p.length ≤ 1000000) : FS p i = some (p ++ [i]) := by
 have e : CP [p, [i]] = some (p ++ [i]) := by
  unfold CP
  have h1 : ([i] : List Int).length = 1 := rfl
  simp only [h1]
  rw [if_pos ⟨by omega, by omega⟩]
 rw [FS, e]; rfl
theorem zj (i : Int) : I7 w i = some (wTo w (w.Path ++ [i])) := by
 rw [I7, kA w hs hp _ _ (by omega)]
 simp only [A5]
 rw [zi w _ (by omega) (by omega) (by rw [List.length_append, List.length_singleton]; omega)]
 rfl
theorem tb {α : Type} (l : List α) (k : Nat) (h : k ≤ l.length) : slL l 0 (k : Int) = some (l.take k) := by
 unfold slL
 rw [if_pos ⟨by omega, by omega, by omega⟩]
 simp
theorem A0i (p : List Int) (k : Int) (e : w.Path = p ++ [k]) : HZ w = some (wTo w p) := by
 have hl : w.Path.length = p.length + 1 := by rw [e, List.length_append, List.length_singleton]
 have e1 : BA (AC w.Path) 1 = (p.length : Int) := by rw [BT (by simp only [AC]; omega) (by simp only [AC]; omega)]; simp only [AC]; omega
 rw [HZ, e1, LS (by simp only [AC]; omega), if_neg Bool.false_ne_true, tb w hs hp _ _ (by omega), e, List.take_left]
 simp only [A5]
 rw [zi w _ (by omega) (by omega) (by omega)]
 rfl
theorem nK (p : List Int) (k : Int) (e : w.Path = p ++ [k]) (hw : QG w = true) (d : Int) : EZ w d = some (wTo w (p ++ [AP k d])) := by
 have hl : w.Path.length = p.length + 1 := by rw [e, List.length_append, List.length_singleton]
 have e1 : BA (AC w.Path) 1 = (p.length : Int) := by rw [BT (by simp only [AC]; omega) (by simp only [AC]; omega)]; simp only [AC]; omega
 have hg : getI w.Path (p.length : Int) = some k := by
  unfold getI
  rw [if_pos (by omega), e]
  simp
 rw [EZ, e1, LS (by simp only [AC]; omega), if_neg Bool.false_ne_true, gt w (by omega) (by omega), hw, hg, tb w hs hp _ _ (by omega), e, List.take_left]
 simp only [A5, if_true]
 rw [kA w hs hp _ _ (by omega)]
 simp only [A5]
 rw [zi w _ (by omega) (by omega) (by rw [List.length_append, List.length_singleton]; omega)]
 rfl
theorem kB (d : Int) (h : w.Path = [] ∨ QG w = false) : EZ w d = some (w, false) := by
 rw [EZ]
 by_cases h0 : w.Path = []
 ·rw [QB (by rw [h0]; rfl), if_pos rfl, Va w (by omega) (by omega)]
  rfl
 ·have hl : w.Path.length ≠ 0 := fun e => h0 (List.eq_nil_of_length_eq_zero e)
  rw [LS (by simp only [AC]; omega), if_neg Bool.false_ne_true, gt w (by omega) (by omega), h.resolve_left h0, Va w (by omega) (by omega)]
  rfl
theorem A0j (h : w.Path = []) : HZ w = some (w, false) := by
 rw [HZ, QB (by rw [h]; rfl), if_pos rfl, Va w (by omega) (by omega)]
 rfl
theorem YR : Bu w = some (if QG w then er 0 ((w.Path.length : Int) - 1) else 0) := by
 have e1 : BA (AC w.Path) 1 = (w.Path.length : Int) - 1 := by rw [BT (by simp only [AC]; omega) (by simp only [AC]; omega)]; simp only [AC]
 rw [Bu, gt w (by omega) (by omega), e1]
 simp only [A5]
 cases QG w <;> rfl
end
end TT
