import Derived.Test.YtaeegkjcjlnanaaGreatDoorTP8Walk
import Derived.Test.YtaeegkjcjlnanaaGreatDoorTP2WalkOk
set_option linter.unusedVariables false
set_option linter.unusedSimpArgs false
set_option linter.unusedSectionVars false
namespace TT
open Go
theorem gv (code : List Int) (hl : code.length ≤ 1048576) : AT (H8 code) fun r => r.1.Tre.sz ≤ 20000 ∧ r.1.Path.length ≤ 20001 := by
 rw [H8]
 exact (p6 code hl).bnd fun c hc => (mT c hc).bnd fun w hw => (NC _ hw.2.2 _ (by decide)).bnd fun i _ => AT.ret ⟨hw.1, hw.2.1⟩
section
variable (w : A8) (i : Int) (hs : w.Tre.sz ≤ 20000) (hp : w.Path.length ≤ 20001)
include hs hp
theorem mU : ∃ r, Fc w = some r ∧ (r.2 = false → r.1 = w) ∧ r.1.Tre.sz ≤ 20000 ∧ r.1.Path.length ≤ 20001 ∧ (r.2 = true → PB r.1 = some (w, true) ∧ Bu r.1 = Bu w) := by
 rcases List.eq_nil_or_concat w.Path with h0 | ⟨p, k, h0⟩
 ·refine ⟨(w, false), by rw [Fc, kB w (by omega) (by omega) 1 (.inl h0)]; rfl, fun _ => rfl, hs, hp, fun h => by cases h⟩
 ·cases hw : QG w with
  | false => refine ⟨(w, false), by rw [Fc, kB w (by omega) (by omega) 1 (.inr hw)]; rfl, fun _ => rfl, hs, hp, fun h => by cases h⟩
  | true =>
   have h0' : w.Path = p ++ [k] := by rw [h0]; simp
   have hl : w.Path.length = p.length + 1 := by rw [h0', List.length_append, List.length_singleton]
   refine ⟨wTo w (p ++ [AP k 1]), by rw [Fc, nK w (by omega) (by omega) p k h0' hw 1]; rfl, fun h => by rw [aL h], ?_, ?_, fun h => ?_⟩
   ·cases h : (wTo w (p ++ [AP k 1])).2 with
    | false => rw [aL h]; exact hs
    | true => rw [(gu h).1]; exact hs
   ·cases h : (wTo w (p ++ [AP k 1])).2 with
    | false => rw [aL h]; exact hp
    | true => rw [(gu h).1]; show (p ++ [_]).length ≤ _; rw [List.length_append, List.length_singleton]; omega
   ·obtain ⟨g1, g2, x, hx⟩ := gu h
    obtain ⟨⟨y, hy⟩, hB⟩ := tY hw
    rw [g1]
    have hw' : QG ⟨w.Tre, p ++ [AP k 1]⟩ = true := tZ hx hB
    have hpl : (p ++ [AP k 1]).length ≤ 100000 := by rw [List.length_append, List.length_singleton]; omega
    rw [h0'] at hy
    obtain ⟨z, hz, hk⟩ := XU p hy
    have hzs := dv p hz
    have hkl : 0 ≤ k ∧ k < z.Kids.length := by
     unfold getI at hk
     split at hk
     ·rename_i h0
      have := (List.getElem?_eq_some_iff.1 hk).1
      omega
     ·cases hk
    have hzk : z.Kids.length ≤ z.sz := by rw [A0.sz_eq z]; omega
    have e1 : AP k 1 = k + 1 := Al (by omega) (by omega)
    have e2 : AP (AP k 1) (-1) = k := by rw [e1, Al (by omega) (by omega)]; omega
    constructor
    ·rw [PB, nK ⟨w.Tre, p ++ [AP k 1]⟩ (show w.Tre.sz ≤ _ by omega) hpl p (AP k 1) rfl hw' (-1), e2, ta hw' (show FJ w.Tre (p ++ [k]) = some y from hy)]
     show some ((⟨w.Tre, p ++ [k]⟩ : A8), true) = _
     rw [← h0']
    ·rw [YR w (by omega) (by omega), YR ⟨w.Tre, p ++ [AP k 1]⟩ (show w.Tre.sz ≤ _ by omega) hpl, hw, hw']
     show some (if true then er 0 (((p ++ [AP k 1]).length : Int) - 1) else 0) = _
     rw [List.length_append, List.length_singleton, hl]
theorem pU : ∃ r, I7 w i = some r ∧ (r.2 = false → r.1 = w) ∧ (r.2 = true → HZ r.1 = some (w, true) ∧ ∃ a b, Bu r.1 = some a ∧ Bu w = some b ∧ Hz a b = false) := by
 refine ⟨wTo w (w.Path ++ [i]), zj w (by omega) (by omega) i, fun h => by rw [aL h], fun h => ?_⟩
 obtain ⟨g1, g2, x, hx⟩ := gu h
 obtain ⟨⟨y, hy⟩, hB⟩ := tY g2
 rw [g1]
 have hw' : QG ⟨w.Tre, w.Path ++ [i]⟩ = true := tZ hx hB
 have hpl : (w.Path ++ [i]).length ≤ 100000 := by rw [List.length_append, List.length_singleton]; omega
 constructor
 ·rw [A0i ⟨w.Tre, w.Path ++ [i]⟩ (show w.Tre.sz ≤ _ by omega) hpl w.Path i rfl, ta hw' hy]
 ·refine ⟨_, _, YR ⟨w.Tre, w.Path ++ [i]⟩ (show w.Tre.sz ≤ _ by omega) hpl, YR w (by omega) (by omega), ?_⟩
  rw [hw', g2]
  show Hz (er 0 (((w.Path ++ [i]).length : Int) - 1)) (er 0 ((w.Path.length : Int) - 1)) = false
  rw [List.length_append, List.length_singleton]
  refine Eg ?_
  unfold er
  split <;> split <;> omega
theorem wz : ∃ r, HZ w = some r ∧ (r.2 = false → r.1 = w) := by
 rcases List.eq_nil_or_concat w.Path with h0 | ⟨p, k, h0⟩
 ·exact ⟨(w, false), A0j w (by omega) (by omega) h0, fun _ => rfl⟩
 ·have h0' : w.Path = p ++ [k] := by rw [h0]; simp
  exact ⟨wTo w p, A0i w (by omega) (by omega) p k h0', fun h => by rw [aL h]⟩
end
theorem law_FnWalks (code : List Int) (hl : code.length ≤ maxLen) (hc : ∀ y ∈ code, 0 ≤ y ∧ y < 256) : N2 code = some true := by
 rw [N2, Un]
 by_cases hb : code.length ≤ 1048576
 case neg => rw [PG (by simp only [AC]; omega)]; rfl
 rw [TR (by simp only [AC]; omega)]
 obtain ⟨⟨w, i⟩, e, hs, hp⟩ := gv code hb
 have hs : w.Tre.sz ≤ 20000 := hs
 have hp : w.Path.length ≤ 20001 := hp
 have hz : w.sz ≤ 1048576 := by rw [A8.sz_eq]; omega
 obtain ⟨d, d1, d2, d3, d4, _⟩ := pP w i hz
 obtain ⟨r, r1, r2, r3, r4, _⟩ := mQ w hz
 obtain ⟨u, u1, u2, u3, u4, _⟩ := wy w hz
 obtain ⟨o1, o2⟩ := U8 w hz
 obtain ⟨q, q1, q2⟩ := mR w hz
 obtain ⟨d', e1, e2, e3⟩ := pU w i hs hp
 obtain ⟨r', f1, f2, f3, f4, f5⟩ := mU w hs hp
 obtain ⟨u', g1, g2⟩ := wz w hs hp
 obtain rfl : d' = d := by rw [d2] at e1; exact (Option.some.inj e1).symm
 obtain rfl : r' = r := by rw [r2] at f1; exact (Option.some.inj f1).symm
 obtain rfl : u' = u := by rw [u2] at g1; exact (Option.some.inj g1).symm
 have sw := LB w (by omega) (by omega)
 have sd := LB d'.1 d3 (by omega)
 have sr := LB r'.1 r3 (by omega)
 have su := LB u'.1 u3 (by omega)
 have j40 : De r'.2 (w, i) r' = some true := by
  rw [De]
  cases h : r'.2 with
  | false => rfl
  | true =>
   obtain ⟨k1, k2⟩ := f5 h
   have k2' : Bu r'.1 = some q := by rw [k2]; exact q2
   simp only [if_true, k1, A5, sw, k2', q2, Zh]
 have j32 : Aq d'.2 r'.2 (w, i) d' r' = some true := by
  rw [Aq]
  cases h : d'.2 with
  | false => exact j40
  | true =>
   obtain ⟨k1, a, b, k2, k3, k4⟩ := e3 h
   simp only [if_true, k1, A5, sw, k2, k3, k4, Bool.false_eq_true, if_false]
   exact j40
 simp only [A5, Bool.false_eq_true, if_false, e, d1, d2, r1, r2, u1, u2, sq, sd, if_true, sr, su, o1, o2, q1, q2, PH]
 have wd : d'.2 = false → AY d'.1 w = some true := fun h => by rw [e2 h]; exact sw
 have wr : r'.2 = false → AY r'.1 w = some true := fun h => by rw [f2 h]; exact sw
 have wu : u'.2 = false → AY u'.1 w = some true := fun h => by rw [g2 h]; exact sw
 cases hd : d'.2 <;> cases hr : r'.2 <;> cases hu : u'.2 <;> simp only [hd, hr] at j32 <;> simp only [if_true, Bool.false_eq_true, if_false, A5, j32, wd, wr, wu, hd, hr, hu]
end TT
