import Derived.Test.YtaeegkjcjlnanaaGreatDoorTP8Walk
import Derived.Test.YtaeegkjcjlnanaaGreatDoorTP2Home
set_option linter.unusedVariables false
set_option linter.unusedSimpArgs false
namespace TT
open Go
theorem fh (code : List Int) (hl : code.length ≤ 1048576) : AZ (Fk code) fun r => r.sz ≤ 20000 := by
 rw [Fk]
 exact (cu code hl).bnd fun c hc => (lK c hc).bnd fun r hr => AZ.ret hr.1
theorem jK (code : List Int) (hl : code.length ≤ 1048576) : AZ (H9 code) fun r => r.sz ≤ 3000 ∧ PC r = true := by
 rw [H9]
 refine (cu code hl).bnd fun c hc => (X0 (fun n => PC n = true) (fun n hn h => ?_) oQ c hc).bnd fun r hr => AZ.ret ⟨hr.1, hr.2.2⟩
 have := (ZY n (by omega)).1
 rw [h] at this
 exact (Option.some.inj this).symm
theorem lN (code : List Int) (hl : code.length ≤ 1048576) (t : A0) (w : AI) : An code (NY t []) false ((NY t []).length : Nat) t w = some true := by
 rw [An, Q5]
 obtain ⟨h, e, hz⟩ := fh code hl
 obtain ⟨r, g1, g2, g3, g4, _⟩ := oJ h (by omega)
 have hpos : Nw (AC (NY t [])) 0 = true := Nt (by rw [RO]; simp only [AC, List.length_cons]; omega)
 simp only [Bool.false_eq_true, if_false, e, A5, g1, g2, hpos, if_true, rn, bR r.1 g3 (by omega)]
theorem jL (code : List Int) (hl : code.length ≤ 1048576) (t : A0) (ht : t.sz ≤ 3000) (hB : PC t = true) : ∀ (m k : Nat) (p : List Int), k + 1 + m = (NY t []).length → (NY t [])[k]? = some p → An code (NY t []) true (k : Nat) t ⟨t, p⟩ = some true := by
 have hlen := Xy t []
 have hpre := ZZ t
 have hat : ∀ (j : Nat) q, (NY t [])[j]? = some q → ∃ x, NV t q = some x ∧ x.sz ≤ t.sz := by
  intro j q hj
  have hlt := (List.getElem?_eq_some_iff.1 hj).1
  obtain ⟨x, hx⟩ : ∃ x, (bP t)[j]? = some x := ⟨_, List.getElem?_eq_getElem (by omega)⟩
  obtain ⟨p', e1, e2⟩ := sN t [] j q x hj hx
  rw [List.nil_append] at e1
  subst e1
  exact ⟨x, e2, cr _ e2⟩
 have here : ∀ (k : Nat) p x, (NY t [])[k]? = some p → NV t p = some x → Oq ⟨t, p⟩ = some x ∧ De t p = some (x, true) := by
  intro k p x hk hx
  have hp := PD p hx
  have e : De t p = some (x, true) := by rw [RI t p (by omega) (by omega), Fc, hx]
  have hw : jJ ⟨t, p⟩ = true := by
   rw [jJ]
   show ((Fc t p).2 && PC t) = true
   rw [Fc, hx, hB]; rfl
  refine ⟨?_, e⟩
  rw [Oq, lL ⟨t, p⟩ (show t.sz ≤ _ by omega) (show p.length ≤ _ by omega), hw]
  simp only [A5, if_true, e]
 have one : ∀ (k : Nat) (p : List Int) (r : Option Bool), (NY t [])[k]? = some p → (KI ⟨t, p⟩ >>= fun r => An code (NY t []) r.2 ((k + 1 : Nat) : Int) t r.1) = some true → An code (NY t []) true (k : Nat) t ⟨t, p⟩ = some true := by
  intro k p r hk hn
  obtain ⟨x, hx, hxs⟩ := hat k p hk
  have hp := PD p hx
  obtain ⟨g1, g2⟩ := here k p x hk hx
  have hlt := (List.getElem?_eq_some_iff.1 hk).1
  have hadd : Ac (k : Int) 1 = ((k + 1 : Nat) : Int) := by rw [Az (by omega) (by omega)]; omega
  rw [An, V2 hk, Gx hk, hadd]
  have hs : D7 p p = some true := NX p (by omega)
  simp only [if_true, A5, g2, hs, g1, TH x (by omega)]
  by_cases h0 : k = 0
  ·subst h0
   rw [RH (by omega), if_neg Bool.false_ne_true]
   exact hn
  ·rw [Nt (by omega), if_pos rfl]
   have hlt' : k - 1 < (NY t []).length := by omega
   have hk' : (NY t [])[k - 1]? = some (NY t [])[k - 1] := List.getElem?_eq_getElem hlt'
   have hprev : Ot ⟨t, p⟩ = some (⟨t, (NY t [])[k - 1]⟩, true) := by
    rw [Ot, lM t (by omega) hB k p hk (-1) (.inr rfl), if_pos (by omega), show ((k : Int) + -1).toNat = k - 1 by omega, hk']
    rfl
   have hsub : Bz (k : Int) 1 = ((k - 1 : Nat) : Int) := by rw [CF (by omega) (by omega)]; omega
   obtain ⟨x', hx', _⟩ := hat _ _ hk'
   have hp' := PD _ hx'
   have hs' : D7 (NY t [])[k - 1] (NY t [])[k - 1] = some true := NX _ (by omega)
   simp only [hprev, A5, if_true, hsub, Gx hk', hs']
   exact hn
 intro m
 induction m with
 | zero =>
  intro k p hm hk
  refine one k p none hk ?_
  rw [KI, lM t (by omega) hB k p hk 1 (.inl rfl), if_pos (by omega), show ((k : Int) + 1).toNat = k + 1 by omega, List.getElem?_eq_none (by omega)]
  simp only [A5]
  rw [show k + 1 = (NY t []).length by omega]
  exact lN code hl t _
 | succ m ih =>
  intro k p hm hk
  refine one k p none hk ?_
  have hlt : k + 1 < (NY t []).length := by omega
  have hk' : (NY t [])[k + 1]? = some (NY t [])[k + 1] := List.getElem?_eq_getElem hlt
  rw [KI, lM t (by omega) hB k p hk 1 (.inl rfl), if_pos (by omega), show ((k : Int) + 1).toNat = k + 1 by omega, hk']
  simp only [A5]
  exact ih (k + 1) _ (by omega) hk'
theorem law_FnAround (code : List Int) (hl : code.length ≤ maxLen) (hc : ∀ y ∈ code, 0 ≤ y ∧ y < 256) : L7 code = some true := by
 rw [L7, US]
 by_cases hb : code.length ≤ 1048576
 case neg => rw [Nt (by simp only [AC]; omega)]; rfl
 rw [RH (by simp only [AC]; omega)]
 obtain ⟨t, e, ht, hB⟩ := jK code hb
 have hk : (NY t [])[0]? = some [] := by rw [RO]; rfl
 have hlen : 0 < (NY t []).length := by rw [RO]; simp
 have hm : IJ t = some (⟨t, []⟩, true) := by
  rw [IJ, (ZY t (by omega)).2, hB, Rm t (by omega)]
  rfl
 simp only [A5, Bool.false_eq_true, if_false, e, dG t (by omega), hm]
 exact jL code hb t ht hB ((NY t []).length - 1) 0 [] (by omega) hk
end TT
