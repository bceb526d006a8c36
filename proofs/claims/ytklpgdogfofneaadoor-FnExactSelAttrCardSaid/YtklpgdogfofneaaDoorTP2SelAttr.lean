import Derived.Test.YtklpgdogfofneaaDoorTP2Sign
import Derived.Test.YtklpgdogfofneaaDoorTP2Copy
set_option linter.unusedVariables false
set_option linter.unusedSimpArgs false
namespace TT
open Go

theorem long_SelOk (s : GSel) (hs : s.sz ≤ 1500000) (h8 : 8 < s.Steps.length) : spec_SelOk s = some false := by
  have hz := GSel.sz_eq s
  obtain ⟨v, v1, v2⟩ := val_all s.Id (by omega)
  have key : ∀ rest pre : List GStp, pre ++ rest = s.Steps → spec_SelOk_l6 pre.length s = some false := by
    intro rest
    induction rest with
    | nil =>
      intro pre hp
      rw [spec_SelOk_l6, end_at hp, v1]
      have hl : leI (lenL s.Steps) 8 = false := leI_f (by simp only [lenL]; omega)
      simp only [Bool.false_eq_true, if_false, some_bnd, hl, ite_self]
    | cons x rest ih =>
      intro pre hp
      have h1 := ih (pre ++ [x]) (step_at hp)
      obtain ⟨b, b1, b2⟩ := step_all x (eqI (pre.length : Int) (subI (lenL s.Steps) 1)) (by have := szs_mem GStp.sz (show x ∈ s.Steps by rw [← hp]; simp); omega)
      rw [spec_SelOk_l6, more_at hp, getI_at hp, next_at hp (by rw [maxLen_eq]; omega)]
      simp only [if_true, some_bnd, b1, h1, ite_self]
  rw [spec_SelOk]; exact key s.Steps [] rfl
theorem szs_app2 {α : Type} (sz : α → Nat) (a b : List α) : szs sz (a ++ b) = szs sz a + szs sz b := by simp [szs]
theorem all_SelAttr (n : GNode) (p : List Int) (a : GAttr) (lp : p.length ≤ 1048576) (hs : n.sz ≤ 1048576) (ha : a.sz ≤ 1048576) : ∃ r : GSel × Bool, spec_SelAttr n p a = some r ∧ impl_SelAttr n p a = some r ∧ r.1.sz ≤ 1100000 := by
  obtain ⟨r, h1, h2, h3⟩ := all_SelFor n p lp hs
  have hz := GSel.sz_eq r.1
  have hza := GAttr.sz_eq a
  have he : GSel.sz (GSel.mk (⟨#[]⟩) []) ≤ 1100000 := by decide
  have hst : GStp.sz (GStp.mk false 6 a.Pre a.Local []) = a.Pre.size + a.Local.size := by rw [GStp.sz_eq]; simp [szs]
  have hz' : GSel.sz (GSel.mk r.1.Id (r.1.Steps ++ [GStp.mk false 6 a.Pre a.Local []])) ≤ 1100000 := by
    have h1 : szs GStp.sz [GStp.mk false 6 a.Pre a.Local []] = a.Pre.size + a.Local.size := by rw [szs_cons, hst]; rfl
    rw [GSel.sz_eq]
    simp only [szs_app2, h1, List.length_append, List.length_singleton]
    omega
  have hroom := room_ok (show r.1.Steps.length + 1 ≤ 4000000 by omega) (show 0 < 72 by omega) (show 72 ≤ 1000 by omega)
  obtain ⟨b, b1, b2⟩ := all_SelOk _ (show GSel.sz (GSel.mk r.1.Id (r.1.Steps ++ [GStp.mk false 6 a.Pre a.Local []])) ≤ 1500000 by omega)
  rw [spec_SelAttr, impl_SelAttr, h1, h2]
  simp only [some_bnd, hroom]
  cases hr : r.2 with
  | false => exact ⟨_, rfl, rfl, he⟩
  | true =>
    simp only [if_true]
    by_cases h8 : r.1.Steps.length = 8
    · have hl := long_SelOk (GSel.mk r.1.Id (r.1.Steps ++ [GStp.mk false 6 a.Pre a.Local []])) (by omega) (by simp; omega)
      rw [hl, eqI_t (by simp only [lenL]; omega)]
      exact ⟨_, rfl, rfl, he⟩
    · rw [eqI_f (by simp only [lenL]; omega)]
      simp only [Bool.false_eq_true, if_false, b1, b2, some_bnd]
      cases b
      · exact ⟨_, rfl, rfl, he⟩
      · exact ⟨_, rfl, rfl, hz'⟩
end TT
