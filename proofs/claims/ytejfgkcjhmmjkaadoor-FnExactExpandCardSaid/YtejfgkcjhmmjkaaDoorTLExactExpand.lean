import Derived.Test.YtejfgkcjhmmjkaaDoorTP2Expand
import Derived.Test.YtejfgkcjhmmjkaaDoorTP1
set_option linter.unusedVariables false
set_option linter.unusedSimpArgs false
namespace TT
open Go
theorem law_FnExactExpand (a : ByteArray) (ha : a.size ≤ maxLen) (b : List GEnt) (lb : b.length ≤ maxLen) (hb : ∀ y ∈ b, GEnt.ok y) : laws_FnExactExpand a b = some true := by
 unfold laws_FnExactExpand
 by_cases ga : (a.size : Int) > 1048576
 ·rw [gtI_t (a := lenS a) (b := 1048576) ga]; rfl
 have ea : gtI (lenS a) 1048576 = false := gtI_f ga
 have s0 := sz_GEntS b lb hb 1048576 (by omega) (by omega)
 by_cases n0 : szr 1048576 (b.length + szs GEnt.sz b) < 0
 ·simp only [ea, Bool.false_eq_true, if_false, s0, some_bnd, ltI_t n0, if_true]
 obtain ⟨a0, b0, c0⟩ := szr_le (show (0 : Int) ≤ 1048576 by omega) n0
 have hm : ∀ y ∈ b, GEnt.sz y ≤ 1048576 := fun y hy => by have := szs_mem GEnt.sz hy; omega
 have tb := to_GEntS b (by omega) hm
 have eb := eq_GEntS b (by omega) (fun y hy => by have := hm y hy; omega)
 obtain ⟨r, hs, hi⟩ := same_Expand a b (by omega) (by omega) (fun y hy => by have := hm y hy; rw [GEnt.sz_eq] at this; omega)
 simp only [ea, Bool.false_eq_true, if_false, s0, some_bnd, ltI_f n0, tb, hs, hi, neS_self, neB_self, eb, if_true]
end TT
