import Derived.Test.YtdpdfjkjlkmjaaaTP3Lcs
set_option linter.unusedVariables false
set_option linter.unusedSimpArgs false
namespace TT
open Go
theorem wt_mem {l : List GNode} {x : GNode} (h : x ∈ l) : x.sz ≤ wt l := by have := szs_mem GNode.sz h; unfold wt; omega
theorem law_FnAligns (code : List Int) (hl : code.length ≤ maxLen) (hc : ∀ y ∈ code, 0 ≤ y ∧ y < 256) : laws_FnAligns code = some true := by
 rw [laws_FnAligns, laws_big]
 by_cases hb : code.length ≤ 1048576
 case neg => rw [gtI_t (by simp only [lenL]; omega)]; rfl
 rw [gtI_f (by simp only [lenL]; omega)]
 obtain ⟨n, en, hn1, hn2⟩ := drawAlign_tot code hb
 obtain ⟨t, et, ht⟩ := drawSameName_tot code hb
 have l1 := wt_len n.1
 have l2 := wt_len n.2
 have m1 : ∀ y ∈ n.1, GNode.sz y ≤ 1048576 := fun y hy => by have := wt_mem hy; omega
 have m2 : ∀ y ∈ n.2, GNode.sz y ≤ 1048576 := fun y hy => by have := wt_mem hy; omega
 obtain ⟨rest, r1, r2, r3⟩ := align_valid n.1 n.2 m1 m2 (by omega) (by omega) ((n.1.length - 0) + (n.2.length - 0)) 0 0 [] (by omega) (by omega) (Nat.le_refl _) rfl
 rw [List.nil_append] at r1 r2
 have v := r3 (-1) (by omega)
 have hlen := valid_len _ _ _ _ _ _ v
 have a1 : impl_Align n.1 n.2 = some rest := by rw [impl_Align, impl_table n.1 n.2 m1 m2 (by omega) (by omega)]; exact r2
 have a2 : spec_Align n.1 n.2 = some rest := by rw [spec_Align, spec_table n.1 n.2 m1 m2 (by omega) (by omega)]; exact r1
 have a3 := sameInts_self rest (by omega)
 have a4 : neI (lenL rest) (lenL n.1) = false := neI_len' (by omega)
 obtain ⟨b, b1, b2⟩ := sameName_two t.1 t.2 ht
 have a5 : laws_FnAligns_l32 n rest 0 (-1) 0 = some true := aligns_loop n.1 n.2 m1 m2 (by omega) (by omega) (by omega) rest (by omega) rest [] (-1) 0 _ rfl v (by simp)
 simp only [some_bnd, Bool.false_eq_true, if_false, en, et, a1, a2, a3, a4, a5, b1, b2, neB_self, if_true]
end TT
