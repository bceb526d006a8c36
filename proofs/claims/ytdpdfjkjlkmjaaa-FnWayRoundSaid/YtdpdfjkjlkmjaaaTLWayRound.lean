import Derived.Test.YtdpdfjkjlkmjaaaTP4Cost
set_option linter.unusedVariables false
set_option linter.unusedSimpArgs false
namespace TT
open Go
theorem drawSmall_tot (code : List Int) (hl : code.length ≤ 1048576) : Tot (spec_DrawSmall code) fun r => (r.1.sz ≤ 100 ∧ nz r.1 ≤ 8) ∧ (r.2.1.sz ≤ 100 ∧ nz r.2.1 ≤ 8) ∧ (r.2.2.sz ≤ 100 ∧ nz r.2.2 ≤ 8) := by
 rw [spec_DrawSmall]
 have one : ∀ (c : Gl1Cur) (x : Int), Cok c → 0 ≤ x → (x < 8 ∨ x = 0) → Tot (spec_l18Small c x) fun r => (r.1.sz ≤ 100 ∧ nz r.1 ≤ 8) ∧ Cok r.2.1 := by
  intro c x hc h0 h1
  obtain ⟨k, k1, k2⟩ := below_nat h0 h1 (by omega)
  rw [k1]
  refine (small_tot k c (by omega) hc).mono fun r hr => ?_
  obtain ⟨m', t1, t2, ⟨t3, t4⟩, t5⟩ := hr
  exact ⟨⟨by omega, by omega⟩, t5⟩
 refine (l1New_tot code hl).bnd fun c hc => (l1Below_tot c hc 8).bnd fun a ha => (one _ _ ha.2.2 ha.1 ha.2.1).bnd fun t ht => ?_
 refine (l1Below_tot _ ht.2 8).bnd fun b hb => (one _ _ hb.2.2 hb.1 hb.2.1).bnd fun u hu => ?_
 refine (l1Below_tot _ hu.2 8).bnd fun d hd => (one _ _ hd.2.2 hd.1 hd.2.1).bnd fun w hw => ?_
 exact Tot.ret ⟨ht.1, hu.1, hw.1⟩
def zed (a : GNode) : GNode := GNode.mk 1 (⟨#[]⟩) (⟨#[122]⟩) (⟨#[]⟩) [] [] [a] (⟨#[]⟩)
theorem zed_sz (a : GNode) : (zed a).sz = 2 + a.sz := by
 rw [GNode.sz_eq]
 show 0 + (1 + (0 + ((0 + 0) + ((0 + 0) + ((1 + (a.sz + 0)) + 0))))) = _
 omega
theorem zed_nz (a : GNode) : nz (zed a) = 1 + nz a := by rw [nz_eq]; show 1 + nzL [a] = _; rw [nzL_one]
theorem law_FnWayRound (code : List Int) (hl : code.length ≤ maxLen) (hc : ∀ y ∈ code, 0 ≤ y ∧ y < 256) : laws_FnWayRound code = some true := by
 rw [laws_FnWayRound, laws_big]
 by_cases hb : code.length ≤ 1048576
 case neg => rw [gtI_t (by simp only [lenL]; omega)]; rfl
 rw [gtI_f (by simp only [lenL]; omega)]
 obtain ⟨⟨a, b, c⟩, en, h1, h2, h3⟩ := drawSmall_tot code hb
 have h1 : a.sz ≤ 100 ∧ nz a ≤ 8 := h1
 have h2 : b.sz ≤ 100 ∧ nz b ≤ 8 := h2
 have h3 : c.sz ≤ 100 ∧ nz c ≤ 8 := h3
 have za := zed_sz a
 have zb := zed_sz b
 have na := zed_nz a
 have nb := zed_nz b
 have g : ∀ x y : GNode, x.sz ≤ 200 → y.sz ≤ 200 → nz x ≤ 12 → nz y ≤ 12 → impl_Gap x y = some ((Ed ge [x] [y] : Nat) : Int) := by
  intro x y e1 e2 e3 e4
  rw [impl_gap (by omega) (by omega), if_neg (by omega), Ed_ge (by omega) (by omega)]
 have g1 := g a b (by omega) (by omega) (by omega) (by omega)
 have g2 := g b c (by omega) (by omega) (by omega) (by omega)
 have g3 := g a c (by omega) (by omega) (by omega) (by omega)
 have g4 := g (zed a) (zed b) (by omega) (by omega) (by omega) (by omega)
 have g5 := g a (zed a) (by omega) (by omega) (by omega) (by omega)
 have g6 : spec_Gap a b = some ((Ed ge [a] [b] : Nat) : Int) := by rw [spec_gap (by omega) (by omega), if_neg (by omega), Ed_ge (by omega) (by omega)]
 have t := Ed_tri ge ge_tri ge_le [a] [b] [c]
 have z : Ed ge [zed a] [zed b] ≤ Ed ge [a] [b] := by
  have e := Ed_mat ge (zed a) (zed b) [] []
  have e1 : rvK (zed a) = [a] := rfl
  have e2 : rvK (zed b) = [b] := rfl
  have e3 : ge (zed a) (zed b) = 0 := if_pos rfl
  rw [e1, e2, e3, Ed_nil] at e
  have e4 : nzL ([] : List GNode) = 0 := rfl
  omega
 have w : Ed ge [a] [zed a] = 1 := by
  have e := Ed_ins ge (zed a) [a] []
  have e1 : rvK (zed a) ++ [] = [a] := rfl
  rw [e1, Ed_self ge ge_self] at e
  have e2 := (Ed_size ge [a] [zed a]).2
  rw [nzL_one, nzL_one] at e2
  omega
 have l1 := Ed_le ge [a] [b]
 have l2 := Ed_le ge [b] [c]
 rw [nzL_one, nzL_one] at l1 l2
 simp only [some_bnd, Bool.false_eq_true, if_false, en, g1, g2, g3, g6]
 rw [ltI_f (by omega), ltI_f (by omega), ltI_f (by omega), neI_self, leI_t (by rw [addI_eq (by omega) (by omega)]; omega)]
 simp only [Bool.false_eq_true, if_false, if_true]
 have g4' : impl_Gap (GNode.mk 1 (⟨#[]⟩) (⟨#[122]⟩) (⟨#[]⟩) [] [] [a] (⟨#[]⟩)) (GNode.mk 1 (⟨#[]⟩) (⟨#[122]⟩) (⟨#[]⟩) [] [] [b] (⟨#[]⟩)) = some ((Ed ge [zed a] [zed b] : Nat) : Int) := g4
 have g5' : impl_Gap a (GNode.mk 1 (⟨#[]⟩) (⟨#[122]⟩) (⟨#[]⟩) [] [] [a] (⟨#[]⟩)) = some ((Ed ge [a] [zed a] : Nat) : Int) := g5
 rw [g4']
 simp only [some_bnd]
 rw [leI_t (by omega), if_pos rfl, g5', w]
 rfl
end TT
