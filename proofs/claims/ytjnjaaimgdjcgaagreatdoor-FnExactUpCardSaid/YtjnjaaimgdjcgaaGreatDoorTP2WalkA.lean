import Derived.Test.YtjnjaaimgdjcgaaGreatDoorTP2Has
set_option linter.unusedVariables false
set_option linter.unusedSimpArgs false
namespace TT
open Go
theorem nodeAt_len : ∀ (p : List Int) {n x : GNode}, nodeAt n p = some x → p.length ≤ n.sz
  | [], n, x, h => Nat.zero_le _
  | i :: p, n, x, h => by
    obtain ⟨k, h1, h2⟩ := Option.bind_eq_some_iff.1 h
    have ih := nodeAt_len p h2
    have hm := getI_mem h1
    have h3 := szs_mem GNode.sz hm
    have h4 : 1 ≤ n.Kids.length := List.length_pos_of_mem hm
    rw [GNode.sz_eq n, List.length_cons]
    omega
theorem copyW (w : GWalk) (hs : w.sz ≤ 1048576) : spec_l22Copy w = some w ∧ impl_cloneWalk w = some w := by
  rw [GWalk.sz_eq] at hs
  constructor
  · rw [spec_l22Copy, copy_spec _ (by omega), room_ok (by omega) (by omega) (by omega)]
    simp only [some_bnd, List.nil_append, eta_GWalk]
  · rw [impl_cloneWalk, copy_impl _ (by omega), slices_Clone_int, room_ok (by omega) (by omega) (by omega)]
    simp only [some_bnd, eta_GWalk]
theorem to_all (w : GWalk) (path : List Int) (hs : w.sz ≤ 1048576) (hp : path.length ≤ 1200000) : ∃ r, spec_l22To w path = some r ∧ impl_to w path = some r ∧ (r.1 = w ∨ (r.1 = ⟨w.Tre, path⟩ ∧ path.length ≤ w.Tre.sz)) := by
  obtain ⟨c1, c2⟩ := copyW w hs
  obtain ⟨w1, w2⟩ := walk_b w hs
  have hz : w.Tre.sz ≤ 1048576 := by rw [GWalk.sz_eq] at hs; omega
  rw [spec_l22To, impl_to, c1, c2, nodeAt_spec _ _ hz (by omega), nodeAt_impl _ _ hz (by omega), w1, w2, slices_Clone_int, room_ok (by omega) (by omega) (by omega), room_ok (by omega) (by omega) (by omega)]
  simp only [some_bnd, List.nil_append]
  cases hn : (nodeAtR w.Tre path).2 <;> cases walkB w
  · exact ⟨_, rfl, rfl, .inl rfl⟩
  · exact ⟨_, rfl, rfl, .inl rfl⟩
  · exact ⟨_, rfl, rfl, .inl rfl⟩
  · refine ⟨_, rfl, rfl, .inr ⟨rfl, ?_⟩⟩
    rw [nodeAtR] at hn
    split at hn
    · rename_i x hx; exact nodeAt_len path hx
    · cases hn
theorem slL_take {α : Type} (l : List α) (k : Nat) (h : k ≤ l.length) : slL l 0 (k : Int) = some (l.take k) := by
  unfold slL
  rw [if_pos ⟨by omega, by omega, by omega⟩]
  simp
end TT
set_option linter.unusedVariables false
set_option linter.unusedSimpArgs false
namespace TT
open Go
theorem same_Up (w : GWalk) (hs : w.sz ≤ 1048576) : ∃ r, spec_Up w = some r ∧ impl_Up w = some r ∧ r.1.Tre.sz ≤ 1048576 ∧ r.1.Path.length ≤ 1048576 ∧ r.1.sz ≤ 1048577 := by
  obtain ⟨c1, c2⟩ := copyW w hs
  have hz := hs
  rw [GWalk.sz_eq] at hz
  have e1 : subI (lenL w.Path) 1 = (w.Path.length : Int) - 1 := subI_eq (by simp only [lenL]; omega) (by simp only [lenL]; omega)
  rw [spec_Up, impl_Up, c1, c2, e1]
  by_cases h0 : w.Path.length = 0
  · rw [eqI_t (by simp only [lenL]; omega)]
    exact ⟨_, rfl, rfl, by show w.Tre.sz ≤ _; omega, by show w.Path.length ≤ _; omega, by show w.sz ≤ _; omega⟩
  · have e2 : (w.Path.length : Int) - 1 = ((w.Path.length - 1 : Nat) : Int) := by omega
    rw [eqI_f (by simp only [lenL]; omega), e2, slL_take _ _ (by omega)]
    simp only [Bool.false_eq_true, if_false, some_bnd]
    have ht : (w.Path.take (w.Path.length - 1)).length = w.Path.length - 1 := by simp
    obtain ⟨r, t1, t2, t3⟩ := to_all w (w.Path.take (w.Path.length - 1)) hs (by omega)
    rw [t1, t2]
    refine ⟨r, rfl, rfl, ?_⟩
    rcases t3 with h | ⟨h, h'⟩
    · rw [h]; exact ⟨by omega, by omega, by omega⟩
    · rw [h, GWalk.sz_eq]
      simp only [ht] at h' ⊢
      exact ⟨by omega, by omega, by omega⟩
end TT
