import Derived.Test.YtjnjaaimgdjcgaaGreatDoorTP2Has
set_option linter.unusedVariables false
set_option linter.unusedSimpArgs false
namespace TT
open Go
theorem nodeAt_len : ∀ (p : List Int) {n x : GNode}, nodeAt n p = some x → p.length ≤ n.sz
 | [], n, x, h => Nat.zero_le _
 | i :: p, n, x, h => by
  obtain ⟨k, h1, h2⟩ := Option.bind_eq_some_iff.1 h
  have ih := nodeAt_len p h2
  have hm := getI_mem h1
  have h3 := szs_mem GNode.sz hm
  have h4 : 1 ≤ n.Kids.length := List.length_pos_of_mem hm
  rw [GNode.sz_eq n, List.length_cons]
  omega
theorem copyW (w : GWalk) (hs : w.sz ≤ 1048576) : spec_l22Copy w = some w ∧ impl_cloneWalk w = some w := by
 rw [GWalk.sz_eq] at hs
 constructor
 ·rw [spec_l22Copy, copy_spec _ (by omega), room_ok (by omega) (by omega) (by omega)]
  simp only [some_bnd, List.nil_append, eta_GWalk]
 ·rw [impl_cloneWalk, copy_impl _ (by omega), slices_Clone_int, room_ok (by omega) (by omega) (by omega)]
  simp only [some_bnd, eta_GWalk]
theorem to_all (w : GWalk) (path : List Int) (hs : w.sz ≤ 1048576) (hp : path.length ≤ 1200000) : ∃ r, spec_l22To w path = some r ∧ impl_to w path = some r ∧ (r.1 = w ∨ (r.1 = ⟨w.Tre, path⟩ ∧ path.length ≤ w.Tre.sz)) := by
 obtain ⟨c1, c2⟩ := copyW w hs
 obtain ⟨w1, w2⟩ := walk_b w hs
 have hz : w.Tre.sz ≤ 1048576 := by rw [GWalk.sz_eq] at hs; omega
 rw [spec_l22To, impl_to, c1, c2, nodeAt_spec _ _ hz (by omega), nodeAt_impl _ _ hz (by omega), w1, w2, slices_Clone_int, room_ok (by omega) (by omega) (by omega), room_ok (by omega) (by omega) (by omega)]
 simp only [some_bnd, List.nil_append]
 cases hn : (nodeAtR w.Tre path).2 <;> cases walkB w
 ·exact ⟨_, rfl, rfl, .inl rfl⟩
 ·exact ⟨_, rfl, rfl, .inl rfl⟩
 ·exact ⟨_, rfl, rfl, .inl rfl⟩
 ·refine ⟨_, rfl, rfl, .inr ⟨rfl, ?_⟩⟩
  rw [nodeAtR] at hn
  split at hn
  ·rename_i x hx; exact nodeAt_len path hx
  ·cases hn
end TT
namespace TT
open Go
theorem join_two (path : List Int) (i : Int) (h : path.length ≤ 1200000) : spec_l20Join path i = some (path ++ [i]) ∧ impl_joined path i = some (path ++ [i]) := by
 constructor
 ·rw [spec_l20Join, room_ok (by omega) (by omega) (by omega), room_ok (by omega) (by omega) (by omega)]
  simp
 ·have e : slices_Concat_int [path, [i]] = some (path ++ [i]) := by
   unfold slices_Concat_int
   have h1 : ([i] : List Int).length = 1 := rfl
   simp only [h1]
   rw [if_pos ⟨by omega, by omega⟩]
  rw [impl_joined, e]; rfl
end TT
namespace TT
open Go
theorem same_Down (w : GWalk) (i : Int) (hs : w.sz ≤ 1048576) : ∃ r, spec_Down w i = some r ∧ impl_Down w i = some r ∧ r.1.Tre.sz ≤ 1048576 ∧ r.1.Path.length ≤ 1048576 ∧ r.1.sz ≤ 1048577 := by
 have hz := hs
 rw [GWalk.sz_eq] at hz
 obtain ⟨j1, j2⟩ := join_two w.Path i (by omega)
 obtain ⟨r, t1, t2, t3⟩ := to_all w (w.Path ++ [i]) hs (by rw [List.length_append, List.length_singleton]; omega)
 rw [spec_Down, impl_Down, j1, j2]
 simp only [some_bnd]
 rw [t1, t2]
 refine ⟨r, rfl, rfl, ?_⟩
 rcases t3 with h | ⟨h, h'⟩
 ·rw [h]; exact ⟨by omega, by omega, by omega⟩
 ·rw [h, GWalk.sz_eq]
  simp only [List.length_append, List.length_singleton] at h' ⊢
  exact ⟨by omega, by omega, by omega⟩
end TT
