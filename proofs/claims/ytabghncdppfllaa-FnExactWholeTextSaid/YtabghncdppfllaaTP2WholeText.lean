import Derived.Test.YtabghncdppfllaaTP00
import Derived.Test.YtabghncdppfllaaTP1
set_option linter.unusedVariables false
set_option linter.unusedSimpArgs false
namespace TT
open Go

/-! ### WholeText -/
theorem catS_eq {x y : ByteArray} (h : x.size + y.size ≤ 9223372036854775807) : catS x y = some (x ++ y) := if_pos h
theorem same_WholeText : ∀ n : GNode, n.ok → n.sz ≤ 1048576 → ∃ r, spec_WholeText n = some r ∧ impl_WholeText n = some r ∧ r.size ≤ n.sz := by
  refine GNode.ind' fun n ih => ?_
  intro hok hs
  obtain ⟨_, _, _, _, _, _, hk, _⟩ := (GNode.ok_iff n).1 hok
  have hs' := hs
  rw [GNode.sz_eq] at hs
  have go : ∀ t : ByteArray, t.size ≤ n.Text.size → ∃ r, spec_WholeText_j4 t n = some r ∧ impl_WholeText_j4 t n = some r ∧ r.size ≤ n.sz := by
    intro t ht
    have h := two_loops (fun k i => spec_WholeText_l14 k i n) (fun k i => impl_WholeText_l14 k n i) n.Kids (fun k x => spec_WholeText x >>= fun r => catS k r) (fun k x => impl_WholeText x >>= fun r => catS k r) some some
      (fun acc i => by rw [spec_WholeText_l14]; simp [Option.bind_assoc]) (fun acc i => by rw [impl_WholeText_l14]; simp [Option.bind_assoc]) hk.1 (fun k rest => k.size + szs GNode.sz rest ≤ n.Text.size + szs GNode.sz n.Kids)
      (fun acc x rest hx hI => by
        obtain ⟨r, h1, h2, h3⟩ := ih x hx (hk.2 x hx) (by have := szs_mem GNode.sz hx; omega)
        rw [szs_cons] at hI
        refine ⟨acc ++ r, by rw [h1]; exact catS_eq (by omega), by rw [h2]; exact catS_eq (by omega), ?_⟩
        rw [ByteArray.size_append]; omega) n.Kids [] t rfl (by omega)
    obtain ⟨r, h1, h2, h3⟩ := h
    refine ⟨r, by rw [spec_WholeText_j4]; exact h1, by rw [impl_WholeText_j4]; exact h2, ?_⟩
    rw [GNode.sz_eq]
    simp only [szs, List.map_nil, List.sum_nil] at h3 ⊢
    omega
  rw [spec_WholeText, impl_WholeText]
  split
  · exact go _ (Nat.le_refl _)
  · exact go _ (Nat.zero_le _)

end TT
