import Derived.Test.YtdpdfjkjlkmjaaaTP3Merge
import Derived.Test.YtdpdfjkjlkmjaaaTP3Same
set_option linter.unusedVariables false
set_option linter.unusedSimpArgs false
namespace TT
open Go
theorem nodeAt_len' : ∀ (p : List Int) {n x : GNode}, nodeAt n p = some x → p.length ≤ n.sz
 | [], n, x, h => Nat.zero_le _
 | i :: p, n, x, h => by
  obtain ⟨k, h1, h2⟩ := Option.bind_eq_some_iff.1 h
  have ih := nodeAt_len' p h2
  have hm := getI_mem h1
  have h3 := szs_mem GNode.sz hm
  have h4 : 1 ≤ n.Kids.length := List.length_pos_of_mem hm
  rw [GNode.sz_eq n, List.length_cons]
  omega
theorem drop_cons {α : Type} {l : List α} {k : Nat} {x : α} (h : l[k]? = some x) : l.drop k = x :: l.drop (k + 1) := by
 obtain ⟨h1, h2⟩ := List.getElem?_eq_some_iff.1 h
 rw [List.drop_eq_getElem_cons h1, h2]
theorem places_loop (t : GNode) (ht : t.sz ≤ 100000) : ∀ (m k : Nat), (plP t []).length ≤ k + m → k ≤ (plP t []).length → ∀ c : Nat, c + cw ((preP t).drop k) = cw (preP t) → laws_FnPlaces_l38 (plP t []) (c : Nat) (k : Nat) t = some true := by
 have hlen := plP_len t []
 have hpre := preP_len t
 have hcw := cw_le t
 have fin : ∀ c : Nat, c = cw (preP t) → laws_FnPlaces_l38 (plP t []) (c : Nat) ((plP t []).length : Nat) t = some true := by
  intro c hc
  rw [laws_FnPlaces_l38, end_k, count_eq t (by omega), ← hc, plP_eq]
  simp only [Bool.false_eq_true, if_false, some_bnd, eqI_self, if_true]
  rfl
 intro m
 induction m with
 | zero =>
  intro k h1 h2 c hc
  rw [show k = (plP t []).length by omega]
  refine fin c ?_
  rw [List.drop_of_length_le (by omega)] at hc
  exact hc
 | succ m ih =>
  intro k h1 h2 c hc
  by_cases e : k = (plP t []).length
  ·rw [e]
   refine fin c ?_
   rw [List.drop_of_length_le (by omega)] at hc
   exact hc
  ·have hk : k < (plP t []).length := by omega
   obtain ⟨q, hq⟩ : ∃ q, (plP t [])[k]? = some q := ⟨_, List.getElem?_eq_getElem hk⟩
   obtain ⟨x, hx⟩ : ∃ x, (preP t)[k]? = some x := ⟨_, List.getElem?_eq_getElem (by omega)⟩
   obtain ⟨p, e1, e2⟩ := plP_at t [] k q x hq hx
   rw [List.nil_append] at e1
   subst e1
   have hpl : q.length ≤ 2000000 := by have := nodeAt_len' q e2; omega
   have hna : impl_NodeAt t q = some (x, true) := by rw [nodeAt_impl t q (by omega) hpl, nodeAtR, e2]
   have hu : impl_Under q [] = some true := by rw [(under_all q [] hpl (by simp)).2]; cases q <;> rfl
   rw [drop_cons hx, cw_cons] at hc
   have hadd : addI (addI (c : Int) 1) (lenL x.Attrs) = ((c + (1 + x.Attrs.length) : Nat) : Int) := by
    rw [show addI (c : Int) 1 = ((c + 1 : Nat) : Int) by rw [addI_eq (by omega) (by omega)]; omega, addI_eq (by simp only [lenL]; omega) (by simp only [lenL]; omega)]
    simp only [lenL]; omega
   have next := ih (k + 1) (by omega) (by omega) (c + (1 + x.Attrs.length)) (by omega)
   rw [laws_FnPlaces_l38, lt_k hq, getI_k hq]
   simp only [if_true, some_bnd, hna, hu, hadd, add_k (show k ≤ 4000000 by omega), next]
   by_cases h0 : k = 0
   ·subst h0; rfl
   ·rw [gtI_t (by omega), show subI (k : Int) 1 = ((k - 1 : Nat) : Int) by rw [subI_eq (by omega) (by omega)]; omega]
    obtain ⟨q', hq'⟩ : ∃ q', (plP t [])[k - 1]? = some q' := ⟨_, List.getElem?_eq_getElem (by omega)⟩
    rw [getI_k hq']
    have hne : q' ≠ q := fun e => by
     subst e
     have hnd := plP_nodup t []
     obtain ⟨a1, a2⟩ := List.getElem?_eq_some_iff.1 hq
     obtain ⟨b1, b2⟩ := List.getElem?_eq_some_iff.1 hq'
     exact (List.pairwise_iff_getElem.1 hnd) (k - 1) k b1 a1 (by omega) (b2.trans a2.symm)
    obtain ⟨x', hx'⟩ : ∃ x', (preP t)[k - 1]? = some x' := ⟨_, List.getElem?_eq_getElem (by omega)⟩
    obtain ⟨p', e1', e2'⟩ := plP_at t [] (k - 1) q' x' hq' hx'
    rw [List.nil_append] at e1'
    subst e1'
    have hpl' : q'.length ≤ 2000000 := by have := nodeAt_len' q' e2'; omega
    simp only [if_true, some_bnd, (same_path q' q hpl').2, decide_eq_false hne, Bool.false_eq_true, if_false]
theorem law_FnPlaces (code : List Int) (hl : code.length ≤ maxLen) (hc : ∀ y ∈ code, 0 ≤ y ∧ y < 256) : laws_FnPlaces code = some true := by
 rw [laws_FnPlaces, laws_big]
 by_cases hb : code.length ≤ 1048576
 case neg => rw [gtI_t (by simp only [lenL]; omega)]; rfl
 rw [gtI_f (by simp only [lenL]; omega)]
 obtain ⟨t, et, ht⟩ := drawTree_tot code hb
 obtain ⟨n, en, hn1, hn2⟩ := drawNodeAt_tot code hb
 obtain ⟨s, es, hs1, hs2⟩ := drawSamePath_tot code hb
 obtain ⟨u, eu, hu1, hu2⟩ := drawUnder_tot code hb
 have a1 := nodeAt_impl n.1 n.2 (by omega) (by omega)
 have a2 := nodeAt_spec n.1 n.2 (by omega) (by omega)
 have a3 : impl_SameNode (nodeAtR n.1 n.2).1 (nodeAtR n.1 n.2).1 = some true := sameNode_self _ (by
  unfold nodeAtR
  split
  ·rename_i x hx; exact Nat.le_trans (nodeAt_sz _ hx) (by omega)
  ·show noNode.sz ≤ _; rw [noNode, GNode.sz_eq]; decide)
 obtain ⟨p1, p2⟩ := same_path s.1 s.2 (by omega)
 obtain ⟨u1, u2⟩ := under_all u.1 u.2 (by omega) (by omega)
 have l1 := places_eq t (by omega)
 have l2 := nodes_eq t (by omega)
 have l3 : neI (lenL (plP t [])) (((preP t).length : Nat) : Int) = false := by rw [neI_eq, eqI_t (by simp only [lenL, plP_len])]; rfl
 have l4 : laws_FnPlaces_l38 (plP t []) 0 0 t = some true := places_loop t (by omega) (plP t []).length 0 (by omega) (by omega) 0 (by simp)
 simp only [some_bnd, if_true, Bool.false_eq_true, if_false, et, en, es, eu, a1, a2, a3, p1, p2, u1, u2, l1, l2, l3, l4, neB_self]
end TT
