import Derived.Test.YtjnjaaimgdjcgaaGreatDoorTP2Has
import Derived.Test.YtjnjaaimgdjcgaaGreatDoorTP2Copy
set_option linter.unusedVariables false
set_option linter.unusedSimpArgs false
namespace TT
open Go
theorem copyW (w : GWalk) (hs : w.sz ≤ 1048576) : spec_l22Copy w = some w ∧ impl_cloneWalk w = some w := by
 rw [GWalk.sz_eq] at hs
 constructor
 ·rw [spec_l22Copy, copy_spec _ (by omega), room_ok (by omega) (by omega) (by omega)]
  simp only [some_bnd, List.nil_append, eta_GWalk]
 ·rw [impl_cloneWalk, copy_impl _ (by omega), slices_Clone_int, room_ok (by omega) (by omega) (by omega)]
  simp only [some_bnd, eta_GWalk]
end TT
namespace TT
open Go
def plS (n : GNode) (a : List Int) : List (List Int) := (spec_l10Places n a).getD []
theorem concat_two (p : List Int) (i : Int) (h : p.length ≤ 3000000) : slices_Concat_int [p, [i]] = some (p ++ [i]) := by
 unfold slices_Concat_int
 have h1 : ([i] : List Int).length = 1 := rfl
 simp only [h1]
 rw [if_pos ⟨by omega, by omega⟩]
theorem pl_loop (n : GNode) (a : List Int) (hl : n.Kids.length ≤ 1048576) (hb : a.length + n.sz ≤ 2500000)
  (hk : ∀ k ∈ n.Kids, ∀ a : List Int, a.length + k.sz ≤ 2500000 → ∃ rest, spec_l10Places k a = some (a :: rest) ∧ (∀ out : List (List Int), out.length + 1 + k.sz ≤ 3000000 → impl_placesIn k a out = some (out ++ (a :: rest))) ∧ rest.length ≤ k.sz ∧ ∀ q ∈ rest, a.length < q.length ∧ q.length ≤ a.length + k.sz) :
  ∀ (rest pre : List GNode), pre ++ rest = n.Kids → ∃ more : List (List Int), (∀ out : List (List Int), out.length + rest.length + szs GNode.sz rest ≤ 3000000 → spec_l10Places_l8 a out pre.length n = some (out ++ more) ∧ impl_placesIn_l8 a out n pre.length = some (out ++ more)) ∧ more.length ≤ rest.length + szs GNode.sz rest ∧ (∀ q ∈ more, a.length < q.length ∧ q.length ≤ a.length + n.sz) ∧ ∀ (j : Nat) k, rest[j]? = some k → ∀ q ∈ plS k (a ++ [((pre.length + j : Nat) : Int)]), q ∈ more
 | [], pre, hp => ⟨[], fun out ho => ⟨by rw [spec_l10Places_l8, end_at hp]; simp, by rw [impl_placesIn_l8, end_at hp]; simp⟩, by simp [szs], by simp, by simp⟩
 | x :: rest, pre, hp => by
  have hmem : x ∈ n.Kids := by rw [← hp]; simp
  have hxs := szs_mem GNode.sz hmem
  have hz := GNode.sz_eq n
  have h1 : 1 ≤ n.Kids.length := List.length_pos_of_mem hmem
  have hal : (a ++ [(pre.length : Int)]).length = a.length + 1 := by simp
  obtain ⟨r, r1, r2, r3, r4⟩ := hk x hmem (a ++ [(pre.length : Int)]) (by rw [hal]; omega)
  obtain ⟨more, m1, m2, m3, m4⟩ := pl_loop n a hl hb hk rest (pre ++ [x]) (step_at hp)
  rw [hal] at r4
  refine ⟨(a ++ [(pre.length : Int)]) :: r ++ more, fun out ho => ?_, ?_, ?_, ?_⟩
  ·rw [szs_cons] at ho
   simp only [List.length_cons] at ho
   have hol : (out ++ (a ++ [(pre.length : Int)]) :: r).length = out.length + (r.length + 1) := by simp
   obtain ⟨s1, s2⟩ := m1 (out ++ (a ++ [(pre.length : Int)]) :: r) (by rw [hol]; omega)
   constructor
   ·rw [spec_l10Places_l8, more_at hp, getI_at hp, next_at hp (by rw [maxLen_eq]; omega), room_ok (by omega) (by omega) (by omega), room_ok (by omega) (by omega) (by omega)]
    simp only [if_true, some_bnd, List.nil_append, r1, List.length_cons]
    rw [room_ok (by omega) (by omega) (by omega)]
    simp only [some_bnd, s1, List.append_assoc]
   ·rw [impl_placesIn_l8, more_at hp, getI_at hp, next_at hp (by rw [maxLen_eq]; omega), concat_two _ _ (by omega)]
    simp only [if_true, some_bnd, r2 out (by omega), s2, List.append_assoc]
  ·rw [szs_cons]
   simp only [List.length_cons, List.length_append]
   omega
  ·intro q hq
   rcases List.mem_append.1 hq with hq | hq
   ·rcases List.mem_cons.1 hq with hq | hq
    ·rw [hq, hal]; omega
    ·have := r4 q hq; omega
   ·exact m3 q hq
  ·intro j k hj q hq
   cases j with
   | zero =>
    simp only [List.getElem?_cons_zero, Option.some.injEq] at hj
    subst hj
    rw [Nat.add_zero, plS, r1] at hq
    exact List.mem_append.2 (.inl hq)
   | succ j =>
    simp only [List.getElem?_cons_succ] at hj
    refine List.mem_append.2 (.inr (m4 j k hj q ?_))
    rw [show (pre ++ [x]).length + j = pre.length + (j + 1) by simp; omega]
    exact hq
theorem pl_all : ∀ n : GNode, n.sz ≤ 1048576 → ∀ a : List Int, a.length + n.sz ≤ 2500000 → ∃ rest : List (List Int), spec_l10Places n a = some (a :: rest) ∧ (∀ out : List (List Int), out.length + 1 + n.sz ≤ 3000000 → impl_placesIn n a out = some (out ++ (a :: rest))) ∧ rest.length ≤ n.sz ∧ (∀ q ∈ rest, a.length < q.length ∧ q.length ≤ a.length + n.sz) ∧ ∀ (j : Nat) k, n.Kids[j]? = some k → ∀ q ∈ plS k (a ++ [(j : Int)]), q ∈ rest := by
 refine GNode.ind' fun n ih hs a hb => ?_
 have hz := GNode.sz_eq n
 have hl : n.Kids.length ≤ 1048576 := by omega
 obtain ⟨more, m1, m2, m3, m4⟩ := pl_loop n a hl hb (fun k hk a ha => by
  obtain ⟨r, r1, r2, r3, r4, _⟩ := ih k hk (by have := szs_mem GNode.sz hk; omega) a ha
  exact ⟨r, r1, r2, r3, r4⟩) n.Kids [] rfl
 refine ⟨more, ?_, fun out ho => ?_, by omega, m3, fun j k hj q hq => m4 j k hj q (by simpa using hq)⟩
 ·have := (m1 [a] (by simp only [List.length_cons, List.length_nil]; omega)).1
  rw [spec_l10Places, room_ok (by omega) (by omega) (by omega)]
  simp only [some_bnd, List.nil_append]
  exact this
 ·have := (m1 (out ++ [a]) (by simp only [List.length_append, List.length_cons, List.length_nil]; omega)).2
  rw [impl_placesIn, slices_Clone_int, room_ok (by omega) (by omega) (by omega)]
  simp only [some_bnd]
  rw [room_ok (by omega) (by omega) (by omega)]
  simp only [some_bnd]
  have e : ((([] : List GNode).length : Nat) : Int) = 0 := rfl
  rw [e] at this
  rw [this]
  simp
theorem pl_mem : ∀ (p : List Int) (n x : GNode) (a : List Int), n.sz ≤ 1048576 → a.length + n.sz ≤ 2500000 → nodeAt n p = some x → a ++ p ∈ plS n a
 | [], n, x, a, hs, hb, h => by
  obtain ⟨r, r1, _⟩ := pl_all n hs a hb
  rw [plS, r1]; simp
 | i :: p, n, x, a, hs, hb, h => by
  obtain ⟨k, h1, h2⟩ := Option.bind_eq_some_iff.1 h
  obtain ⟨r, r1, _, _, _, r5⟩ := pl_all n hs a hb
  have hk := getI_mem h1
  have hxs := szs_mem GNode.sz hk
  have hz := GNode.sz_eq n
  have h3 : 1 ≤ n.Kids.length := List.length_pos_of_mem hk
  have hi : 0 ≤ i ∧ n.Kids[i.toNat]? = some k := by
   unfold getI at h1
   split at h1
   ·rename_i h0; exact ⟨h0, h1⟩
   ·cases h1
  have ih := pl_mem p k x (a ++ [i]) (by omega) (by simp only [List.length_append, List.length_cons, List.length_nil]; omega) h2
  have e : ((i.toNat : Nat) : Int) = i := by omega
  have := r5 i.toNat k hi.2 ((a ++ [i]) ++ p) (by rw [e]; exact ih)
  rw [plS, r1]
  simp only [List.append_assoc, List.singleton_append] at this
  exact List.mem_cons_of_mem _ this
theorem places_all (n : GNode) (hs : n.sz ≤ 1048576) : ∃ rest : List (List Int), spec_Places n = some ([] :: rest) ∧ impl_Places n = some ([] :: rest) ∧ rest.length ≤ n.sz ∧ (∀ q ∈ rest, 0 < q.length ∧ q.length ≤ n.sz) ∧ ∀ p x, nodeAt n p = some x → p ∈ ([] : List Int) :: rest := by
 obtain ⟨r, r1, r2, r3, r4, _⟩ := pl_all n hs [] (by simp only [List.length_nil]; omega)
 refine ⟨r, by rw [spec_Places, r1]; rfl, by rw [impl_Places, r2 [] (by simp only [List.length_nil]; omega)]; rfl, r3, fun q hq => by have := r4 q hq; simp only [List.length_nil] at this; omega, fun p x h => ?_⟩
 have := pl_mem p n x [] hs (by simp only [List.length_nil]; omega) h
 rw [plS, r1] at this
 exact this
end TT
set_option linter.unusedSectionVars false
namespace TT
open Go
theorem to_eq (w : GWalk) (path : List Int) (hs : w.sz ≤ 1048576) (hp : path.length ≤ 1200000) : spec_l22To w path = some (if (nodeAtR w.Tre path).2 && walkB w then (⟨w.Tre, path⟩, true) else (w, false)) ∧ impl_to w path = some (if (nodeAtR w.Tre path).2 && walkB w then (⟨w.Tre, path⟩, true) else (w, false)) := by
 obtain ⟨c1, c2⟩ := copyW w hs
 obtain ⟨w1, w2⟩ := walk_b w hs
 have hz : w.Tre.sz ≤ 1048576 := by rw [GWalk.sz_eq] at hs; omega
 rw [spec_l22To, impl_to, c1, c2, nodeAt_spec _ _ hz (by omega), nodeAt_impl _ _ hz (by omega), w1, w2, slices_Clone_int, room_ok (by omega) (by omega) (by omega), room_ok (by omega) (by omega) (by omega)]
 simp only [some_bnd, List.nil_append]
 cases hn : (nodeAtR w.Tre path).2 <;> cases walkB w <;> exact ⟨rfl, rfl⟩
theorem under_spec (a b : List Int) (ha : a.length ≤ 2000000) (hl : a.length = b.length) : ∀ (rb pb ra pa : List Int), pb ++ rb = b → pa ++ ra = a → pa.length = pb.length → spec_Under_l6 a b pb.length = some (decide (ra = rb))
 | [], pb, ra, pa, hb, hpa, he => by
  have : ra = [] := by
   have h1 := congrArg List.length hb; have h2 := congrArg List.length hpa
   simp only [List.length_append, List.length_nil] at h1 h2
   exact List.eq_nil_of_length_eq_zero (by omega)
  rw [spec_Under_l6, end_at hb, this]; rfl
 | y :: rb, pb, [], pa, hb, hpa, he => by
  have h1 := congrArg List.length hb; have h2 := congrArg List.length hpa
  simp only [List.length_append, List.length_nil, List.length_cons] at h1 h2
  omega
 | y :: rb, pb, x :: ra, pa, hb, hpa, he => by
  have ih := under_spec a b ha hl rb (pb ++ [y]) ra (pa ++ [x]) (step_at hb) (step_at hpa) (by simp [he])
  have h2 := congrArg List.length hpa
  simp only [List.length_append, List.length_cons] at h2
  have hg := getI_at hpa
  rw [he] at hg
  rw [spec_Under_l6, more_at hb, geI_f (by simp only [lenL]; omega), hg, getI_at hb, next_at hb (by rw [maxLen_eq]; omega), ih]
  simp only [if_true, Bool.false_eq_true, if_false, some_bnd]
  by_cases h : x = y
  ·subst h
   rw [neI_self]
   simp
  ·have : neI x y = true := by rw [neI_eq, eqI_f h]; rfl
   rw [this]
   simp [h]
theorem equal_impl (a b : List Int) (ha : a.length ≤ 2000000) (hl : a.length = b.length) : ∀ (ra pa rb pb : List Int), pa ++ ra = a → pb ++ rb = b → pa.length = pb.length → slices_Equal_int_l14 a b pa.length = some (decide (ra = rb))
 | [], pa, rb, pb, hpa, hb, he => by
  have : rb = [] := by
   have h1 := congrArg List.length hb; have h2 := congrArg List.length hpa
   simp only [List.length_append, List.length_nil] at h1 h2
   exact List.eq_nil_of_length_eq_zero (by omega)
  rw [slices_Equal_int_l14, end_at hpa, this]; rfl
 | x :: ra, pa, [], pb, hpa, hb, he => by
  have h1 := congrArg List.length hb; have h2 := congrArg List.length hpa
  simp only [List.length_append, List.length_nil, List.length_cons] at h1 h2
  omega
 | x :: ra, pa, y :: rb, pb, hpa, hb, he => by
  have ih := equal_impl a b ha hl ra (pa ++ [x]) rb (pb ++ [y]) (step_at hpa) (step_at hb) (by simp [he])
  have hg := getI_at hb
  rw [← he] at hg
  rw [slices_Equal_int_l14, more_at hpa, getI_at hpa, hg, next_at hpa (by rw [maxLen_eq]; omega), ih]
  simp only [if_true, some_bnd]
  by_cases h : x = y
  ·subst h
   rw [neI_self]
   simp
  ·have : neI x y = true := by rw [neI_eq, eqI_f h]; rfl
   rw [this]
   simp [h]
theorem same_path (a b : List Int) (ha : a.length ≤ 2000000) : spec_SamePath a b = some (decide (a = b)) ∧ impl_SamePath a b = some (decide (a = b)) := by
 by_cases hl : a.length = b.length
 ·have h1 := under_spec a b ha hl b [] a [] rfl rfl rfl
  have h2 := equal_impl a b ha hl a [] b [] rfl rfl rfl
  have h1' : spec_Under_l6 a b 0 = _ := h1
  have h2' : slices_Equal_int_l14 a b 0 = _ := h2
  have e : eqI (lenL a) (lenL b) = true := eqI_t (by simp only [lenL, hl])
  rw [spec_SamePath, impl_SamePath, slices_Equal_int, spec_Under, h1', h2', neI_eq, e]
  exact ⟨rfl, rfl⟩
 ·have e : eqI (lenL a) (lenL b) = false := eqI_f (by simp only [lenL]; omega)
  have hd : decide (a = b) = false := decide_eq_false fun h => hl (by rw [h])
  rw [spec_SamePath, impl_SamePath, slices_Equal_int, neI_eq, e, hd]
  exact ⟨rfl, rfl⟩
section
variable (w : GWalk) (d : Int) (L : List (List Int)) (hs : w.sz ≤ 1048576) (hL : L.length ≤ 2000000) (hq : ∀ q ∈ L, q.length ≤ 1200000)
include hs hL hq
theorem skip_spec : ∀ (mid tail pre : List (List Int)), pre ++ (mid ++ tail) = L → (∀ q ∈ mid, q ≠ w.Path) → spec_l22Along_l8 d L pre.length w = spec_l22Along_l8 d L (pre ++ mid).length w
 | [], tail, pre, hp, hm => by simp
 | q :: mid, tail, pre, hp, hm => by
  have hp' : pre ++ q :: (mid ++ tail) = L := hp
  have ih := skip_spec mid tail (pre ++ [q]) (by rw [← hp]; simp) (fun x hx => hm x (List.mem_cons_of_mem _ hx))
  have hmem : q ∈ L := by rw [← hp]; simp
  have hne : decide (q = w.Path) = false := decide_eq_false (hm q (List.mem_cons_self ..))
  rw [spec_l22Along_l8, more_at hp', getI_at hp']
  simp only [if_true, some_bnd, (same_path q w.Path (by have := hq q hmem; omega)).1, hne, Bool.false_eq_true, if_false, spec_l22Along_j17]
  rw [next_at hp' (by rw [maxLen_eq]; omega), ih]
  simp
theorem none_spec (mid pre : List (List Int)) (hp : pre ++ mid = L) (hm : ∀ q ∈ mid, q ≠ w.Path) : spec_l22Along_l8 d L pre.length w = some (w, false) := by
 rw [skip_spec w d L hs hL hq mid [] pre (by simpa using hp) hm, spec_l22Along_l8, end_at (by simpa using hp), (copyW w hs).1]
 rfl
theorem skip_impl : ∀ (mid tail pre : List (List Int)), pre ++ (mid ++ tail) = L → (∀ q ∈ mid, q ≠ w.Path) → slices_IndexFunc_Sint_along_1_l6 L pre.length w = slices_IndexFunc_Sint_along_1_l6 L (pre ++ mid).length w
 | [], tail, pre, hp, hm => by simp
 | q :: mid, tail, pre, hp, hm => by
  have hp' : pre ++ q :: (mid ++ tail) = L := hp
  have ih := skip_impl mid tail (pre ++ [q]) (by rw [← hp]; simp) (fun x hx => hm x (List.mem_cons_of_mem _ hx))
  have hmem : q ∈ L := by rw [← hp]; simp
  have hne : decide (q = w.Path) = false := decide_eq_false (hm q (List.mem_cons_self ..))
  rw [slices_IndexFunc_Sint_along_1_l6, more_at hp', getI_at hp']
  simp only [if_true, some_bnd, impl_along_1, (same_path q w.Path (by have := hq q hmem; omega)).2, hne, Bool.false_eq_true, if_false]
  rw [next_at hp' (by rw [maxLen_eq]; omega), ih]
  simp
theorem off_spec (hw : walkB w = false) : ∀ (rest pre : List (List Int)), pre ++ rest = L → spec_l22Along_l8 d L pre.length w = some (w, false)
 | [], pre, hp => none_spec w d L hs hL hq [] pre hp (by simp)
 | q :: rest, pre, hp => by
  have ih := off_spec hw rest (pre ++ [q]) (step_at hp)
  have hmem : q ∈ L := by rw [← hp]; simp
  rw [spec_l22Along_l8, more_at hp, getI_at hp]
  simp only [if_true, some_bnd, (same_path q w.Path (by have := hq q hmem; omega)).1, l1In_eq, spec_l22Along_j17]
  rw [next_at hp (by rw [maxLen_eq]; omega), ih]
  by_cases h1 : decide (q = w.Path) = true
  ·rw [h1]
   by_cases h2 : decide (0 ≤ addI (pre.length : Int) d ∧ addI (pre.length : Int) d ≤ subI (lenL L) 1) = true
   ·rw [h2]
    simp only [if_true]
    have h3 := of_decide_eq_true h2
    have e1 : subI (lenL L) 1 = (L.length : Int) - 1 := subI_eq (by simp only [lenL]; omega) (by simp only [lenL]; omega)
    rw [e1] at h3
    have hg : getI L (addI (pre.length : Int) d) = some (L[(addI (pre.length : Int) d).toNat]'(by omega)) := by
     unfold getI
     rw [if_pos h3.1]
     exact List.getElem?_eq_getElem _
    rw [hg]
    simp only [some_bnd]
    rw [(to_eq w _ hs (hq _ (List.getElem_mem _))).1, hw]
    simp
   ·have h2' : decide (0 ≤ addI (pre.length : Int) d ∧ addI (pre.length : Int) d ≤ subI (lenL L) 1) = false := by simpa using h2
    rw [h2']
    simp only [if_true, Bool.false_eq_true, if_false]
  ·have h1' : decide (q = w.Path) = false := by simpa using h1
   rw [h1']
   simp only [Bool.false_eq_true, if_false]
end
theorem along_all (w : GWalk) (d : Int) (hd : d = 1 ∨ d = -1) (hs : w.sz ≤ 1048576) : ∃ r, spec_l22Along w d = some r ∧ impl_along w d = some r ∧ r.1.Tre.sz ≤ 1048576 ∧ r.1.Path.length ≤ 1048576 := by
 have hz := hs
 rw [GWalk.sz_eq] at hz
 obtain ⟨R, p1, p2, p3, p4, p5⟩ := places_all w.Tre (by omega)
 generalize hLL : ([] : List Int) :: R = L at p1 p2 p5
 have hL : L.length ≤ 2000000 := by rw [← hLL, List.length_cons]; omega
 have hq : ∀ q ∈ L, q.length ≤ 1048576 := fun q hm => by
  rw [← hLL] at hm
  rcases List.mem_cons.1 hm with h | h
  ·rw [h]; simp
  ·have := p4 q h; omega
 have hq' : ∀ q ∈ L, q.length ≤ 1200000 := fun q hm => by have := hq q hm; omega
 have e1 : subI (lenL L) 1 = (L.length : Int) - 1 := subI_eq (by simp only [lenL]; omega) (by simp only [lenL]; omega)
 rw [spec_l22Along, impl_along, p1, p2, (walk_b w hs).2, (copyW w hs).2]
 simp only [some_bnd]
 cases hw : walkB w with
 | false =>
  have := off_spec w d L hs hL hq' hw L [] rfl
  exact ⟨(w, false), this, rfl, by show w.Tre.sz ≤ _; omega, by show w.Path.length ≤ _; omega⟩
 | true =>
  have hx : ∃ x, nodeAt w.Tre w.Path = some x := by
   rw [walkB] at hw
   have h1 : (nodeAtR w.Tre w.Path).2 = true := by
    cases h : (nodeAtR w.Tre w.Path).2 with
    | true => rfl
    | false => rw [h] at hw; cases hw
   rw [nodeAtR] at h1
   split at h1
   ·rename_i x hx; exact ⟨x, hx⟩
   ·cases h1
  obtain ⟨x, hx⟩ := hx
  obtain ⟨A, B, hAB, hA⟩ := List.eq_append_cons_of_mem (p5 _ _ hx)
  have hAB' : A ++ w.Path :: B = L := hAB.symm
  have hAm : ∀ q ∈ A, q ≠ w.Path := fun q hm he => hA (he ▸ hm)
  have hlen : L.length = A.length + (B.length + 1) := by rw [hAB]; simp
  have hpl : w.Path.length ≤ 2000000 := by omega
  have s1 := skip_spec w d L hs hL hq' A (w.Path :: B) [] (by simpa using hAB') hAm
  have i1 := skip_impl w L hs hL hq' A (w.Path :: B) [] (by simpa using hAB') hAm
  simp only [List.nil_append] at s1 i1
  have s1' : spec_l22Along_l8 d L 0 w = _ := s1
  have i1' : slices_IndexFunc_Sint_along_1_l6 L 0 w = _ := i1
  have i2 : slices_IndexFunc_Sint_along_1_l6 L A.length w = some ((A.length : Int), w) := by
   rw [slices_IndexFunc_Sint_along_1_l6, more_at hAB', getI_at hAB']
   simp only [if_true, some_bnd, impl_along_1, (same_path w.Path w.Path hpl).2]
   simp
  rw [s1', spec_l22Along_l8, more_at hAB', getI_at hAB', slices_IndexFunc_Sint_along_1, i1', i2]
  simp only [if_true, some_bnd, (same_path w.Path w.Path hpl).1, decide_true, l1In_eq, in_eq, spec_l22Along_j17]
  have ed : addI (A.length : Int) d = (A.length : Int) + d := by rcases hd with h | h <;> subst h <;> exact addI_eq (by omega) (by omega)
  rw [ed, e1]
  by_cases hin : 0 ≤ (A.length : Int) + d ∧ (A.length : Int) + d ≤ (L.length : Int) - 1
  ·rw [decide_eq_true hin]
   simp only [if_true]
   have hg : getI L ((A.length : Int) + d) = some (L[((A.length : Int) + d).toNat]'(by omega)) := by
    unfold getI
    rw [if_pos hin.1]
    exact List.getElem?_eq_getElem _
   rw [hg]
   simp only [some_bnd]
   have hm := List.getElem_mem (l := L) (n := ((A.length : Int) + d).toNat) (by omega)
   obtain ⟨t1, t2⟩ := to_eq w _ hs (hq' _ hm)
   rw [t1, t2]
   refine ⟨_, rfl, rfl, ?_⟩
   have hl := hq _ hm
   split
   ·exact ⟨by show w.Tre.sz ≤ _; omega, hl⟩
   ·exact ⟨by show w.Tre.sz ≤ _; omega, by show w.Path.length ≤ _; omega⟩
  ·rw [decide_eq_false hin]
   simp only [Bool.false_eq_true, if_false]
   rw [next_at hAB' (by rw [maxLen_eq]; omega)]
   have hB : ∀ q ∈ B, q ≠ w.Path := by
    rcases hd with h | h
    ·subst h
     have : B = [] := List.eq_nil_of_length_eq_zero (by omega)
     rw [this]; simp
    ·subst h
     have hA0 : A = [] := List.eq_nil_of_length_eq_zero (by omega)
     rw [hA0, ← hLL] at hAB
     simp only [List.nil_append, List.cons.injEq] at hAB
     intro q hm he
     rw [← hAB.2] at hm
     have := (p4 q hm).1
     rw [he, ← hAB.1] at this
     simp at this
   rw [none_spec w d L hs hL hq' B (A ++ [w.Path]) (by simpa using hAB') hB]
   exact ⟨_, rfl, by rw [(copyW w hs).2]; rfl, by show w.Tre.sz ≤ _; omega, by show w.Path.length ≤ _; omega⟩
theorem eqW (a : GWalk) (h1 : a.Tre.sz ≤ 1200000) (h2 : a.Path.length ≤ 1200000) : laws_eqWalk a a = some true := by
 have L0 := eq_GNode a.Tre h1
 have L1 := eq_IntS a.Path h2
 simp [laws_eqWalk, L0, L1, neS_self, neI_self, neB_self]
end TT
namespace TT
open Go
theorem same_Next (w : GWalk) (hs : w.sz ≤ 1048576) : ∃ r, spec_Next w = some r ∧ impl_Next w = some r ∧ r.1.Tre.sz ≤ 1048576 ∧ r.1.Path.length ≤ 1048576 := by
 obtain ⟨r, h1, h2, h3⟩ := along_all w 1 (.inl rfl) hs
 exact ⟨r, by rw [spec_Next, h1]; rfl, by rw [impl_Next, h2]; rfl, h3⟩
end TT
