import Derived.Test.YtabghncdppfllaaTP2Table
set_option linter.unusedVariables false
set_option linter.unusedSimpArgs false
namespace TT
open Go

theorem room_eq {n byt : Nat} (h : n ≤ 2000000) (hb : 0 < byt) (hb2 : byt ≤ 100) : room n byt = some () := by
  exact if_pos ⟨Nat.le_trans (Nat.mul_le_mul h hb2) (by decide), hb⟩

/-! ### The tables -/
theorem spec_zero_row (a b : List GNode) (hb : b.length ≤ 1048576) (t : List (List Int)) (ht : t.length ≤ 1048577) (i : Int) :
    ∀ d j : Nat, j + d = b.length + 1 → spec_l17Table_l23 a b t i (List.replicate j 0) j = spec_l17Table_l8 a b (t ++ [List.replicate (b.length + 1) 0]) (addI i 1) := by
  intro d
  induction d with
  | zero =>
    intro j h
    have e : j = b.length + 1 := by omega
    rw [spec_l17Table_l23, leI_f (by simp only [lenL]; omega), if_neg (by simp), room_eq (by omega) (by omega) (by omega), e]; rfl
  | succ d ih =>
    intro j h
    rw [spec_l17Table_l23, leI_t (by simp only [lenL]; omega), room_eq (by simp; omega) (by omega) (by omega), addI_eq (by omega) (by omega)]
    have e : List.replicate j (0 : Int) ++ [0] = List.replicate (j + 1) 0 := by rw [List.replicate_succ']
    have := ih (j + 1) (by omega)
    rw [← e] at this
    exact this
theorem spec_zero (a b : List GNode) (ha : a.length ≤ 1048576) (hb : b.length ≤ 1048576) :
    ∀ d j : Nat, j + d = a.length + 1 → spec_l17Table_l8 a b (List.replicate j (List.replicate (b.length + 1) 0)) j = spec_l17Table_l40 a b (List.replicate (a.length + 1) (List.replicate (b.length + 1) 0)) ((a.length : Int) - 1) := by
  intro d
  induction d with
  | zero =>
    intro j h
    have e : j = a.length + 1 := by omega
    rw [spec_l17Table_l8, leI_f (by simp only [lenL]; omega), subI_eq (by simp only [lenL]; omega) (by simp only [lenL]; omega), e]; rfl
  | succ d ih =>
    intro j h
    rw [spec_l17Table_l8, leI_t (by simp only [lenL]; omega)]
    have h1 := spec_zero_row a b hb (List.replicate j (List.replicate (b.length + 1) 0)) (by simp; omega) (j : Int) (b.length + 1) 0 (by omega)
    have h2 := ih (j + 1) (by omega)
    rw [List.replicate_succ', show ((j + 1 : Nat) : Int) = (j : Int) + 1 by omega] at h2
    show spec_l17Table_l23 a b _ _ [] 0 = _
    refine Eq.trans h1 ?_
    rw [addI_eq (by omega) (by omega)]
    exact h2
theorem spec_table (a b : List GNode) (ha : ∀ y ∈ a, GNode.ok y) (hb : ∀ y ∈ b, GNode.ok y) (la : a.length ≤ 1048576) (lb : b.length ≤ 1048576) : spec_l17Table a b = some (tab (a.length + 1) (b.length + 1) (cel a b)) := by
  rw [spec_l17Table]
  have h1 := spec_zero a b la lb (a.length + 1) 0 (by omega)
  refine Eq.trans h1 ?_
  rw [← tab_zero]
  refine fill_table a.length b.length (cel a b) (fun t i k => spec_l17Table_l52 a b t i k) (fun t i => spec_l17Table_l40 a b t i) some (cel_n a b) (cel_m a b) ?_ ?_ ?_ ?_
  · intro f i k hi hk h1 h2 h3
    obtain ⟨x, gx, mx, dx⟩ := drop_get hi
    obtain ⟨y, gy, my, dy⟩ := drop_get hk
    obtain ⟨c1, c2, c3⟩ := cel_step dx dy
    have b1 := cel_le a b (i + 1) (k + 1)
    show spec_l17Table_l52 a b _ _ _ = spec_l17Table_l52 a b _ _ _
    have hk1 : addI (k : Int) 1 = ((k + 1 : Nat) : Int) := by rw [addI_eq (by omega) (by omega)]; omega
    have hi1 : addI (i : Int) 1 = ((i + 1 : Nat) : Int) := by rw [addI_eq (by omega) (by omega)]; omega
    have hk2 : subI (k : Int) 1 = (k : Int) - 1 := subI_eq (by omega) (by omega)
    rw [spec_l17Table_l52, geI_t (by omega), hi1, hk1]
    simp only [get_tab (n := a.length + 1) (f := f) (m := b.length + 1) (i := i + 1) (by omega) rfl, get_tab (n := a.length + 1) (f := f) (m := b.length + 1) (i := i) (by omega) rfl, if_true, some_bnd,
      get_row (f := f) (m := b.length + 1) (i := i) (k := k) (by omega) rfl, get_row (f := f) (m := b.length + 1) (i := i + 1) (k := k) (by omega) rfl, get_row (f := f) (m := b.length + 1) (i := i) (k := k + 1) (by omega) rfl, get_row (f := f) (m := b.length + 1) (i := i + 1) (k := k + 1) (by omega) rfl]
    have j63 : ∀ n7, (snB x y = false → n7 = cel a b i k) → spec_l17Table_j63 a b (tab (a.length + 1) (b.length + 1) f) i k n7 = spec_l17Table_l52 a b (tab (a.length + 1) (b.length + 1) (upd f i k (cel a b i k))) i ((k : Int) - 1) := by
      intro n7 h7
      rw [spec_l17Table_j63, gx, gy, hi1, hk1, hk2]
      simp only [get_tab (n := a.length + 1) (f := f) (m := b.length + 1) (i := i + 1) (by omega) rfl, get_tab (n := a.length + 1) (f := f) (m := b.length + 1) (i := i) (by omega) rfl, some_bnd, spec_node x y (ha x mx) (hb y my),
        get_row (f := f) (m := b.length + 1) (i := i) (k := k) (by omega) rfl, get_row (f := f) (m := b.length + 1) (i := i + 1) (k := k + 1) (by omega) rfl, set_tab]
      by_cases e : snB x y = true
      · rw [e, if_pos rfl] at c1
        simp only [e, if_true, h3]
        rw [addI_eq (by omega) (by omega), c1]
      · have e' : snB x y = false := by simpa using e
        simp only [e', Bool.false_eq_true, if_false, h7 e']
    rw [h1, h2]
    by_cases g : cel a b i (k + 1) > cel a b (i + 1) k
    · rw [gtI_t g, if_pos rfl]
      refine j63 _ fun e => ?_
      rw [e, if_neg (by simp)] at c1
      omega
    · rw [gtI_f g, if_neg (by simp)]
      refine j63 _ fun e => ?_
      rw [e, if_neg (by simp)] at c1
      omega
  · intro t i hi
    show spec_l17Table_l52 a b _ _ _ = spec_l17Table_l40 a b _ _
    rw [spec_l17Table_l52, geI_f (by omega), subI_eq (by omega) (by omega)]; rfl
  · intro t i hi
    show spec_l17Table_l40 a b _ _ = spec_l17Table_l52 a b _ _ _
    rw [spec_l17Table_l40, geI_t (by omega), subI_eq (by simp only [lenL]; omega) (by simp only [lenL]; omega)]; rfl
  · intro t
    show spec_l17Table_l40 a b _ _ = _
    rw [spec_l17Table_l40, geI_f (by omega)]; rfl

theorem impl_zero (a b : List GNode) (la : a.length ≤ 1048576) (lb : b.length ≤ 1048576) :
    ∀ d j : Nat, j + d = a.length + 1 → impl_longest_l8 a b (List.replicate j (List.replicate (b.length + 1) 0) ++ List.replicate d []) (a.length + 1) j = impl_longest_l25 a b (List.replicate (a.length + 1) (List.replicate (b.length + 1) 0)) ((a.length : Int) - 1) := by
  intro d
  induction d with
  | zero =>
    intro j h
    have e : j = a.length + 1 := by omega
    rw [impl_longest_l8, ltI_f (by omega), subI_eq (by simp only [lenL]; omega) (by simp only [lenL]; omega), e, List.replicate_zero, List.append_nil]; rfl
  | succ d ih =>
    intro j h
    rw [impl_longest_l8, ltI_t (by omega), if_pos rfl]
    have e0 : addI (lenL b) 1 = ((b.length + 1 : Nat) : Int) := by rw [addI_eq (by simp only [lenL]; omega) (by simp only [lenL]; omega)]; simp [lenL]
    have hl : ((List.replicate j (List.replicate (b.length + 1) (0 : Int))).length : Int) = j := by simp
    rw [e0, mkN_eq (Nat.le_trans (Nat.mul_le_mul (show b.length + 1 ≤ 1048577 by omega) (Nat.le_refl 8)) (by decide)) (by omega)]
    have f1 : getI (List.replicate j (List.replicate (b.length + 1) (0 : Int)) ++ List.replicate (d + 1) []) (j : Int) = some [] := by
      have := fill_at (z := ([] : List Int)) (pre := List.replicate j (List.replicate (b.length + 1) (0 : Int))) (m := d)
      rw [hl] at this; exact this
    have f2 : (List.replicate j (List.replicate (b.length + 1) (0 : Int)) ++ List.replicate (d + 1) []).set (Int.toNat (j : Int)) (List.replicate (b.length + 1) 0) = List.replicate (j + 1) (List.replicate (b.length + 1) 0) ++ List.replicate d [] := by
      have := fill_set (z := ([] : List Int)) (x := List.replicate (b.length + 1) (0 : Int)) (pre := List.replicate j (List.replicate (b.length + 1) (0 : Int))) (m := d)
      rw [hl] at this; rw [this, List.replicate_succ' (n := j) (a := List.replicate (b.length + 1) (0 : Int))]
    simp only [some_bnd, f1, f2]
    rw [addI_eq (by omega) (by omega)]
    exact ih (j + 1) (by omega)
theorem maxI_eq (a b : Int) : maxI a b = max a b := by unfold maxI; split <;> omega
theorem upd_get {f : Nat → Nat → Int} {i k : Nat} {v : Int} : upd f i k v i k = v := by simp [upd]
theorem upd_get' {f : Nat → Nat → Int} {i k : Nat} {v : Int} : upd f i k v (i + 1) (k + 1) = f (i + 1) (k + 1) := by simp [upd]
theorem upd_upd {f : Nat → Nat → Int} {i k : Nat} {v w : Int} : upd (upd f i k v) i k w = upd f i k w := by
  funext a b; unfold upd; split <;> rfl
theorem impl_table (a b : List GNode) (ha : ∀ y ∈ a, GNode.ok y) (hb : ∀ y ∈ b, GNode.ok y) (la : a.length ≤ 1048576) (lb : b.length ≤ 1048576) : impl_longest a b = some (tab (a.length + 1) (b.length + 1) (cel a b)) := by
  rw [impl_longest]
  have e0 : addI (lenL a) 1 = ((a.length + 1 : Nat) : Int) := by rw [addI_eq (by simp only [lenL]; omega) (by simp only [lenL]; omega)]; simp [lenL]
  rw [e0, mkN_eq (Nat.le_trans (Nat.mul_le_mul (show a.length + 1 ≤ 1048577 by omega) (Nat.le_refl 24)) (by decide)) (by omega)]
  have h1 := impl_zero a b la lb (a.length + 1) 0 (by omega)
  simp only [some_bnd]
  refine Eq.trans h1 ?_
  rw [← tab_zero]
  refine fill_table a.length b.length (cel a b) (fun t i k => impl_longest_l37 a b t i k) (fun t i => impl_longest_l25 a b t i) some (cel_n a b) (cel_m a b) ?_ ?_ ?_ ?_
  · intro f i k hi hk h1 h2 h3
    obtain ⟨x, gx, mx, dx⟩ := drop_get hi
    obtain ⟨y, gy, my, dy⟩ := drop_get hk
    obtain ⟨c1, c2, c3⟩ := cel_step dx dy
    have b1 := cel_le a b (i + 1) (k + 1)
    show impl_longest_l37 a b _ _ _ = impl_longest_l37 a b _ _ _
    have hk1 : addI (k : Int) 1 = ((k + 1 : Nat) : Int) := by rw [addI_eq (by omega) (by omega)]; omega
    have hi1 : addI (i : Int) 1 = ((i + 1 : Nat) : Int) := by rw [addI_eq (by omega) (by omega)]; omega
    have hk2 : subI (k : Int) 1 = (k : Int) - 1 := subI_eq (by omega) (by omega)
    rw [impl_longest_l37, geI_t (by omega), hi1, hk1, hk2, gx, gy]
    simp only [fun f => get_tab (n := a.length + 1) (f := f) (m := b.length + 1) (i := i + 1) (by omega) rfl, fun f => get_tab (n := a.length + 1) (f := f) (m := b.length + 1) (i := i) (by omega) rfl, if_true, some_bnd, spec_node x y (ha x mx) (hb y my), impl_node x y (ha x mx) (hb y my),
      fun f => get_row (f := f) (m := b.length + 1) (i := i) (k := k) (by omega) rfl, fun f => get_row (f := f) (m := b.length + 1) (i := i + 1) (k := k) (by omega) rfl, fun f => get_row (f := f) (m := b.length + 1) (i := i) (k := k + 1) (by omega) rfl, fun f => get_row (f := f) (m := b.length + 1) (i := i + 1) (k := k + 1) (by omega) rfl, set_tab, upd_get, upd_get', upd_upd, h1, h2, h3, maxI_eq]
    by_cases e : snB x y = true
    · rw [e, if_pos rfl] at c1
      simp only [e, if_true]
      rw [addI_eq (by omega) (by omega)]
      have e1 : max (max (cel a b (i + 1) k) (cel a b i (k + 1))) (1 + cel a b (i + 1) (k + 1)) = cel a b i k := by omega
      rw [e1]
    · have e' : snB x y = false := by simpa using e
      rw [e', if_neg (by simp)] at c1
      simp only [e', Bool.false_eq_true, if_false]
      rw [c1]
  · intro t i hi
    show impl_longest_l37 a b _ _ _ = impl_longest_l25 a b _ _
    rw [impl_longest_l37, geI_f (by omega), if_neg (by simp), subI_eq (by omega) (by omega)]
  · intro t i hi
    show impl_longest_l25 a b _ _ = impl_longest_l37 a b _ _ _
    rw [impl_longest_l25, geI_t (by omega), subI_eq (by simp only [lenL]; omega) (by simp only [lenL]; omega)]; rfl
  · intro t
    show impl_longest_l25 a b _ _ = _
    rw [impl_longest_l25, geI_f (by omega)]; rfl
end TT
