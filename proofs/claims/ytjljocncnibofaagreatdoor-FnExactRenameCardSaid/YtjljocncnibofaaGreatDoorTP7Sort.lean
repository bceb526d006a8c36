import Derived.Test.YtjljocncnibofaaGreatDoorTP2Tree
set_option linter.unusedVariables false
set_option linter.unusedSimpArgs false
namespace TT
open Go
def Pm (r l : List GAttr) : Prop := r.length = l.length ∧ r.Perm l
theorem Pm.refl (l : List GAttr) : Pm l l := ⟨rfl, .refl _⟩
theorem Pm.trans {a b c : List GAttr} (h : Pm a b) (k : Pm b c) : Pm a c := ⟨h.1.trans k.1, h.2.trans k.2⟩
theorem Pm.swap {l : List GAttr} {i j : Nat} (hi : i < l.length) (hj : j < l.length) : Pm ((l.set i l[j]).set j l[i]) l :=
 ⟨by simp only [List.length_set], List.set_set_perm hi hj⟩
theorem getI_nat {α : Type} {l : List α} {k : Nat} (h : k < l.length) : getI l (k : Int) = some l[k] := by
 rw [getI_pos (by omega), Int.toNat_natCast, List.getElem?_eq_getElem h]
theorem cmp_all (a b : GAttr) : ∃ c, impl_compareAttrs a b = some c := (less_all a b).imp fun _ h => h.1
theorem sub1 {j : Nat} (h : j + 1 ≤ 8000000) : subI ((j + 1 : Nat) : Int) 1 = (j : Int) := by rw [subI_eq (by omega) (by omega)]; omega
theorem add1 {j : Nat} (h : j ≤ 8000000) : addI (j : Int) 1 = ((j + 1 : Nat) : Int) := by rw [addI_eq (by omega) (by omega)]; omega
theorem addN {i j : Nat} (h : i + j ≤ 40000000) : addI (i : Int) (j : Int) = ((i + j : Nat) : Int) := by rw [addI_eq (by omega) (by omega)]; omega
theorem subN {i j : Nat} (h : i ≤ 40000000) (hj : j ≤ i) : subI (i : Int) (j : Int) = ((i - j : Nat) : Int) := by rw [subI_eq (by omega) (by omega)]; omega
theorem half {i j : Nat} (h : i + j ≤ 40000000) : shrK .u64 (wr .u64 (addI (i : Int) (j : Int))) 1 = some (((i + j) / 2 : Nat) : Int) := by
 rw [addN h]
 have e : wr .u64 ((i + j : Nat) : Int) = ((i + j : Nat) : Int) := by
  have w (n : Int) : IntKind.u64.wrap n = n % 18446744073709551616 := by simp [IntKind.wrap, IntKind.bits, IntKind.signed]
  show IntKind.u64.wrap _ = _
  rw [w]
  omega
 rw [e, shrK, if_neg (by omega)]
 have : ((2 : Int) ^ (min (Int.toNat 1) IntKind.u64.bits)) = 2 := rfl
 rw [this, Int.fdiv_eq_ediv_of_nonneg _ (by omega)]
 congr 1
theorem wrN {i : Nat} (h : i ≤ 40000000) : wr .i64 (i : Int) = (i : Int) := by
 show IntKind.i64.wrap _ = _
 exact wrap_eq (by omega) (by omega)
theorem insert_loop (a b : Nat) : ∀ (m i : Nat) (data : List GAttr), b - i ≤ m → a < i → b ≤ data.length → data.length ≤ 4000000 → i ≤ 4000001 → ∃ r, slices_insertionSortCmpFunc_Attr_compareAttrs_l3 data a b i = some r ∧ Pm r data ∧ (a = 0 → b = data.length → spec_l8Attrs_l8 data i = some r) := by
 intro m
 induction m with
 | zero =>
  intro i data hm ha hb hl hi
  refine ⟨data, by rw [slices_insertionSortCmpFunc_Attr_compareAttrs_l3, ltI_f (by omega)]; rfl, Pm.refl _, fun h0 h1 => ?_⟩
  rw [spec_l8Attrs_l8, ltI_f (by simp only [lenL]; omega)]; rfl
 | succ m ih =>
  intro i data hm ha hb hl hi
  by_cases hib : i < b
  ·have inner : ∀ (j : Nat) (data : List GAttr), j ≤ i → b ≤ data.length → data.length ≤ 4000000 → ∃ r, slices_insertionSortCmpFunc_Attr_compareAttrs_l15 data a b i j = some r ∧ Pm r data ∧ (a = 0 → b = data.length → spec_l8Attrs_l20 data i j = some r) := by
    intro j
    induction j with
    | zero =>
     intro data hj hb hl
     obtain ⟨r, h1, h2, h3⟩ := ih (i + 1) data (by omega) (by omega) hb hl (by omega)
     refine ⟨r, ?_, h2, fun h0 hd => ?_⟩
     ·rw [slices_insertionSortCmpFunc_Attr_compareAttrs_l15, gtI_f (by omega), add1 (by omega)]; exact h1
     ·rw [spec_l8Attrs_l20, gtI_f (by omega), add1 (by omega)]; exact h3 h0 hd
    | succ j jh =>
     intro data hj hb hl
     obtain ⟨r, h1, h2, h3⟩ := ih (i + 1) data (by omega) (by omega) hb hl (by omega)
     by_cases hja : a < j + 1
     ·have g1 : getI data ((j + 1 : Nat) : Int) = some (data[j + 1]'(by omega)) := getI_nat (by omega)
      have g0 : getI data (j : Int) = some (data[j]'(by omega)) := getI_nat (by omega)
      have g2 : getI (data.set (j + 1) (data[j]'(by omega))) (j : Int) = some ((data.set (j + 1) (data[j]'(by omega)))[j]'(by rw [List.length_set]; omega)) := getI_nat (by rw [List.length_set]; omega)
      obtain ⟨c, c1, c2⟩ := less_all (data[j + 1]'(by omega)) (data[j]'(by omega))
      have cc : ltI c 0 = !geI c 0 := by rw [geI_not, Bool.not_not]
      obtain ⟨r', k1, k2, k3⟩ := jh ((data.set (j + 1) (data[j]'(by omega))).set j (data[j + 1]'(by omega))) (by omega) (by simp only [List.length_set]; omega) (by simp only [List.length_set]; omega)
      cases hc : geI c 0 with
      | true =>
       refine ⟨r, ?_, h2, fun h0 hd => ?_⟩
       ·rw [slices_insertionSortCmpFunc_Attr_compareAttrs_l15, gtI_t (by omega), sub1 (by omega), add1 (by omega), g1, g0]
        simp only [if_true, some_bnd, c1, cc, hc, Bool.not_true, Bool.false_eq_true, if_false]
        exact h1
       ·rw [spec_l8Attrs_l20, gtI_t (by omega), sub1 (by omega), add1 (by omega), g1, g0]
        simp only [if_true, some_bnd, c2, hc, Bool.not_true, Bool.false_eq_true, if_false]
        exact h3 h0 hd
      | false =>
       refine ⟨r', ?_, k2.trans (Pm.swap (by omega) (by omega)), fun h0 hd => ?_⟩
       ·rw [slices_insertionSortCmpFunc_Attr_compareAttrs_l15, gtI_t (by omega), sub1 (by omega), g1, g0]
        simp only [if_true, some_bnd, c1, cc, hc, Bool.not_false, Int.toNat_natCast, g2]
        exact k1
       ·rw [spec_l8Attrs_l20, gtI_t (by omega), sub1 (by omega), g1, g0]
        simp only [if_true, some_bnd, c2, hc, Bool.not_false, Int.toNat_natCast, g2]
        exact k3 h0 (by simp only [List.length_set]; exact hd)
     ·refine ⟨r, ?_, h2, fun h0 hd => by omega⟩
      rw [slices_insertionSortCmpFunc_Attr_compareAttrs_l15, gtI_f (by omega), add1 (by omega)]; exact h1
   obtain ⟨r, h1, h2, h3⟩ := inner i data (Nat.le_refl _) hb hl
   refine ⟨r, ?_, h2, fun h0 hd => ?_⟩
   ·rw [slices_insertionSortCmpFunc_Attr_compareAttrs_l3, ltI_t (by omega)]; exact h1
   ·rw [spec_l8Attrs_l8, ltI_t (by simp only [lenL]; omega)]; exact h3 h0 hd
  ·refine ⟨data, by rw [slices_insertionSortCmpFunc_Attr_compareAttrs_l3, ltI_f (by omega)]; rfl, Pm.refl _, fun h0 h1 => ?_⟩
   rw [spec_l8Attrs_l8, ltI_f (by simp only [lenL]; omega)]; rfl
theorem insert_all (a b : Nat) (data : List GAttr) (ha : a ≤ b) (hb : b ≤ data.length) (hl : data.length ≤ 4000000) : ∃ r, slices_insertionSortCmpFunc_Attr_compareAttrs data a b = some r ∧ Pm r data ∧ (a = 0 → b = data.length → spec_l8Attrs data = some r) := by
 obtain ⟨r, h1, h2, h3⟩ := insert_loop a b (b - (a + 1)) (a + 1) data (Nat.le_refl _) (by omega) hb hl (by omega)
 refine ⟨r, by rw [slices_insertionSortCmpFunc_Attr_compareAttrs, add1 (by omega)]; exact h1, h2, fun h0 hd => ?_⟩
 rw [spec_l8Attrs, room_ok (by omega) (by decide) (by decide)]
 have := h3 h0 hd
 rw [h0] at this
 exact this
end TT
namespace TT
open Go
theorem lift_loop (data0 : List GAttr) (i : Nat) : ∀ (m k : Nat) (data : List GAttr), i - k ≤ m → i ≤ data.length → 1 ≤ i → data.length ≤ 4000000 → k ≤ 4000001 → ∃ r, slices_symMergeCmpFunc_Attr_compareAttrs_l29 data i k = some r ∧ Pm r data := by
 intro m
 induction m with
 | zero =>
  intro k data hm hi h1 hl hk
  exact ⟨data, by rw [slices_symMergeCmpFunc_Attr_compareAttrs_l29, subI_eq (by omega) (by omega), ltI_f (by omega)]; rfl, Pm.refl _⟩
 | succ m ih =>
  intro k data hm hi h1 hl hk
  by_cases hki : k + 1 < i
  ·obtain ⟨r, r1, r2⟩ := ih (k + 1) ((data.set k (data[k + 1]'(by omega))).set (k + 1) (data[k]'(by omega))) (by omega) (by simp only [List.length_set]; exact hi) h1 (by simp only [List.length_set]; exact hl) (by omega)
   refine ⟨r, ?_, r2.trans (Pm.swap (by omega) (by omega))⟩
   have g1 : getI data ((k + 1 : Nat) : Int) = some (data[k + 1]'(by omega)) := getI_nat (by omega)
   have g0 : getI data (k : Int) = some (data[k]'(by omega)) := getI_nat (by omega)
   have g2 : getI (data.set k (data[k + 1]'(by omega))) ((k + 1 : Nat) : Int) = some ((data.set k (data[k + 1]'(by omega)))[k + 1]'(by rw [List.length_set]; omega)) := getI_nat (by rw [List.length_set]; omega)
   rw [slices_symMergeCmpFunc_Attr_compareAttrs_l29, subI_eq (by omega) (by omega), ltI_t (by omega), add1 (by omega), g1, g0]
   simp only [if_true, some_bnd, Int.toNat_natCast, g2]
   exact r1
  ·exact ⟨data, by rw [slices_symMergeCmpFunc_Attr_compareAttrs_l29, subI_eq (by omega) (by omega), ltI_f (by omega)]; rfl, Pm.refl _⟩
theorem low_loop (data : List GAttr) (a b : Nat) (hab : a < b) (hb : b ≤ data.length) (hl : data.length ≤ 4000000) : ∀ (m i j : Nat), j - i ≤ m → a < i → i ≤ j → j ≤ b → ∃ r, slices_symMergeCmpFunc_Attr_compareAttrs_l10 data a i j = some r ∧ Pm r data := by
 intro m
 induction m with
 | zero =>
  intro i j hm hi hij hj
  rw [slices_symMergeCmpFunc_Attr_compareAttrs_l10, ltI_f (by omega)]
  exact lift_loop data i _ a data (Nat.le_refl _) (by omega) (by omega) hl (by omega)
 | succ m ih =>
  intro i j hm hi hij hj
  by_cases hlt : i < j
  ·have g1 : getI data (((i + j) / 2 : Nat) : Int) = some (data[(i + j) / 2]'(by omega)) := getI_nat (by omega)
   have g0 : getI data (a : Int) = some (data[a]'(by omega)) := getI_nat (by omega)
   obtain ⟨c, hc⟩ := cmp_all (data[(i + j) / 2]'(by omega)) (data[a]'(by omega))
   rw [slices_symMergeCmpFunc_Attr_compareAttrs_l10, ltI_t (by omega), half (by omega)]
   simp only [if_true, some_bnd, wrN (show (i + j) / 2 ≤ 40000000 by omega), g1, g0, hc]
   cases ltI c 0 with
   | true =>
    simp only [if_true, add1 (show (i + j) / 2 ≤ 8000000 by omega)]
    exact ih ((i + j) / 2 + 1) j (by omega) (by omega) (by omega) hj
   | false => exact ih i ((i + j) / 2) (by omega) hi (by omega) (by omega)
  ·rw [slices_symMergeCmpFunc_Attr_compareAttrs_l10, ltI_f (by omega)]
   exact lift_loop data i _ a data (Nat.le_refl _) (by omega) (by omega) hl (by omega)
theorem drop_loop (i : Nat) : ∀ (k : Nat) (data : List GAttr), k < data.length → data.length ≤ 4000000 → ∃ r, slices_symMergeCmpFunc_Attr_compareAttrs_l71 data i k = some r ∧ Pm r data := by
 intro k
 induction k with
 | zero =>
  intro data hk hl
  exact ⟨data, by rw [slices_symMergeCmpFunc_Attr_compareAttrs_l71, gtI_f (by omega)]; rfl, Pm.refl _⟩
 | succ k ih =>
  intro data hk hl
  by_cases hki : i < k + 1
  ·obtain ⟨r, r1, r2⟩ := ih ((data.set (k + 1) (data[k]'(by omega))).set k (data[k + 1]'(by omega))) (by simp only [List.length_set]; omega) (by simp only [List.length_set]; exact hl)
   refine ⟨r, ?_, r2.trans (Pm.swap (by omega) (by omega))⟩
   have g1 : getI data ((k + 1 : Nat) : Int) = some (data[k + 1]'(by omega)) := getI_nat (by omega)
   have g0 : getI data (k : Int) = some (data[k]'(by omega)) := getI_nat (by omega)
   have g2 : getI (data.set (k + 1) (data[k]'(by omega))) (k : Int) = some ((data.set (k + 1) (data[k]'(by omega)))[k]'(by rw [List.length_set]; omega)) := getI_nat (by rw [List.length_set]; omega)
   rw [slices_symMergeCmpFunc_Attr_compareAttrs_l71, gtI_t (by omega), sub1 (by omega), g1, g0]
   simp only [if_true, some_bnd, Int.toNat_natCast, g2]
   exact r1
  ·exact ⟨data, by rw [slices_symMergeCmpFunc_Attr_compareAttrs_l71, gtI_f (by omega)]; rfl, Pm.refl _⟩
theorem high_loop (data : List GAttr) (k : Nat) (hk : k < data.length) (hl : data.length ≤ 4000000) : ∀ (m i j : Nat), j - i ≤ m → i ≤ j → j ≤ k → ∃ r, slices_symMergeCmpFunc_Attr_compareAttrs_l52 data k i j = some r ∧ Pm r data := by
 intro m
 induction m with
 | zero =>
  intro i j hm hij hj
  rw [slices_symMergeCmpFunc_Attr_compareAttrs_l52, ltI_f (by omega)]
  exact drop_loop i k data hk hl
 | succ m ih =>
  intro i j hm hij hj
  by_cases hlt : i < j
  ·have g1 : getI data (((i + j) / 2 : Nat) : Int) = some (data[(i + j) / 2]'(by omega)) := getI_nat (by omega)
   have g0 : getI data (k : Int) = some (data[k]'(by omega)) := getI_nat (by omega)
   obtain ⟨c, hc⟩ := cmp_all (data[k]'(by omega)) (data[(i + j) / 2]'(by omega))
   rw [slices_symMergeCmpFunc_Attr_compareAttrs_l52, ltI_t (by omega), half (by omega)]
   simp only [if_true, some_bnd, wrN (show (i + j) / 2 ≤ 40000000 by omega), g1, g0, hc]
   cases ltI c 0 with
   | true => exact ih i ((i + j) / 2) (by omega) (by omega) (by omega)
   | false =>
    simp only [Bool.false_eq_true, if_false, add1 (show (i + j) / 2 ≤ 8000000 by omega)]
    exact ih ((i + j) / 2 + 1) j (by omega) (by omega) hj
  ·rw [slices_symMergeCmpFunc_Attr_compareAttrs_l52, ltI_f (by omega)]
   exact drop_loop i k data hk hl
theorem range_loop (a b n : Nat) : ∀ (m i : Nat) (data : List GAttr), n - i ≤ m → a + n ≤ data.length → b + n ≤ data.length → data.length ≤ 4000000 → i ≤ 4000001 → ∃ r, slices_swapRangeCmpFunc_Attr_compareAttrs_l3 data a b n i = some r ∧ Pm r data := by
 intro m
 induction m with
 | zero =>
  intro i data hm ha hb hl hi
  exact ⟨data, by rw [slices_swapRangeCmpFunc_Attr_compareAttrs_l3, ltI_f (by omega)]; rfl, Pm.refl _⟩
 | succ m ih =>
  intro i data hm ha hb hl hi
  by_cases hlt : i < n
  ·obtain ⟨r, r1, r2⟩ := ih (i + 1) ((data.set (a + i) (data[b + i]'(by omega))).set (b + i) (data[a + i]'(by omega))) (by omega) (by simp only [List.length_set]; exact ha) (by simp only [List.length_set]; exact hb) (by simp only [List.length_set]; exact hl) (by omega)
   refine ⟨r, ?_, r2.trans (Pm.swap (by omega) (by omega))⟩
   have g1 : getI data ((b + i : Nat) : Int) = some (data[b + i]'(by omega)) := getI_nat (by omega)
   have g0 : getI data ((a + i : Nat) : Int) = some (data[a + i]'(by omega)) := getI_nat (by omega)
   have g2 : getI (data.set (a + i) (data[b + i]'(by omega))) ((b + i : Nat) : Int) = some ((data.set (a + i) (data[b + i]'(by omega)))[b + i]'(by rw [List.length_set]; omega)) := getI_nat (by rw [List.length_set]; omega)
   rw [slices_swapRangeCmpFunc_Attr_compareAttrs_l3, ltI_t (by omega), add1 (by omega), addN (i := b) (j := i) (by omega), addN (i := a) (j := i) (by omega), g1, g0]
   simp only [if_true, some_bnd, Int.toNat_natCast, g2]
   exact r1
  ·exact ⟨data, by rw [slices_swapRangeCmpFunc_Attr_compareAttrs_l3, ltI_f (by omega)]; rfl, Pm.refl _⟩
theorem range_all (a b n : Nat) (data : List GAttr) (ha : a + n ≤ data.length) (hb : b + n ≤ data.length) (hl : data.length ≤ 4000000) : ∃ r, slices_swapRangeCmpFunc_Attr_compareAttrs data a b n = some r ∧ Pm r data := by
 rw [slices_swapRangeCmpFunc_Attr_compareAttrs]
 exact range_loop a b n n 0 data (by omega) ha hb hl (by omega)
theorem same_len {r l : List GAttr} (h : Pm r l) : sameL r l = some () := if_pos h.1
theorem rotate_loop (k : Nat) : ∀ (m i j : Nat) (data : List GAttr), i + j ≤ m → 1 ≤ i → 1 ≤ j → i ≤ k → k + j ≤ data.length → data.length ≤ 4000000 → ∃ r, slices_rotateCmpFunc_Attr_compareAttrs_l6 data k i j = some r ∧ Pm r data := by
 intro m
 induction m with
 | zero => intro i j data hm hi; omega
 | succ m ih =>
  intro i j data hm hi hj hk hd hl
  have e1 : subI (k : Int) (i : Int) = ((k - i : Nat) : Int) := subN (by omega) hk
  rw [slices_rotateCmpFunc_Attr_compareAttrs_l6, neI_not, e1]
  by_cases hij : i = j
  ·subst hij
   obtain ⟨r, r1, r2⟩ := range_all (k - i) k i data (by omega) (by omega) hl
   rw [eqI_self]
   simp only [Bool.not_true, Bool.false_eq_true, if_false, r1, some_bnd, same_len r2]
   exact ⟨r, rfl, r2⟩
  ·rw [eqI_f (by omega)]
   by_cases hlt : j < i
   ·obtain ⟨r, r1, r2⟩ := range_all (k - i) k j data (by omega) (by omega) hl
    obtain ⟨q, q1, q2⟩ := ih (i - j) j r (by omega) (by omega) hj (by omega) (by rw [r2.1]; exact hd) (by rw [r2.1]; exact hl)
    rw [gtI_t (by omega), subN (i := i) (j := j) (by omega) (by omega)]
    simp only [Bool.not_false, if_true, r1, some_bnd, same_len r2]
    exact ⟨q, q1, q2.trans r2⟩
   ·obtain ⟨r, r1, r2⟩ := range_all (k - i) (k + j - i) i data (by omega) (by omega) hl
    obtain ⟨q, q1, q2⟩ := ih i (j - i) r (by omega) hi (by omega) hk (by rw [r2.1]; omega) (by rw [r2.1]; exact hl)
    rw [gtI_f (by omega), addN (i := k) (j := j) (by omega), subN (i := k + j) (j := i) (by omega) (by omega), subN (i := j) (j := i) (by omega) (by omega)]
    simp only [Bool.not_false, if_true, Bool.false_eq_true, if_false, r1, some_bnd, same_len r2]
    exact ⟨q, q1, q2.trans r2⟩
theorem rotate_all (a k b : Nat) (data : List GAttr) (h1 : a < k) (h2 : k < b) (hb : b ≤ data.length) (hl : data.length ≤ 4000000) : ∃ r, slices_rotateCmpFunc_Attr_compareAttrs data a k b = some r ∧ Pm r data := by
 rw [slices_rotateCmpFunc_Attr_compareAttrs, subN (i := k) (j := a) (by omega) (by omega), subN (i := b) (j := k) (by omega) (by omega)]
 exact rotate_loop k _ (k - a) (b - k) data (Nat.le_refl _) (by omega) (by omega) (by omega) (by omega) hl
end TT
set_option maxHeartbeats 2000000
namespace TT
open Go
theorem merge_all : ∀ (N a k b : Nat) (data : List GAttr), b - a ≤ N → a < k → k < b → b ≤ data.length → data.length ≤ 4000000 → ∃ r, slices_symMergeCmpFunc_Attr_compareAttrs data a k b = some r ∧ Pm r data := by
 intro N
 induction N with
 | zero => intro a k b data hN h1 h2; omega
 | succ N ih =>
  intro a k b data hN h1 h2 hb hl
  by_cases hk1 : k - a = 1
  ·rw [slices_symMergeCmpFunc_Attr_compareAttrs, subN (i := k) (j := a) (by omega) (by omega), hk1, show eqI ((1 : Nat) : Int) 1 = true from rfl]
   exact low_loop data a b (by omega) hb hl _ k b (Nat.le_refl _) h1 (by omega) (Nat.le_refl _)
  ·by_cases hk2 : b - k = 1
   ·rw [slices_symMergeCmpFunc_Attr_compareAttrs, subN (i := k) (j := a) (by omega) (by omega), eqI_f (by omega), subN (i := b) (j := k) (by omega) (by omega), hk2, show eqI ((1 : Nat) : Int) 1 = true from rfl]
    exact high_loop data k (by omega) hl _ a k (Nat.le_refl _) (by omega) (Nat.le_refl _)
   ·obtain ⟨M, hM⟩ : ∃ M, M = (a + b) / 2 := ⟨_, rfl⟩
    have f127 : ∀ (s : Nat) (d : List GAttr), Pm d data → s ≤ M → s ≤ k → M + k ≤ s + b → ∃ r, slices_symMergeCmpFunc_Attr_compareAttrs_j127 d b M k s = some r ∧ Pm r data := by
     intro s d hd hs1 hs2 hs3
     have hd1 := hd.1
     rw [slices_symMergeCmpFunc_Attr_compareAttrs_j127, wrN (by omega), addN (i := M) (j := k) (by omega), subN (i := M + k) (j := s) (by omega) (by omega)]
     by_cases c1 : M < M + k - s
     ·rw [ltI_t (by omega)]
      by_cases c2 : M + k - s < b
      ·obtain ⟨r, r1, r2⟩ := ih M (M + k - s) b d (by omega) c1 c2 (by omega) (by omega)
       rw [ltI_t (by omega)]
       simp only [if_true, r1, some_bnd, same_len r2]
       exact ⟨r, rfl, r2.trans hd⟩
      ·rw [ltI_f (by omega)]
       exact ⟨d, rfl, hd⟩
     ·rw [ltI_f (by omega)]
      exact ⟨d, rfl, hd⟩
    have f121 : ∀ (s : Nat) (d : List GAttr), Pm d data → a ≤ s → s ≤ M → s ≤ k → M + k ≤ s + b → ∃ r, slices_symMergeCmpFunc_Attr_compareAttrs_j121 d a b M s k = some r ∧ Pm r data := by
     intro s d hd h0 hs1 hs2 hs3
     have hd1 := hd.1
     rw [slices_symMergeCmpFunc_Attr_compareAttrs_j121]
     by_cases c1 : a < s
     ·rw [ltI_t (by omega), wrN (by omega)]
      by_cases c2 : s < M
      ·obtain ⟨r, r1, r2⟩ := ih a s M d (by omega) c1 c2 (by omega) (by omega)
       rw [ltI_t (by omega)]
       simp only [if_true, r1, some_bnd, same_len r2]
       exact f127 s r (r2.trans hd) hs1 hs2 hs3
      ·rw [ltI_f (by omega)]
       exact f127 s d hd hs1 hs2 hs3
     ·rw [ltI_f (by omega)]
      exact f127 s d hd hs1 hs2 hs3
    have loop : ∀ (m s t : Nat), t - s ≤ m → a ≤ s → M + k ≤ s + b → s ≤ t → t ≤ k → t ≤ M → ∃ r, slices_symMergeCmpFunc_Attr_compareAttrs_l104 data a k b M s t = some r ∧ Pm r data := by
     have stop : ∀ s t : Nat, a ≤ s → M + k ≤ s + b → s = t → t ≤ k → t ≤ M → ∃ r, slices_symMergeCmpFunc_Attr_compareAttrs_l104 data a k b M s t = some r ∧ Pm r data := by
      intro s t g1 g2 g3 g4 g5
      rw [slices_symMergeCmpFunc_Attr_compareAttrs_l104, ltI_f (by omega), wrN (by omega), addN (i := M) (j := k) (by omega), subN (i := M + k) (j := s) (by omega) (by omega)]
      by_cases c1 : s < k
      ·rw [ltI_t (a := (s : Int)) (b := (k : Int)) (by omega)]
       by_cases c2 : k < M + k - s
       ·obtain ⟨r, r1, r2⟩ := rotate_all s k (M + k - s) data c1 c2 (by omega) hl
        rw [ltI_t (by omega)]
        simp only [if_true, Bool.false_eq_true, if_false, r1, some_bnd, same_len r2]
        exact f121 s r r2 g1 (by omega) (by omega) g2
       ·rw [ltI_f (a := (k : Int)) (by omega)]
        exact f121 s data (Pm.refl _) g1 (by omega) (by omega) g2
      ·rw [ltI_f (a := (s : Int)) (b := (k : Int)) (by omega)]
       exact f121 s data (Pm.refl _) g1 (by omega) (by omega) g2
     intro m
     induction m with
     | zero => intro s t hm g1 g2 g3 g4 g5; exact stop s t g1 g2 (by omega) g4 g5
     | succ m mh =>
      intro s t hm g1 g2 g3 g4 g5
      by_cases hst : s < t
      ·have e1 : getI data ((M + k - 1 - (s + t) / 2 : Nat) : Int) = some (data[M + k - 1 - (s + t) / 2]'(by omega)) := getI_nat (by omega)
       have e2 : getI data (((s + t) / 2 : Nat) : Int) = some (data[(s + t) / 2]'(by omega)) := getI_nat (by omega)
       have e3 : subI (subI ((M + k : Nat) : Int) 1) (((s + t) / 2 : Nat) : Int) = ((M + k - 1 - (s + t) / 2 : Nat) : Int) := by
        rw [subI_eq (a := ((M + k : Nat) : Int)) (by omega) (by omega), subI_eq (by omega) (by omega)]; omega
       obtain ⟨c, hc⟩ := cmp_all (data[M + k - 1 - (s + t) / 2]'(by omega)) (data[(s + t) / 2]'(by omega))
       rw [slices_symMergeCmpFunc_Attr_compareAttrs_l104, ltI_t (by omega), half (i := s) (j := t) (by omega)]
       simp only [if_true, some_bnd, wrN (show (s + t) / 2 ≤ 40000000 by omega), wrN (show M ≤ 40000000 by omega), addN (show M + k ≤ 40000000 by omega), e3, e1, e2, hc, add1 (show (s + t) / 2 ≤ 8000000 by omega)]
       cases ltI c 0 with
       | true => exact mh s ((s + t) / 2) (by omega) g1 g2 (by omega) (by omega) (by omega)
       | false => exact mh ((s + t) / 2 + 1) t (by omega) (by omega) (by omega) (by omega) g4 g5
      ·exact stop s t g1 g2 (by omega) g4 g5
    rw [slices_symMergeCmpFunc_Attr_compareAttrs, subN (i := k) (j := a) (by omega) (by omega), eqI_f (by omega), subN (i := b) (j := k) (by omega) (by omega), eqI_f (by omega), half (i := a) (j := b) (by omega), ← hM]
    simp only [Bool.false_eq_true, if_false, some_bnd, wrN (show M ≤ 40000000 by omega), addN (show M + k ≤ 40000000 by omega)]
    by_cases hkM : M < k
    ·rw [gtI_t (by omega), if_pos rfl, slices_symMergeCmpFunc_Attr_compareAttrs_j90, subN (i := M + k) (j := b) (by omega) (by omega)]
     exact loop _ (M + k - b) M (Nat.le_refl _) (by omega) (by omega) (by omega) (by omega) (by omega)
    ·rw [gtI_f (by omega), if_neg (by decide), slices_symMergeCmpFunc_Attr_compareAttrs_j90]
     exact loop _ a k (Nat.le_refl _) (by omega) (by omega) (by omega) (by omega) (by omega)
theorem mulI_eq' {x y : Nat} (h : x * y ≤ 40000000) : mulI (x : Int) (y : Int) = ((x * y : Nat) : Int) := by
 have : ((x : Int) * (y : Int)) = ((x * y : Nat) : Int) := (Int.natCast_mul x y).symm
 rw [mulI, this, wrap_eq (by omega) (by omega)]
theorem block_loop (n : Nat) (hn : n ≤ 4000000) : ∀ (m bs : Nat) (data : List GAttr), n - bs ≤ m → 1 ≤ bs → data.length = n → bs ≤ 8000000 → ∃ r, slices_stableCmpFunc_Attr_compareAttrs_l22 data n bs = some r ∧ Pm r data := by
 intro m
 induction m with
 | zero =>
  intro bs data hm hbs hd h8
  exact ⟨data, by rw [slices_stableCmpFunc_Attr_compareAttrs_l22, ltI_f (by omega)]; rfl, Pm.refl _⟩
 | succ m ih =>
  intro bs data hm hbs hd h8
  by_cases hlt : bs < n
  ·have e2 : mulI 2 (bs : Int) = ((2 * bs : Nat) : Int) := mulI_eq' (x := 2) (by omega)
   have e3 : mulI (bs : Int) 2 = ((bs * 2 : Nat) : Int) := mulI_eq' (y := 2) (by omega)
   have inner : ∀ (q a : Nat) (data : List GAttr), n - a ≤ q → a ≤ n → data.length = n → ∃ r, slices_stableCmpFunc_Attr_compareAttrs_l34 data n bs a ((a + 2 * bs : Nat) : Int) = some r ∧ Pm r data := by
    have stop : ∀ (a : Nat) (data : List GAttr), a ≤ n → n < a + 2 * bs → data.length = n → ∃ r, slices_stableCmpFunc_Attr_compareAttrs_l34 data n bs a ((a + 2 * bs : Nat) : Int) = some r ∧ Pm r data := by
     intro a data ha h2 hd
     rw [slices_stableCmpFunc_Attr_compareAttrs_l34, leI_f (by omega), addN (i := a) (j := bs) (by omega)]
     by_cases h3 : a + bs < n
     ·obtain ⟨r, r1, r2⟩ := merge_all _ a (a + bs) n data (Nat.le_refl _) (by omega) h3 (by omega) (by omega)
      obtain ⟨q, q1, q2⟩ := ih (bs * 2) r (by omega) (by omega) (by rw [r2.1]; exact hd) (by omega)
      rw [ltI_t (by omega)]
      simp only [if_true, Bool.false_eq_true, if_false, r1, some_bnd, same_len r2, e3]
      exact ⟨q, q1, q2.trans r2⟩
     ·rw [ltI_f (by omega)]
      simp only [Bool.false_eq_true, if_false, e3]
      exact ih (bs * 2) data (by omega) (by omega) hd (by omega)
    intro q
    induction q with
    | zero => intro a data hq ha hd; exact stop a data ha (by omega) hd
    | succ q qh =>
     intro a data hq ha hd
     by_cases h2 : a + 2 * bs ≤ n
     ·obtain ⟨r, r1, r2⟩ := merge_all _ a (a + bs) (a + 2 * bs) data (Nat.le_refl _) (by omega) (by omega) (by omega) (by omega)
      obtain ⟨p, p1, p2⟩ := qh (a + 2 * bs) r (by omega) h2 (by rw [r2.1]; exact hd)
      rw [slices_stableCmpFunc_Attr_compareAttrs_l34, leI_t (by omega), addN (i := a) (j := bs) (by omega)]
      simp only [if_true, r1, some_bnd, same_len r2, e2, addN (show (a + 2 * bs) + 2 * bs ≤ 40000000 by omega)]
      exact ⟨p, p1, p2.trans r2⟩
     ·exact stop a data ha (by omega) hd
   rw [slices_stableCmpFunc_Attr_compareAttrs_l22, ltI_t (by omega), if_pos rfl, e2]
   have := inner n 0 data (by omega) (by omega) hd
   rw [Nat.zero_add] at this
   exact this
  ·exact ⟨data, by rw [slices_stableCmpFunc_Attr_compareAttrs_l22, ltI_f (by omega)]; rfl, Pm.refl _⟩
theorem pieces_loop (n : Nat) (hn : n ≤ 4000000) : ∀ (m a : Nat) (data : List GAttr), n - a ≤ m → a ≤ n → data.length = n → ∃ r, slices_stableCmpFunc_Attr_compareAttrs_l6 data n a ((a + 20 : Nat) : Int) = some r ∧ Pm r data := by
 have stop : ∀ (a : Nat) (data : List GAttr), a ≤ n → n < a + 20 → data.length = n → ∃ r, slices_stableCmpFunc_Attr_compareAttrs_l6 data n a ((a + 20 : Nat) : Int) = some r ∧ Pm r data := by
  intro a data ha h2 hd
  obtain ⟨r, r1, r2, _⟩ := insert_all a n data ha (by omega) (by omega)
  obtain ⟨q, q1, q2⟩ := block_loop n hn n 20 r (by omega) (by omega) (by rw [r2.1]; exact hd) (by omega)
  rw [slices_stableCmpFunc_Attr_compareAttrs_l6, leI_f (by omega)]
  simp only [Bool.false_eq_true, if_false, r1, some_bnd, same_len r2]
  exact ⟨q, q1, q2.trans r2⟩
 intro m
 induction m with
 | zero => intro a data hm ha hd; exact stop a data ha (by omega) hd
 | succ m ih =>
  intro a data hm ha hd
  by_cases h2 : a + 20 ≤ n
  ·obtain ⟨r, r1, r2, _⟩ := insert_all a (a + 20) data (by omega) (by omega) (by omega)
   obtain ⟨p, p1, p2⟩ := ih (a + 20) r (by omega) h2 (by rw [r2.1]; exact hd)
   have e : addI ((a + 20 : Nat) : Int) 20 = ((a + 20 + 20 : Nat) : Int) := addN (j := 20) (by omega)
   rw [slices_stableCmpFunc_Attr_compareAttrs_l6, leI_t (by omega)]
   simp only [if_true, r1, some_bnd, same_len r2, e]
   exact ⟨p, p1, p2.trans r2⟩
  ·exact stop a data ha (by omega) hd
theorem sort_all (data : List GAttr) (hl : data.length ≤ 4000000) : ∃ r q, slices_SortStableFunc_Attr_compareAttrs data = some r ∧ spec_l8Attrs data = some q ∧ Pm r data ∧ Pm q data ∧ (data.length ≤ 5 → q = r) := by
 obtain ⟨q, q1, q2, q3⟩ := insert_all 0 data.length data (by omega) (Nat.le_refl _) hl
 obtain ⟨r, r1, r2⟩ := pieces_loop data.length hl _ 0 data (Nat.le_refl _) (by omega) rfl
 have r1' : slices_stableCmpFunc_Attr_compareAttrs_l6 data (data.length : Int) 0 20 = some r := r1
 refine ⟨r, q, ?_, q3 rfl rfl, r2, q2, fun h5 => ?_⟩
 ·rw [slices_SortStableFunc_Attr_compareAttrs, slices_stableCmpFunc_Attr_compareAttrs]
  show slices_stableCmpFunc_Attr_compareAttrs_l6 data (data.length : Int) 0 20 >>= _ = _
  rw [r1']
  simp only [some_bnd, same_len r2]
 ·have q1' : slices_insertionSortCmpFunc_Attr_compareAttrs data 0 (data.length : Int) = some q := q1
  rw [slices_stableCmpFunc_Attr_compareAttrs_l6, leI_f (by omega)] at r1'
  simp only [Bool.false_eq_true, if_false, q1', some_bnd, same_len q2] at r1'
  rw [slices_stableCmpFunc_Attr_compareAttrs_l22, ltI_f (by omega)] at r1'
  exact Option.some.inj r1'
end TT
