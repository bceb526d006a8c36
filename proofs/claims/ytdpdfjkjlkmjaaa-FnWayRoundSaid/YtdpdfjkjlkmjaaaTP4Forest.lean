import Derived.Test.YtdpdfjkjlkmjaaaTP4Least
set_option linter.unusedVariables false
set_option linter.unusedSimpArgs false
namespace TT
open Go
def keyB (A : GNode) (i : Nat) : Bool := (List.range' (i + 1) (nz A - (i + 1))).all fun k => decide (fo A k ≠ fo A i)
def KL (A : GNode) : List Nat := (List.range' 0 (nz A)).filter (keyB A)
theorem keyB_iff {A : GNode} {i : Nat} : keyB A i = true ↔ ∀ k, i < k → k < nz A → fo A k ≠ fo A i := by
 rw [keyB, List.all_eq_true]
 constructor
 ·intro h k h1 h2
  exact of_decide_eq_true (h k (by rw [List.mem_range'_1]; omega))
 ·intro h k hk
  rw [List.mem_range'_1] at hk
  exact decide_eq_true (h k (by omega) (by omega))
theorem KL_mem {A : GNode} {i : Nat} : i ∈ KL A ↔ i < nz A ∧ keyB A i = true := by
 rw [KL, List.mem_filter, List.mem_range'_1]
 constructor
 ·intro h; exact ⟨by omega, h.2⟩
 ·intro h; exact ⟨by omega, h.2⟩
theorem KL_lt (A : GNode) : (KL A).Pairwise (· < ·) := List.Pairwise.filter _ List.pairwise_lt_range'
theorem key_one {A : GNode} {i k : Nat} (hi : i ∈ KL A) (hk : k ∈ KL A) (h : fo A i = fo A k) : i = k := by
 obtain ⟨a1, a2⟩ := KL_mem.1 hi
 obtain ⟨b1, b2⟩ := KL_mem.1 hk
 rcases Nat.lt_trichotomy i k with e | e | e
 ·exact absurd h.symm (keyB_iff.1 a2 k e b1)
 ·exact e
 ·exact absurd h (keyB_iff.1 b2 i e a1)
theorem key_of {A : GNode} : ∀ (d a : Nat), nz A - a ≤ d → a < nz A → ∃ k, k ∈ KL A ∧ fo A k = fo A a ∧ a ≤ k := by
 intro d
 induction d with
 | zero => intro a h1 h2; omega
 | succ d ih =>
  intro a h1 h2
  by_cases e : keyB A a = true
  ·exact ⟨a, KL_mem.2 ⟨h2, e⟩, rfl, Nat.le_refl _⟩
  ·have : ∃ k, a < k ∧ k < nz A ∧ fo A k = fo A a := by
    refine Classical.byContradiction fun h => e (keyB_iff.2 fun k h3 h4 h5 => h ⟨k, h3, h4, h5⟩)
   obtain ⟨k, h3, h4, h5⟩ := this
   obtain ⟨q, h6, h7, h8⟩ := ih k (by omega) h4
   exact ⟨q, h6, h7.trans h5, by omega⟩
theorem lenF (A : GNode) : lenL (fsts 0 (po A)) = ((nz A : Nat) : Int) := by simp only [lenL, fsts_len, po_len]
theorem keys_eq (A : GNode) (nA : nz A ≤ 1000) : spec_l18Keys (fsts 0 (po A)) = some ((KL A).map fun (k : Nat) => (k : Int)) := by
 have inner : ∀ (d k : Nat), nz A - k = d → k ≤ nz A → ∀ (out : List Int) (i : Nat) (b : Bool), i < nz A → out.length ≤ 1000 → spec_l18Keys_l23 (fsts 0 (po A)) out (i : Int) b (k : Int) =
   if (b && (List.range' k d).all fun k => decide (fo A k ≠ fo A i)) then spec_l18Keys_l8 (fsts 0 (po A)) (out ++ [(i : Int)]) ((i + 1 : Nat) : Int) else spec_l18Keys_l8 (fsts 0 (po A)) out ((i + 1 : Nat) : Int) := by
  intro d
  induction d with
  | zero =>
   intro k hd hk out i b hi ho
   have : k = nz A := by omega
   subst this
   rw [spec_l18Keys_l23, lenF, ltI_f (by omega), add_k (k := i) (by omega)]
   cases b
   ·rfl
   ·simp only [Bool.false_eq_true, if_false, if_true, List.range'_zero, List.all_nil, Bool.and_self]
    rw [room_ok (by omega) (by omega) (by omega)]; rfl
  | succ d ih =>
   intro k hd hk out i b hi ho
   rw [spec_l18Keys_l23, lenF, ltI_t (by omega), add_k (k := k) (by omega)]
   cases b
   ·simp only [Bool.false_eq_true, if_false, if_true]
    rw [ih (k + 1) (by omega) (by omega) out i false hi ho]
    simp only [Bool.false_and, Bool.false_eq_true, if_false]
   ·simp only [if_true]
    rw [fa_get (by omega), fa_get hi]
    simp only [some_bnd]
    rw [ih (k + 1) (by omega) (by omega) out i _ hi ho, List.range'_succ, List.all_cons]
    have e : neI ((fo A k : Nat) : Int) ((fo A i : Nat) : Int) = decide (fo A k ≠ fo A i) := by
     by_cases h : fo A k = fo A i
     ·rw [h, neI_self]; simp
     ·rw [neI_eq, eqI_f (by omega), decide_eq_true h]; rfl
    rw [e, Bool.true_and]
 have outer : ∀ (d i : Nat), nz A - i = d → i ≤ nz A → ∀ out : List Int, out.length ≤ i → spec_l18Keys_l8 (fsts 0 (po A)) out (i : Int) = some (out ++ ((List.range' i d).filter (keyB A)).map fun (k : Nat) => (k : Int)) := by
  intro d
  induction d with
  | zero =>
   intro i hd hi out ho
   have : i = nz A := by omega
   subst this
   rw [spec_l18Keys_l8, lenF, ltI_f (by omega)]
   simp
  | succ d ih =>
   intro i hd hi out ho
   have hk : nz A - (i + 1) = d := by omega
   rw [spec_l18Keys_l8, lenF, ltI_t (by omega), add_k (k := i) (by omega)]
   simp only [if_true]
   rw [inner d (i + 1) hk (by omega) out i true (by omega) (by omega), List.range'_succ, List.filter_cons]
   have e : (true && (List.range' (i + 1) d).all fun k => decide (fo A k ≠ fo A i)) = keyB A i := by rw [keyB, hk]; rfl
   rw [e]
   by_cases h : keyB A i = true
   ·rw [if_pos h, if_pos h, ih (i + 1) hk (by omega) _ (by rw [List.length_append]; show out.length + 1 ≤ _; omega), List.map_cons, List.append_assoc]; rfl
   ·rw [if_neg h, if_neg h, ih (i + 1) hk (by omega) _ (by omega)]
 rw [spec_l18Keys, KL]
 exact (outer (nz A) 0 (by omega) (Nat.zero_le _) [] (Nat.le_refl _)).trans (by rw [List.nil_append])
theorem min_eq (a b : Nat) : spec_l18Min (a : Int) (b : Int) = some ((min a b : Nat) : Int) := by
 rw [spec_l18Min]
 by_cases h : b < a
 ·rw [ltI_t (by omega), if_pos rfl]; congr 2; omega
 ·rw [ltI_f (by omega)]; simp only [Bool.false_eq_true, if_false]; congr 2; omega
section
variable {A B N M : GNode} {i j : Nat}
theorem forest_step (sA : A.sz ≤ 1048576) (sB : B.sz ≤ 1048576) (nA : nz A ≤ 1000) (nB : nz B ≤ 1000) (hN : (po A)[i]? = some N) (hM : (po B)[j]? = some M) {p q : Nat} (h1 : 1 ≤ p) (h2 : p ≤ nz N) (h3 : 1 ≤ q) (h4 : q ≤ nz M) {f h : Nat → Nat → Int} (hf : Fil N M 1 1 p q f) (ha : Asks A B i j h) :
  spec_l18Forest_l51 ((po A).map lone) (fsts 0 (po A)) ((po B).map lone) (fsts 0 (po B)) (tab (nz A) (nz B) h) ((fo A i : Nat) : Int) ((fo B j : Nat) : Int) (tab (nz N + 1) (nz M + 1) f) (p : Int) (q : Int) =
  spec_l18Forest_l51 ((po A).map lone) (fsts 0 (po A)) ((po B).map lone) (fsts 0 (po B)) (tab (nz A) (nz B) (putD A B i j h p q)) ((fo A i : Nat) : Int) ((fo B j : Nat) : Int) (tab (nz N + 1) (nz M + 1) (upd f p q (Wd N M p q : Nat))) (p : Int) ((q + 1 : Nat) : Int) := by
 obtain ⟨v, w, c1, c2, c3, c4⟩ := cell hN hM h1 h2 h3 h4
 obtain ⟨_, _, _, a1, a2, a3, a4, _⟩ := side hN h1 h2
 obtain ⟨_, _, _, b1, b2, b3, b4, _⟩ := side hM h3 h4
 have w1 := Wd_le N M (p := p - 1) (q := q) (by omega) h4
 have w2 := Wd_le N M (p := p) (q := q - 1) h2 (by omega)
 have w3 := Wd_le N M (p := p - 1) (q := q - 1) (by omega) (by omega)
 have w4 := Wd_le N M (p := p) (q := q) h2 h4
 have w5 := Wd_le N M (p := fo A (fo A i + p - 1) - fo A i) (q := fo B (fo B j + q - 1) - fo B j) (by omega) (by omega)
 have zN : nz N ≤ 1000 := by have := (po_sub hN).1; omega
 have zM : nz M ≤ 1000 := by have := (po_sub hM).1; omega
 have f1 := hf (p - 1) q (by omega) h4 (by omega)
 have f2 := hf p (q - 1) h2 (by omega) (by omega)
 have f3 := hf (p - 1) (q - 1) (by omega) (by omega) (by omega)
 have f4 := hf (fo A (fo A i + p - 1) - fo A i) (fo B (fo B j + q - 1) - fo B j) (by omega) (by omega) (by omega)
 have k1 : fo A i + p - 1 < nz A := by omega
 have k2 : fo B j + q - 1 < nz B := by omega
 have z1 := la_sz c1 sA
 have z2 := la_sz c2 sB
 have m2 : addI ((min (Wd N M (p - 1) q) (Wd N M p (q - 1)) : Nat) : Int) 1 = ((min (Wd N M (p - 1) q) (Wd N M p (q - 1)) + 1 : Nat) : Int) := add_k (by omega)
 have e1 : spec_l18Forest_l51 ((po A).map lone) (fsts 0 (po A)) ((po B).map lone) (fsts 0 (po B)) (tab (nz A) (nz B) h) ((fo A i : Nat) : Int) ((fo B j : Nat) : Int) (tab (nz N + 1) (nz M + 1) f) (p : Int) (q : Int) =
   spec_l18Forest_j67 ((po A).map lone) (fsts 0 (po A)) ((po B).map lone) (fsts 0 (po B)) (tab (nz A) (nz B) h) ((fo A i : Nat) : Int) ((fo B j : Nat) : Int) (tab (nz N + 1) (nz M + 1) f) (p : Int) (q : Int) ((min (Wd N M (p - 1) q) (Wd N M p (q - 1)) : Nat) : Int) (decide (both A B i j (fo A i + p - 1) (fo B j + q - 1))) := by
  rw [spec_l18Forest_l51, get_tab (i := 0) (j := 0) (by omega) rfl]
  simp only [some_bnd]
  rw [ltI_t (by simp only [lenL, row_len]; omega), pred_k h1 (by omega), pred_k h3 (by omega), at_k h1 (by omega), at_k h3 (by omega), get_tab (i := p - 1) (by omega) rfl, get_tab (i := p) (by omega) rfl]
  simp only [some_bnd, if_true]
  rw [get_row (k := q) (by omega) rfl, get_row (k := q - 1) (by omega) rfl, f1, f2]
  simp only [some_bnd]
  rw [min_eq]
  simp only [some_bnd]
  rw [fa_get k1, fa_get k2]
  simp only [some_bnd]
  by_cases e : fo A (fo A i + p - 1) = fo A i
  ·rw [eqI_t (by rw [e]), if_pos rfl]
   congr 1
   by_cases e2 : fo B (fo B j + q - 1) = fo B j
   ·rw [eqI_t (by rw [e2]), decide_eq_true ⟨e, e2⟩]
   ·rw [eqI_f (by omega), decide_eq_false fun h => e2 h.2]
  ·rw [eqI_f (by omega), decide_eq_false fun h => e h.1]; rfl
 rw [e1, spec_l18Forest_j67]
 have gp : getI (tab (nz N + 1) (nz M + 1) f) (p : Int) = some (rowT (nz M + 1) f p) := get_tab (by omega) rfl
 have gq : getI (rowT (nz M + 1) f p) (q : Int) = some (f p q) := get_row (by omega) rfl
 by_cases hb : both A B i j (fo A i + p - 1) (fo B j + q - 1)
 ·obtain ⟨c5, c6⟩ := c3 hb
  have hp : putD A B i j h p q = upd h (fo A i + p - 1) (fo B j + q - 1) ((Wd N M p q : Nat) : Int) := by rw [putD, if_pos ⟨by omega, by omega, hb⟩, c6]
  have j72 : ∀ t : Nat, t = gc v w → spec_l18Forest_j72 ((po A).map lone) (fsts 0 (po A)) ((po B).map lone) (fsts 0 (po B)) (tab (nz A) (nz B) h) ((fo A i : Nat) : Int) ((fo B j : Nat) : Int) (tab (nz N + 1) (nz M + 1) f) (p : Int) (q : Int) ((min (Wd N M (p - 1) q) (Wd N M p (q - 1)) : Nat) : Int) (t : Int) =
    spec_l18Forest_l51 ((po A).map lone) (fsts 0 (po A)) ((po B).map lone) (fsts 0 (po B)) (tab (nz A) (nz B) (putD A B i j h p q)) ((fo A i : Nat) : Int) ((fo B j : Nat) : Int) (tab (nz N + 1) (nz M + 1) (upd f p q (Wd N M p q : Nat))) (p : Int) ((q + 1 : Nat) : Int) := by
   intro t ht
   have ht1 : t ≤ 1 := by rw [ht, gc]; split <;> omega
   rw [spec_l18Forest_j72, pred_k h1 (by omega), pred_k h3 (by omega), at_k h1 (by omega), at_k h3 (by omega), get_tab (i := p - 1) (by omega) rfl]
   simp only [some_bnd]
   rw [get_row (k := q - 1) (by omega) rfl, f3]
   simp only [some_bnd]
   rw [m2, addN (by omega), min_eq, ht, ← c5]
   simp only [some_bnd]
   rw [get_tab (i := fo A i + p - 1) k1 rfl]
   simp only [some_bnd]
   rw [get_row (k := fo B j + q - 1) k2 rfl, gp]
   simp only [some_bnd]
   rw [gq]
   simp only [some_bnd]
   rw [set_tab, set_tab, hp, add_k (k := q) (by omega)]
  rw [decide_eq_true hb, if_pos rfl, at_k h1 (by omega), at_k h3 (by omega), la_get c1, la_get c2]
  simp only [some_bnd]
  rw [(alone_same _ _ z1 z2 rfl rfl).1]
  simp only [some_bnd]
  cases hs : snB (lone v) (lone w) with
  | true => exact j72 0 (by rw [gc, hs]; rfl)
  | false => exact j72 1 (by rw [gc, hs]; rfl)
 ·have hp : putD A B i j h p q = h := by rw [putD, if_neg fun h => hb h.2.2]
  have d1 := ha (fo A i + p - 1) (fo B j + q - 1) (by omega) a1 (by omega) b1 hb
  have hD : Dd A B (fo A i + p - 1) (fo B j + q - 1) ≤ 4000 := by
   rw [Dd_eq c1 c2]
   have := Ed_le gc [v] [w]
   rw [nzL_one, nzL_one] at this
   have := (po_sub c1).1; have := (po_sub c2).1; omega
  rw [decide_eq_false hb, at_k h1 (by omega), at_k h3 (by omega), hp]
  simp only [Bool.false_eq_true, if_false]
  rw [fa_get k1, fa_get k2]
  simp only [some_bnd]
  rw [subN a3 (by omega), subN b3 (by omega), get_tab (i := fo A (fo A i + p - 1) - fo A i) (by omega) rfl]
  simp only [some_bnd]
  rw [get_row (k := fo B (fo B j + q - 1) - fo B j) (by omega) rfl, get_tab (i := fo A i + p - 1) k1 rfl, f4]
  simp only [some_bnd]
  rw [get_row (k := fo B j + q - 1) k2 rfl, d1]
  simp only [some_bnd]
  rw [m2, addN (by omega), min_eq, ← c4, gp]
  simp only [some_bnd]
  rw [gq]
  simp only [some_bnd]
  rw [set_tab, add_k (k := q) (by omega)]
theorem forest_eq (sA : A.sz ≤ 1048576) (sB : B.sz ≤ 1048576) (nA : nz A ≤ 900) (nB : nz B ≤ 900) (hi : i < nz A) (hj : j < nz B) (h : Nat → Nat → Int) (ha : Asks A B i j h) :
  ∃ h1, spec_l18Forest ((po A).map lone) (fsts 0 (po A)) ((po B).map lone) (fsts 0 (po B)) (i : Int) (j : Int) (tab (nz A) (nz B) h) = some (tab (nz A) (nz B) h1) ∧ Keeps A B h h1 ∧ Gives A B i j h1 := by
 obtain ⟨N, hN⟩ := po_get hi
 obtain ⟨M, hM⟩ := po_get hj
 have eN := fo_eq hN
 have eM := fo_eq hM
 have sN := (po_sub hN).1
 have sM := (po_sub hM).1
 have pN := nz_pos N
 have pM := nz_pos M
 have a1 : addI (subI (i : Int) ((fo A i : Nat) : Int)) 2 = ((nz N + 1 : Nat) : Int) := by
  rw [subN (by omega) (by omega), addI_eq (by omega) (by omega)]; omega
 have a2 : addI (subI (j : Int) ((fo B j : Nat) : Int)) 2 = ((nz M + 1 : Nat) : Int) := by
  rw [subN (by omega) (by omega), addI_eq (by omega) (by omega)]; omega
 have col : ∀ (d p : Nat) (f : Nat → Nat → Int), nz N + 1 - p = d → 1 ≤ p → p ≤ nz N + 1 → (∀ p', p' < p → f p' 0 = (p' : Int)) → ∃ f', spec_l18Forest_l10 ((po A).map lone) (fsts 0 (po A)) ((po B).map lone) (fsts 0 (po B)) (tab (nz A) (nz B) h) ((fo A i : Nat) : Int) ((fo B j : Nat) : Int) (tab (nz N + 1) (nz M + 1) f) (p : Int) =
   spec_l18Forest_l25 ((po A).map lone) (fsts 0 (po A)) ((po B).map lone) (fsts 0 (po B)) (tab (nz A) (nz B) h) ((fo A i : Nat) : Int) ((fo B j : Nat) : Int) (tab (nz N + 1) (nz M + 1) f') 1 ∧ ∀ p', p' ≤ nz N → f' p' 0 = (p' : Int) := by
  intro d
  induction d with
  | zero =>
   intro p f hd h1 h2 hf
   refine ⟨f, ?_, fun p' hp => hf p' (by omega)⟩
   rw [spec_l18Forest_l10, ltI_f (by simp only [lenL, tab_len]; omega)]; rfl
  | succ d ih =>
   intro p f hd h1 h2 hf
   obtain ⟨f', e1, e2⟩ := ih (p + 1) (upd f p 0 (p : Int)) (by omega) (by omega) (by omega) (fun p' hp => by
    unfold upd
    by_cases e : p' = p
    ·rw [if_pos ⟨e, rfl⟩, e]
    ·rw [if_neg (fun h => e h.1)]; exact hf p' (by omega))
   refine ⟨f', ?_, e2⟩
   rw [spec_l18Forest_l10, ltI_t (by simp only [lenL, tab_len]; omega), get_tab (i := p) (by omega) rfl]
   simp only [some_bnd, if_true]
   rw [get_row (k := 0) (j := 0) (by omega) rfl, add_k (by omega)]
   simp only [some_bnd]
   have st : ((tab (nz N + 1) (nz M + 1) f).set (Int.toNat (p : Int)) ((rowT (nz M + 1) f p).set (Int.toNat 0) (p : Int))) = tab (nz N + 1) (nz M + 1) (upd f p 0 (p : Int)) := set_tab (k := 0)
   rw [st]
   exact e1
 have row : ∀ (d q : Nat) (f : Nat → Nat → Int), nz M + 1 - q = d → 1 ≤ q → q ≤ nz M + 1 → (∀ p', p' ≤ nz N → f p' 0 = (p' : Int)) → (∀ q', q' < q → f 0 q' = (q' : Int)) → ∃ f', spec_l18Forest_l25 ((po A).map lone) (fsts 0 (po A)) ((po B).map lone) (fsts 0 (po B)) (tab (nz A) (nz B) h) ((fo A i : Nat) : Int) ((fo B j : Nat) : Int) (tab (nz N + 1) (nz M + 1) f) (q : Int) =
   spec_l18Forest_l39 ((po A).map lone) (fsts 0 (po A)) ((po B).map lone) (fsts 0 (po B)) (tab (nz A) (nz B) h) ((fo A i : Nat) : Int) ((fo B j : Nat) : Int) (tab (nz N + 1) (nz M + 1) f') 1 ∧ (∀ p', p' ≤ nz N → f' p' 0 = (p' : Int)) ∧ ∀ q', q' ≤ nz M → f' 0 q' = (q' : Int) := by
  intro d
  induction d with
  | zero =>
   intro q f hd h1 h2 hf hr
   refine ⟨f, ?_, hf, fun q' hq => hr q' (by omega)⟩
   rw [spec_l18Forest_l25, get_tab (i := 0) (j := 0) (by omega) rfl]
   simp only [some_bnd]
   rw [ltI_f (by simp only [lenL, row_len]; omega)]; rfl
  | succ d ih =>
   intro q f hd h1 h2 hf hr
   obtain ⟨f', e1, e2, e3⟩ := ih (q + 1) (upd f 0 q (q : Int)) (by omega) (by omega) (by omega) (fun p' hp => by
    unfold upd
    rw [if_neg (by omega)]; exact hf p' hp) (fun q' hq => by
    unfold upd
    by_cases e : q' = q
    ·rw [if_pos ⟨rfl, e⟩, e]
    ·rw [if_neg (fun h => e h.2)]; exact hr q' (by omega))
   refine ⟨f', ?_, e2, e3⟩
   rw [spec_l18Forest_l25, get_tab (i := 0) (j := 0) (by omega) rfl]
   simp only [some_bnd]
   rw [ltI_t (by simp only [lenL, row_len]; omega), get_row (k := q) (by omega) rfl, add_k (by omega)]
   simp only [some_bnd, if_true]
   have st : ((tab (nz N + 1) (nz M + 1) f).set (Int.toNat 0) ((rowT (nz M + 1) f 0).set (Int.toNat (q : Int)) (q : Int))) = tab (nz N + 1) (nz M + 1) (upd f 0 q (q : Int)) := set_tab (i := 0)
   rw [st]
   exact e1
 rw [spec_l18Forest, fa_get hi, fa_get hj]
 simp only [some_bnd]
 rw [a1, a2, grid_eq (nz N + 1) (nz M + 1) (by omega) (by omega)]
 simp only [some_bnd]
 obtain ⟨f1, e1, e2⟩ := col (nz N) 1 (fun _ _ => 0) (by omega) (Nat.le_refl _) (by omega) (fun p' hp => by rw [show p' = 0 by omega]; rfl)
 obtain ⟨f2, e3, e4, e5⟩ := row (nz M) 1 f1 (by omega) (Nat.le_refl _) (by omega) e2 (fun q' hq => by rw [show q' = 0 by omega]; exact e2 0 (Nat.zero_le _))
 refine (pass (σ := Unit) hN hM 1 1 (by omega) (by omega)
  (fun _ f h p q => spec_l18Forest_l51 ((po A).map lone) (fsts 0 (po A)) ((po B).map lone) (fsts 0 (po B)) (tab (nz A) (nz B) h) ((fo A i : Nat) : Int) ((fo B j : Nat) : Int) (tab (nz N + 1) (nz M + 1) f) (p : Int) (q : Int))
  (fun f h p => spec_l18Forest_l39 ((po A).map lone) (fsts 0 (po A)) ((po B).map lone) (fsts 0 (po B)) (tab (nz A) (nz B) h) ((fo A i : Nat) : Int) ((fo B j : Nat) : Int) (tab (nz N + 1) (nz M + 1) f) (p : Int))
  (fun h => some (tab (nz A) (nz B) h)) ?_ ?_ ?_ ?_ f2 h ?_ ha).imp fun h1 e => ⟨(e1.trans e3).trans e.1, e.2⟩
 ·intro _ f h p q h1 h2 h3 h4 hf ha
  exact forest_step sA sB (by omega) (by omega) hN hM h1 h2 h3 h4 hf ha
 ·intro _ f h p h1 h2
  show spec_l18Forest_l51 _ _ _ _ _ _ _ _ _ _ = spec_l18Forest_l39 _ _ _ _ _ _ _ _ _
  rw [spec_l18Forest_l51, get_tab (i := 0) (j := 0) (by omega) rfl]
  simp only [some_bnd]
  rw [ltI_f (by simp only [lenL, row_len]; omega), add_k (k := p) (by omega)]; rfl
 ·intro f h p h1 h2
  refine ⟨(), ?_⟩
  show spec_l18Forest_l39 _ _ _ _ _ _ _ _ _ = spec_l18Forest_l51 _ _ _ _ _ _ _ _ _ _
  rw [spec_l18Forest_l39, ltI_t (by simp only [lenL, tab_len]; omega)]; rfl
 ·intro f h
  show spec_l18Forest_l39 _ _ _ _ _ _ _ _ _ = _
  rw [spec_l18Forest_l39, ltI_f (by simp only [lenL, tab_len]; omega)]; rfl
 ·intro p' q' hp hq e
  rcases Nat.eq_zero_or_pos p' with h0 | h0
  ·subst h0; rw [e5 q' hq, Wd_zero N M hq]
  ·rcases Nat.eq_zero_or_pos q' with h1 | h1
   ·subst h1; rw [e4 p' hp, Wd_zero' N M hp]
   ·omega
end
end TT
namespace TT
open Go
def DoneS (A B : GNode) (S : Nat → Nat → Prop) (h : Nat → Nat → Int) : Prop := ∀ a b, a < nz A → b < nz B → (∃ x y, x ∈ KL A ∧ y ∈ KL B ∧ fo A x = fo A a ∧ a ≤ x ∧ fo B y = fo B b ∧ b ≤ y ∧ S x y) → h a b = (Dd A B a b : Nat)
theorem DoneS.mono {A B : GNode} {S S' : Nat → Nat → Prop} {h : Nat → Nat → Int} (d : DoneS A B S h) (hs : ∀ x y, x ∈ KL A → y ∈ KL B → S' x y → S x y) : DoneS A B S' h := by
 intro a b h1 h2 h3
 obtain ⟨x, y, k1, k2, k3, k4, k5, k6, k7⟩ := h3
 exact d a b h1 h2 ⟨x, y, k1, k2, k3, k4, k5, k6, hs x y k1 k2 k7⟩
theorem mem_left {l P Q : List Nat} {i x : Nat} (h : l = P ++ i :: Q) (hp : l.Pairwise (· < ·)) (hx : x ∈ l) (hi : x < i) : x ∈ P := by
 subst h
 rcases List.mem_append.1 hx with h1 | h1
 ·exact h1
 ·rcases List.mem_cons.1 h1 with h2 | h2
  ·omega
  ·have := (List.pairwise_cons.1 (List.pairwise_append.1 hp).2.1).1 x h2
   omega
theorem asksS {A B : GNode} {PA RA PB RB : List Nat} {i j : Nat} (hA : KL A = PA ++ i :: RA) (hB : KL B = PB ++ j :: RB) {h : Nat → Nat → Int} (d : DoneS A B (fun x y => x ∈ PA ∨ x = i ∧ y ∈ PB) h) : Asks A B i j h := by
 have iK : i ∈ KL A := by rw [hA]; simp
 have jK : j ∈ KL B := by rw [hB]; simp
 have iA := (KL_mem.1 iK).1
 have jB := (KL_mem.1 jK).1
 intro a b h1 h2 h3 h4 h5
 obtain ⟨x, x1, x2, x3⟩ := key_of (A := A) (nz A) a (by omega) (by omega)
 obtain ⟨y, y1, y2, y3⟩ := key_of (A := B) (nz B) b (by omega) (by omega)
 refine d a b (by omega) (by omega) ⟨x, y, x1, y1, x2, x3, y2, y3, ?_⟩
 by_cases e : fo A a = fo A i
 ·have ex := key_one x1 iK (x2.trans e)
  have e2 : fo B b ≠ fo B j := fun h => h5 ⟨e, h⟩
  exact .inr ⟨ex, mem_left hB (KL_lt B) y1 (fo_lam jB (KL_mem.1 y1).1 h3 h4 y2 y3 e2)⟩
 ·exact .inl (mem_left hA (KL_lt A) x1 (fo_lam iA (KL_mem.1 x1).1 h1 h2 x2 x3 e))
theorem nextS {A B : GNode} {PA PB : List Nat} {i j : Nat} {h h1 : Nat → Nat → Int} (d : DoneS A B (fun x y => x ∈ PA ∨ x = i ∧ y ∈ PB) h) (k : Keeps A B h h1) (g : Gives A B i j h1) : DoneS A B (fun x y => x ∈ PA ∨ x = i ∧ y ∈ PB ++ [j]) h1 := by
 intro a b h2 h3 h4
 obtain ⟨x, y, k1, k2, k3, k4, k5, k6, k7⟩ := h4
 have old : (x ∈ PA ∨ x = i ∧ y ∈ PB) → h1 a b = (Dd A B a b : Nat) := by
  intro hS
  rcases k a b with e | e
  ·rw [e]; exact d a b h2 h3 ⟨x, y, k1, k2, k3, k4, k5, k6, hS⟩
  ·exact e
 rcases k7 with k7 | k7
 ·exact old (.inl k7)
 ·rcases List.mem_append.1 k7.2 with k8 | k8
  ·exact old (.inr ⟨k7.1, k8⟩)
  ·have ey : y = j := by simpa using k8
   have ex := k7.1
   subst ex; subst ey
   exact g a b (by rw [k3]; exact fo_le h2) k4 (by rw [k5]; exact fo_le h3) k6 ⟨k3.symm, k5.symm⟩
theorem KL_len (A : GNode) : (KL A).length ≤ nz A := by
 have := List.length_filter_le (keyB A) (List.range' 0 (nz A))
 rw [List.length_range'] at this
 exact this
theorem spec_gap {A B : GNode} (sA : A.sz ≤ 1048576) (sB : B.sz ≤ 1048576) : spec_Gap A B = if 12 < nz A ∨ 12 < nz B then some (-1) else some ((Ed gc [A] [B] : Nat) : Int) := by
 rw [spec_Gap, spec_nz A sA, spec_nz B sB]
 simp only [some_bnd]
 by_cases hA : 12 < nz A
 ·rw [gtI_t (by omega), if_pos (show 12 < nz A ∨ 12 < nz B from .inl hA)]; rfl
 by_cases hB : 12 < nz B
 ·rw [gtI_f (by omega), gtI_t (by omega), if_pos (show 12 < nz A ∨ 12 < nz B from .inr hB)]; rfl
 rw [gtI_f (by omega), gtI_f (by omega), if_neg (show ¬ (12 < nz A ∨ 12 < nz B) by omega)]
 simp only [Bool.false_eq_true, if_false]
 have p1 := spec_post A sA 0 (by omega)
 have p2 := spec_post B sB 0 (by omega)
 have lA : lenL ((po A).map lone) = ((nz A : Nat) : Int) := by simp only [lenL, List.length_map, po_len]
 have lB : lenL ((po B).map lone) = ((nz B : Nat) : Int) := by simp only [lenL, List.length_map, po_len]
 have pA := nz_pos A
 have pB := nz_pos B
 have p1' : spec_l18Post A 0 = some ((po A).map lone, fsts 0 (po A)) := p1
 have p2' : spec_l18Post B 0 = some ((po B).map lone, fsts 0 (po B)) := p2
 rw [p1', p2']
 simp only [some_bnd]
 rw [lA, lB, grid_eq (nz A) (nz B) (by omega) (by omega)]
 simp only [some_bnd]
 rw [keys_eq A (by omega), keys_eq B (by omega)]
 simp only [some_bnd]
 generalize h5 : (KL A).map (fun (k : Nat) => (k : Int)) = r5
 generalize h6 : (KL B).map (fun (k : Nat) => (k : Int)) = r6
 have l5 : lenL r5 = (((KL A).length : Nat) : Int) := by rw [← h5]; simp only [lenL, List.length_map]
 have l6 : lenL r6 = (((KL B).length : Nat) : Int) := by rw [← h6]; simp only [lenL, List.length_map]
 have zA := KL_len A
 have zB := KL_len B
 have cols : ∀ (RB PB PA RA : List Nat) (i : Nat) (h : Nat → Nat → Int), KL A = PA ++ i :: RA → KL B = PB ++ RB → DoneS A B (fun x y => x ∈ PA ∨ x = i ∧ y ∈ PB) h →
   ∃ h1, spec_Gap_l36 ((po A).map lone, fsts 0 (po A)) ((po B).map lone, fsts 0 (po B)) (tab (nz A) (nz B) h) r5 r6 ((PA.length : Nat) : Int) ((PB.length : Nat) : Int) = spec_Gap_l24 ((po A).map lone, fsts 0 (po A)) ((po B).map lone, fsts 0 (po B)) (tab (nz A) (nz B) h1) r5 r6 ((PA.length + 1 : Nat) : Int) ∧ DoneS A B (fun x y => x ∈ PA ∨ x = i ∧ y ∈ KL B) h1 := by
  intro RB
  induction RB with
  | nil =>
   intro PB PA RA i h hKA hKB hD
   rw [List.append_nil] at hKB
   have e1 : PA.length + 1 ≤ (KL A).length := by rw [hKA, List.length_append, List.length_cons]; omega
   refine ⟨h, ?_, by rw [hKB]; exact hD⟩
   rw [spec_Gap_l36, l6, hKB, ltI_f (by omega), add_k (k := PA.length) (by omega)]; rfl
  | cons j RB ih =>
   intro PB PA RA i h hKA hKB hD
   have e1 : PA.length + 1 ≤ (KL A).length := by rw [hKA, List.length_append, List.length_cons]; omega
   have e2 : PB.length + 1 ≤ (KL B).length := by rw [hKB, List.length_append, List.length_cons]; omega
   have iA : i < nz A := (KL_mem.1 (by rw [hKA]; simp)).1
   have jB : j < nz B := (KL_mem.1 (by rw [hKB]; simp)).1
   have g5 : getI r5 ((PA.length : Nat) : Int) = some (i : Int) := getI_natT rfl (by rw [← h5, hKA]; simp)
   have g6 : getI r6 ((PB.length : Nat) : Int) = some (j : Int) := getI_natT rfl (by rw [← h6, hKB]; simp)
   obtain ⟨h1, f1, f2, f3⟩ := forest_eq sA sB (by omega) (by omega) iA jB h (asksS hKA hKB hD)
   obtain ⟨h2, f4, f5⟩ := ih (PB ++ [j]) PA RA i h1 hKA (by rw [hKB, List.append_assoc]; rfl) (nextS hD f2 f3)
   refine ⟨h2, ?_, f5⟩
   have sm : sameL (tab (nz A) (nz B) h1) (tab (nz A) (nz B) h) = some () := by rw [sameL, tab_len, tab_len, if_pos rfl]
   rw [spec_Gap_l36, l6, ltI_t (by omega), g5, g6, add_k (k := PB.length) (by omega)]
   simp only [some_bnd, if_true]
   rw [f1]
   simp only [some_bnd]
   rw [sm]
   simp only [some_bnd]
   rw [List.length_append] at f4
   exact f4
 have rows : ∀ (RA PA : List Nat) (h : Nat → Nat → Int), KL A = PA ++ RA → DoneS A B (fun x y => x ∈ PA) h → spec_Gap_l24 ((po A).map lone, fsts 0 (po A)) ((po B).map lone, fsts 0 (po B)) (tab (nz A) (nz B) h) r5 r6 ((PA.length : Nat) : Int) = some ((Ed gc [A] [B] : Nat) : Int) := by
  intro RA
  induction RA with
  | nil =>
   intro PA h hKA hD
   rw [List.append_nil] at hKA
   obtain ⟨x, x1, x2, x3⟩ := key_of (A := A) (nz A) (nz A - 1) (by omega) (by omega)
   obtain ⟨y, y1, y2, y3⟩ := key_of (A := B) (nz B) (nz B - 1) (by omega) (by omega)
   have hd := hD (nz A - 1) (nz B - 1) (by omega) (by omega) ⟨x, y, x1, y1, x2, x3, y2, y3, by rw [← hKA]; exact x1⟩
   rw [spec_Gap_l24, l5, hKA, ltI_f (by omega)]
   simp only [Bool.false_eq_true, if_false]
   rw [lA, lB, pred_k pA (by omega), pred_k pB (by omega), get_tab (i := nz A - 1) (by omega) rfl]
   simp only [some_bnd]
   rw [get_row (k := nz B - 1) (by omega) rfl, hd, Dd_eq (po_last A) (po_last B)]
   rfl
  | cons i RA ih =>
   intro PA h hKA hD
   have e1 : PA.length + 1 ≤ (KL A).length := by rw [hKA, List.length_append, List.length_cons]; omega
   obtain ⟨h1, f1, f2⟩ := cols (KL B) [] PA RA i h hKA rfl (hD.mono fun x y _ _ hS => by
    rcases hS with hS | hS
    ·exact hS
    ·cases hS.2)
   have f3 := ih (PA ++ [i]) h1 (by rw [hKA, List.append_assoc]; rfl) (f2.mono fun x y _ hy hS => by
    rcases List.mem_append.1 hS with hS | hS
    ·exact .inl hS
    ·exact .inr ⟨by simpa using hS, hy⟩)
   rw [List.length_append] at f3
   rw [spec_Gap_l24, l5, ltI_t (by omega)]
   simp only [if_true]
   exact f1.trans f3
 exact rows (KL A) [] _ rfl fun a b _ _ h => by obtain ⟨_, _, _, _, _, _, _, _, k⟩ := h; cases k
end TT
