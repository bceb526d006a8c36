import Derived.Test.YtdpdfjkjlkmjaaaTP4Walk
set_option linter.unusedVariables false
set_option linter.unusedSimpArgs false
namespace TT
open Go
theorem alone_same (a b : GNode) (ha : a.sz ≤ 1048576) (hb : b.sz ≤ 1048576) (ka : a.Kids = []) (kb : b.Kids = []) : spec_SameNode a b = some (snB a b) ∧ impl_sameAlone a b = some (snB a b) := by
 suffices h : ∃ r, spec_SameNode a b = some r ∧ impl_sameAlone a b = some r by
  obtain ⟨r, h1, h2⟩ := h
  have e : snB a b = r := by rw [snB, h1]; rfl
  rw [e]; exact ⟨h1, h2⟩
 have hza := GNode.sz_eq a
 have hzb := GNode.sz_eq b
 have hd : a.Decls.length ≤ maxLen := by rw [maxLen_eq]; omega
 have hA : a.Attrs.length ≤ maxLen := by rw [maxLen_eq]; omega
 have hk : spec_SameNode_l56 0 a b = some true := by
  rw [spec_SameNode_l56, ka]
  rw [ltI_f (by simp [lenL])]; rfl
 rw [spec_SameNode, impl_sameAlone]
 simp only [neI_eq, neS_eq]
 by_cases e1 : eqI a.Kind b.Kind = true
 case neg => simp [e1]
 by_cases e2 : eqS a.Pre b.Pre = true
 case neg => simp [e1, e2]
 by_cases e3 : eqS a.Local b.Local = true
 case neg => simp [e1, e2, e3]
 by_cases e4 : eqS a.Uri b.Uri = true
 case neg => simp [e1, e2, e3, e4]
 by_cases e5 : eqS a.Text b.Text = true
 case neg => simp [e1, e2, e3, e4, e5]
 simp only [e1, e2, e3, e4, e5, Bool.not_true, Bool.false_eq_true, if_false, if_true]
 have fl : ∀ {α β : Type} {x : List α} {y : List β}, x.length ≠ y.length → eqI (lenL x) (lenL y) = false := by
  intro α β x y h; simp only [eqI, lenL, beq_eq_false_iff_ne, ne_eq]; omega
 have tl : ∀ {α β : Type} {x : List α} {y : List β}, x.length = y.length → eqI (lenL x) (lenL y) = true := by
  intro α β x y h; simp only [eqI, lenL, beq_iff_eq]; omega
 by_cases l1 : a.Decls.length = b.Decls.length
 case neg => simp [slices_Equal_Decl_ne _ _ l1, fl l1]
 by_cases l2 : a.Attrs.length = b.Attrs.length
 case neg =>
  simp only [slices_Equal_Decl_eq _ _ hd l1, slices_Equal_Attr_ne _ _ l2, tl l1, fl l2]
  cases all2 _ a.Decls b.Decls <;> simp
 simp only [slices_Equal_Decl_eq _ _ hd l1, slices_Equal_Attr_eq _ _ hA l2, tl l1, tl l2]
 have h1 := all2_same (fun i => spec_SameNode_l14 i a b) a.Decls b.Decls (fun x y => some (eqS x.Pre y.Pre && eqS x.Uri y.Uri)) _ (spec_SameNode_l35 0 a b) (some false) (fun i => by rw [spec_SameNode_l14]; rfl) hd l1 (fun _ _ _ _ => rfl)
 have h2 := all2_same (fun i => spec_SameNode_l35 i a b) a.Attrs b.Attrs (fun x y => some (eqS x.Pre y.Pre && (eqS x.Local y.Local && (eqS x.Uri y.Uri && eqS x.Val y.Val)))) _ (spec_SameNode_l56 0 a b) (some false) (fun i => by rw [spec_SameNode_l35]; rfl) hA l2 (fun _ _ _ _ => rfl)
 simp only [ka, kb, tl (show ([] : List GNode).length = ([] : List GNode).length from rfl), Bool.not_true, Bool.false_eq_true, if_false]
 rw [h1, h2, hk]
 cases all2 _ a.Decls b.Decls <;> cases all2 _ a.Attrs b.Attrs <;> simp
theorem minI_nat (a b : Nat) : minI (a : Int) (b : Int) = ((min a b : Nat) : Int) := by unfold minI; split <;> omega
theorem addN {a b : Nat} (h : a + b ≤ 4000000) : addI (a : Int) (b : Int) = ((a + b : Nat) : Int) := by rw [addI_eq (by omega) (by omega)]; omega
theorem subN {a b : Nat} (h : b ≤ a) (ha : a ≤ 4000000) : subI (a : Int) (b : Int) = ((a - b : Nat) : Int) := by rw [subI_eq (by omega) (by omega)]; omega
theorem pred_k {k : Nat} (h0 : 0 < k) (h : k ≤ 4000000) : subI (k : Int) 1 = ((k - 1 : Nat) : Int) := by rw [subI_eq (by omega) (by omega)]; omega
theorem at_k {x p : Nat} (h0 : 0 < p) (h : x + p ≤ 4000000) : subI (addI (x : Int) (p : Int)) 1 = ((x + p - 1 : Nat) : Int) := by rw [addN h, pred_k (by omega) h]
theorem fa_get {A : GNode} {i : Nat} (h : i < nz A) : getI (fsts 0 (po A)) (i : Int) = some ((fo A i : Nat) : Int) := by
 obtain ⟨v, hv⟩ := po_get h
 refine getI_natT rfl ?_
 rw [fsts_get, hv, fo_eq hv, Nat.zero_add]; rfl
theorem la_get {A v : GNode} {i : Nat} (h : (po A)[i]? = some v) : getI ((po A).map lone) (i : Int) = some (lone v) := getI_natT rfl (by rw [List.getElem?_map, h]; rfl)
theorem la_sz {A v : GNode} {i : Nat} (h : (po A)[i]? = some v) (hs : A.sz ≤ 1048576) : (lone v).sz ≤ 1048576 := by
 have := po_sz A v (List.mem_of_getElem? h); have := lone_sz v; omega
def gA (A B : GNode) (h : Nat → Nat → Int) : Ggaps := Ggaps.mk (Grow.mk ((po A).map lone) (fsts 0 (po A))) (Grow.mk ((po B).map lone) (fsts 0 (po B))) (tab (nz A) (nz B) h)
section
variable {A B N M : GNode} {i j : Nat}
theorem least_eq (sA : A.sz ≤ 1048576) (sB : B.sz ≤ 1048576) (nA : nz A ≤ 1000) (nB : nz B ≤ 1000) (hN : (po A)[i]? = some N) (hM : (po B)[j]? = some M) {p0 q0 p q : Nat} (h1 : 0 < p) (h2 : p ≤ nz N) (h3 : 0 < q) (h4 : q ≤ nz M) {f h : Nat → Nat → Int} (hf : Fil N M p0 q0 p q f) (ha : Asks A B i j h) :
  impl_gaps_least (gA A B h) (tab (nz N + 1) (nz M + 1) f) ((fo A i : Nat) : Int) ((fo B j : Nat) : Int) (p : Int) (q : Int) = some (((Wd N M p q : Nat) : Int), gA A B (putD A B i j h p q)) := by
 obtain ⟨v, w, c1, c2, c3, c4⟩ := cell hN hM h1 h2 h3 h4
 obtain ⟨_, _, _, a1, a2, a3, a4, _⟩ := side hN h1 h2
 obtain ⟨_, _, _, b1, b2, b3, b4, _⟩ := side hM h3 h4
 have w1 := Wd_le N M (p := p - 1) (q := q) (by omega) h4
 have w2 := Wd_le N M (p := p) (q := q - 1) h2 (by omega)
 have w3 := Wd_le N M (p := p - 1) (q := q - 1) (by omega) (by omega)
 have w4 := Wd_le N M (p := p) (q := q) h2 h4
 have w5 := Wd_le N M (p := fo A (fo A i + p - 1) - fo A i) (q := fo B (fo B j + q - 1) - fo B j) (by omega) (by omega)
 have zN : nz N ≤ 1000 := by have := (po_sub hN).1; omega
 have zM : nz M ≤ 1000 := by have := (po_sub hM).1; omega
 have f1 := hf (p - 1) q (by omega) h4 (by omega)
 have f2 := hf p (q - 1) h2 (by omega) (by omega)
 have f3 := hf (p - 1) (q - 1) (by omega) (by omega) (by omega)
 have f4 := hf (fo A (fo A i + p - 1) - fo A i) (fo B (fo B j + q - 1) - fo B j) (by omega) (by omega) (by omega)
 have k1 : fo A i + p - 1 < nz A := by omega
 have k2 : fo B j + q - 1 < nz B := by omega
 have z1 := la_sz c1 sA
 have z2 := la_sz c2 sB
 have m1 : minI ((Wd N M (p - 1) q : Nat) : Int) ((Wd N M p (q - 1) : Nat) : Int) = ((min (Wd N M (p - 1) q) (Wd N M p (q - 1)) : Nat) : Int) := minI_nat _ _
 have m2 : addI ((min (Wd N M (p - 1) q) (Wd N M p (q - 1)) : Nat) : Int) 1 = ((min (Wd N M (p - 1) q) (Wd N M p (q - 1)) + 1 : Nat) : Int) := add_k (by omega)
 have e1 : impl_gaps_least (gA A B h) (tab (nz N + 1) (nz M + 1) f) ((fo A i : Nat) : Int) ((fo B j : Nat) : Int) (p : Int) (q : Int) = impl_gaps_least_j7 (tab (nz N + 1) (nz M + 1) f) ((fo A i : Nat) : Int) ((fo B j : Nat) : Int) (p : Int) (q : Int) ((Wd N M (p - 1) q : Nat) : Int) ((Wd N M p (q - 1) : Nat) : Int) (decide (both A B i j (fo A i + p - 1) (fo B j + q - 1))) (gA A B h) := by
  rw [impl_gaps_least, pred_k h1 (by omega), pred_k h3 (by omega), at_k h1 (by omega), at_k h3 (by omega), get_tab (i := p - 1) (by omega) rfl, get_tab (i := p) (by omega) rfl]
  simp only [some_bnd]
  rw [get_row (k := q) (by omega) rfl, get_row (k := q - 1) (by omega) rfl, f1, f2]
  simp only [some_bnd, gA]
  rw [fa_get k1, fa_get k2]
  simp only [some_bnd]
  by_cases e : fo A (fo A i + p - 1) = fo A i
  ·rw [eqI_t (by rw [e]), if_pos rfl]
   congr 1
   by_cases e2 : fo B (fo B j + q - 1) = fo B j
   ·rw [eqI_t (by rw [e2]), decide_eq_true ⟨e, e2⟩]
   ·rw [eqI_f (by omega), decide_eq_false fun h => e2 h.2]
  ·rw [eqI_f (by omega), decide_eq_false fun h => e h.1]; rfl
 rw [e1, impl_gaps_least_j7]
 by_cases hb : both A B i j (fo A i + p - 1) (fo B j + q - 1)
 ·obtain ⟨c5, c6⟩ := c3 hb
  have hp : putD A B i j h p q = upd h (fo A i + p - 1) (fo B j + q - 1) ((Wd N M p q : Nat) : Int) := by rw [putD, if_pos ⟨h1, h3, hb⟩, c6]
  have j12 : ∀ t : Nat, t = gc v w → impl_gaps_least_j12 (tab (nz N + 1) (nz M + 1) f) (p : Int) (q : Int) ((fo A i : Nat) : Int) ((fo B j : Nat) : Int) ((Wd N M (p - 1) q : Nat) : Int) ((Wd N M p (q - 1) : Nat) : Int) (t : Int) (gA A B h) = some (((Wd N M p q : Nat) : Int), gA A B (upd h (fo A i + p - 1) (fo B j + q - 1) ((Wd N M p q : Nat) : Int))) := by
   intro t ht
   have ht1 : t ≤ 1 := by rw [ht, gc]; split <;> omega
   rw [impl_gaps_least_j12, pred_k h1 (by omega), pred_k h3 (by omega), at_k h1 (by omega), at_k h3 (by omega), get_tab (i := p - 1) (by omega) rfl]
   simp only [some_bnd]
   rw [get_row (k := q - 1) (by omega) rfl, f3]
   simp only [some_bnd, gA]
   rw [get_tab (i := fo A i + p - 1) k1 rfl]
   simp only [some_bnd]
   rw [get_row (k := fo B j + q - 1) k2 rfl]
   simp only [some_bnd]
   rw [m1, m2, addN (by omega), minI_nat, ht, ← c5, set_tab]
  rw [decide_eq_true hb, if_pos rfl, at_k h1 (by omega), at_k h3 (by omega), hp]
  simp only [gA]
  rw [la_get c1, la_get c2]
  simp only [some_bnd]
  rw [(alone_same _ _ z1 z2 rfl rfl).2]
  simp only [some_bnd]
  cases hs : snB (lone v) (lone w) with
  | true => exact j12 0 (by rw [gc, hs]; rfl)
  | false => exact j12 1 (by rw [gc, hs]; rfl)
 ·have hp : putD A B i j h p q = h := by rw [putD, if_neg fun h => hb h.2.2]
  have d1 := ha (fo A i + p - 1) (fo B j + q - 1) (by omega) a1 (by omega) b1 hb
  rw [decide_eq_false hb, at_k h1 (by omega), at_k h3 (by omega), hp]
  simp only [gA, Bool.false_eq_true, if_false]
  rw [fa_get k1, fa_get k2]
  simp only [some_bnd]
  rw [subN a3 (by omega), subN b3 (by omega), get_tab (i := fo A (fo A i + p - 1) - fo A i) (by omega) rfl]
  simp only [some_bnd]
  rw [get_row (k := fo B (fo B j + q - 1) - fo B j) (by omega) rfl, get_tab (i := fo A i + p - 1) k1 rfl, f4]
  simp only [some_bnd]
  rw [get_row (k := fo B j + q - 1) k2 rfl, d1]
  simp only [some_bnd]
  have hD : Dd A B (fo A i + p - 1) (fo B j + q - 1) ≤ 4000 := by
   rw [Dd_eq c1 c2]
   have := Ed_le gc [v] [w]
   rw [nzL_one, nzL_one] at this
   have := (po_sub c1).1; have := (po_sub c2).1; omega
  rw [m1, m2, addN (by omega), minI_nat, ← c4]
end
end TT
namespace TT
open Go
theorem po_last (A : GNode) : (po A)[nz A - 1]? = some A := by
 rw [po_eq, List.getElem?_append_right (by rw [poL_len, nz_eq]; omega), poL_len, nz_eq, show 1 + nzL A.Kids - 1 - nzL A.Kids = 0 by omega]; rfl
theorem tab_len (n m : Nat) (f : Nat → Nat → Int) : (tab n m f).length = n := by rw [tab, List.length_map, List.length_range]
theorem row_len (m : Nat) (f : Nat → Nat → Int) (i : Nat) : (rowT m f i).length = m := by rw [rowT, List.length_map, List.length_range]
theorem putD_0 {A B : GNode} {i j : Nat} {h : Nat → Nat → Int} {q : Nat} : putD A B i j h 0 q = h := by rw [putD, if_neg fun e => by omega]
theorem putD_0' {A B : GNode} {i j : Nat} {h : Nat → Nat → Int} {p : Nat} : putD A B i j h p 0 = h := by rw [putD, if_neg fun e => by omega]
section
variable {A B N M : GNode} {i j : Nat}
theorem count_eq (sA : A.sz ≤ 1048576) (sB : B.sz ≤ 1048576) (nA : nz A ≤ 1000) (nB : nz B ≤ 1000) (hi : i < nz A) (hj : j < nz B) (h : Nat → Nat → Int) (ha : Asks A B i j h) :
  ∃ h1, impl_gaps_count (gA A B h) (i : Int) (j : Int) = some (gA A B h1) ∧ Keeps A B h h1 ∧ Gives A B i j h1 := by
 obtain ⟨N, hN⟩ := po_get hi
 obtain ⟨M, hM⟩ := po_get hj
 have eN := fo_eq hN
 have eM := fo_eq hM
 have sN := (po_sub hN).1
 have sM := (po_sub hM).1
 have pN := nz_pos N
 have pM := nz_pos M
 have a1 : addI (subI (i : Int) ((fo A i : Nat) : Int)) 2 = ((nz N + 1 : Nat) : Int) := by
  rw [subN (by omega) (by omega), addI_eq (by omega) (by omega)]; omega
 have a2 : addI (subI (j : Int) ((fo B j : Nat) : Int)) 2 = ((nz M + 1 : Nat) : Int) := by
  rw [subN (by omega) (by omega), addI_eq (by omega) (by omega)]; omega
 have m1 : mkN ((nz N + 1 : Nat) : Int) 24 = some (nz N + 1) := mkN_eq (by unfold LIM; omega) (by omega)
 have m2 : mkN ((nz M + 1 : Nat) : Int) 8 = some (nz M + 1) := mkN_eq (by unfold LIM; omega) (by omega)
 rw [impl_gaps_count]
 have g1 : (gA A B h).xa.xfirst = fsts 0 (po A) := rfl
 have g2 : (gA A B h).xb.xfirst = fsts 0 (po B) := rfl
 rw [g1, g2, fa_get hi, fa_get hj]
 simp only [some_bnd]
 rw [a1, m1]
 simp only [some_bnd]
 have fill : ∀ (d t : Nat), nz N + 1 - t = d → t ≤ nz N + 1 → impl_gaps_count_l8 (j : Int) ((fo A i : Nat) : Int) ((fo B j : Nat) : Int) (List.replicate t (List.replicate (nz M + 1) 0) ++ List.replicate (nz N + 1 - t) []) (nz N + 1) (t : Int) (gA A B h) =
   impl_gaps_count_l24 ((fo A i : Nat) : Int) ((fo B j : Nat) : Int) (tab (nz N + 1) (nz M + 1) fun _ _ => 0) (tab (nz N + 1) (nz M + 1) fun _ _ => 0) 0 (gA A B h) := by
  intro d
  induction d with
  | zero =>
   intro t hd ht
   have : t = nz N + 1 := by omega
   subst this
   rw [impl_gaps_count_l8, ltI_f (by omega), Nat.sub_self, tab_zero]
   simp only [Bool.false_eq_true, if_false, List.replicate_zero, List.append_nil]
  | succ d ih =>
   intro t hd ht
   have e := ih (t + 1) (by omega) (by omega)
   rw [impl_gaps_count_l8, ltI_t (by omega), a2, m2]
   simp only [if_true, some_bnd]
   have l : t = (List.replicate t (List.replicate (nz M + 1) (0 : Int))).length := by rw [List.length_replicate]
   have f1 : getI (List.replicate t (List.replicate (nz M + 1) (0 : Int)) ++ List.replicate (nz N + 1 - t) []) (t : Int) = some [] := by
    have := fill_at (z := ([] : List Int)) (pre := List.replicate t (List.replicate (nz M + 1) (0 : Int))) (m := nz N - t)
    rw [← l, show nz N - t + 1 = nz N + 1 - t by omega] at this
    exact this
   have f2 : (List.replicate t (List.replicate (nz M + 1) (0 : Int)) ++ List.replicate (nz N + 1 - t) []).set (Int.toNat (t : Int)) (List.replicate (nz M + 1) (0 : Int)) = List.replicate (t + 1) (List.replicate (nz M + 1) (0 : Int)) ++ List.replicate (nz N + 1 - (t + 1)) [] := by
    have := fill_set (z := ([] : List Int)) (x := List.replicate (nz M + 1) (0 : Int)) (pre := List.replicate t (List.replicate (nz M + 1) (0 : Int))) (m := nz N - t)
    rw [← l, show nz N - t + 1 = nz N + 1 - t by omega] at this
    rw [this, show List.replicate (t + 1) (List.replicate (nz M + 1) (0 : Int)) = List.replicate t (List.replicate (nz M + 1) 0) ++ [List.replicate (nz M + 1) 0] from List.replicate_succ', show nz N + 1 - (t + 1) = nz N - t by omega]
   rw [f1]
   simp only [some_bnd]
   rw [f2, add_k (by omega)]
   exact e
 have f0 := fill (nz N + 1) 0 rfl (by omega)
 rw [List.replicate_zero, List.nil_append, Nat.sub_zero] at f0
 refine (pass (σ := {l : List Int // l.length = nz M + 1}) hN hM 0 0 (by omega) (by omega)
  (fun s f h p q => impl_gaps_count_l38 ((fo A i : Nat) : Int) ((fo B j : Nat) : Int) (tab (nz N + 1) (nz M + 1) f) (p : Int) (tab (nz N + 1) (nz M + 1) fun _ _ => 0) s.1 (q : Int) (gA A B h))
  (fun f h p => impl_gaps_count_l24 ((fo A i : Nat) : Int) ((fo B j : Nat) : Int) (tab (nz N + 1) (nz M + 1) f) (tab (nz N + 1) (nz M + 1) fun _ _ => 0) (p : Int) (gA A B h))
  (fun h => some (gA A B h)) ?_ ?_ ?_ ?_ (fun _ _ => 0) h (fun p' q' _ _ e => by omega) ha).imp fun h1 e => ⟨f0.trans e.1, e.2⟩
 ·intro s f h p q _ h2 _ h4 hf ha
  have hl : ltI (q : Int) (lenL s.1) = true := ltI_t (by simp only [lenL, s.2]; omega)
  have gp : getI (tab (nz N + 1) (nz M + 1) f) (p : Int) = some (rowT (nz M + 1) f p) := get_tab (by omega) rfl
  have gq : getI (rowT (nz M + 1) f p) (q : Int) = some (f p q) := get_row (by omega) rfl
  show impl_gaps_count_l38 _ _ _ _ _ _ _ _ = impl_gaps_count_l38 _ _ _ _ _ _ _ _
  rw [impl_gaps_count_l38, hl, gp, add_k (k := q) (by omega)]
  simp only [if_true, some_bnd]
  rw [gq]
  simp only [some_bnd]
  rcases Nat.eq_zero_or_pos p with hp | hp
  ·subst hp
   rw [if_pos (eqI_t (show ((0 : Nat) : Int) = 0 from rfl)), putD_0, Wd_zero N M h4, set_tab]
  ·rw [eqI_f (by omega)]
   simp only [Bool.false_eq_true, if_false]
   rcases Nat.eq_zero_or_pos q with hq | hq
   ·subst hq
    rw [if_pos (eqI_t (show ((0 : Nat) : Int) = 0 from rfl)), putD_0', Wd_zero' N M h2, set_tab]
   ·rw [eqI_f (by omega), least_eq sA sB nA nB hN hM hp h2 hq h4 hf ha]
    simp only [Bool.false_eq_true, if_false, some_bnd]
    rw [set_tab]
 ·intro s f h p _ h2
  show impl_gaps_count_l38 _ _ _ _ _ _ _ _ = impl_gaps_count_l24 _ _ _ _ _ _
  rw [impl_gaps_count_l38, ltI_f (by simp only [lenL, s.2]; omega), add_k (k := p) (by omega)]; rfl
 ·intro f h p _ h2
  refine ⟨⟨rowT (nz M + 1) f p, row_len _ _ _⟩, ?_⟩
  show impl_gaps_count_l24 _ _ _ _ _ _ = impl_gaps_count_l38 _ _ _ _ _ _ _ _
  rw [impl_gaps_count_l24, ltI_t (by simp only [lenL, tab_len]; omega), get_tab (i := p) (by omega) rfl]; rfl
 ·intro f h
  show impl_gaps_count_l24 _ _ _ _ _ _ = _
  rw [impl_gaps_count_l24, ltI_f (by simp only [lenL, tab_len]; omega)]; rfl
end
def DoneG (A B : GNode) (i j : Nat) (h : Nat → Nat → Int) : Prop := ∀ a b, a < nz A → b < nz B → (a < i ∨ a = i ∧ b < j) → h a b = (Dd A B a b : Nat)
theorem DoneG.asks {A B : GNode} {i j : Nat} {h : Nat → Nat → Int} (d : DoneG A B i j h) (hi : i < nz A) (hj : j < nz B) : Asks A B i j h := by
 intro a b h1 h2 h3 h4 h5
 refine d a b (by omega) (by omega) ?_
 rcases Nat.lt_or_ge a i with e | e
 ·exact .inl e
 ·have ea : a = i := by omega
  rcases Nat.lt_or_ge b j with e2 | e2
  ·exact .inr ⟨ea, e2⟩
  ·have eb : b = j := by omega
   subst ea; subst eb
   exact absurd ⟨rfl, rfl⟩ h5
theorem DoneG.next {A B : GNode} {i j : Nat} {h h1 : Nat → Nat → Int} (d : DoneG A B i j h) (hi : i < nz A) (hj : j < nz B) (k : Keeps A B h h1) (g : Gives A B i j h1) : DoneG A B i (j + 1) h1 := by
 intro a b h2 h3 h4
 by_cases e : a = i ∧ b = j
 ·rw [e.1, e.2]
  exact g i j (fo_le hi) (Nat.le_refl _) (fo_le hj) (Nat.le_refl _) ⟨rfl, rfl⟩
 ·rcases k a b with e2 | e2
  ·rw [e2]
   refine d a b h2 h3 ?_
   rcases h4 with h4 | h4
   ·exact .inl h4
   ·exact .inr ⟨h4.1, by have := h4.2; have : b ≠ j := fun hb => e ⟨h4.1, hb⟩; omega⟩
  ·exact e2
theorem impl_gap {A B : GNode} (sA : A.sz ≤ 1048576) (sB : B.sz ≤ 1048576) : impl_Gap A B = if 12 < nz A ∨ 12 < nz B then some (-1) else some ((Ed gc [A] [B] : Nat) : Int) := by
 rw [impl_Gap, impl_nz A sA, impl_nz B sB]
 simp only [some_bnd]
 by_cases hA : 12 < nz A
 ·rw [gtI_t (by omega), if_pos (show 12 < nz A ∨ 12 < nz B from .inl hA)]; rfl
 by_cases hB : 12 < nz B
 ·rw [gtI_f (by omega), gtI_t (by omega), if_pos (show 12 < nz A ∨ 12 < nz B from .inr hB)]; rfl
 rw [gtI_f (by omega), gtI_f (by omega), if_neg (show ¬ (12 < nz A ∨ 12 < nz B) by omega)]
 simp only [Bool.false_eq_true, if_false]
 have nA : nz A ≤ 1000 := by omega
 have nB : nz B ≤ 1000 := by omega
 rw [put_top _ _ A sA nA]
 simp only [some_bnd]
 have b2 := put_b (Grow.mk ((po A).map lone) (fsts 0 (po A))) [] B sB [] [] (by simpa using nB) rfl
 simp only [List.nil_append, List.length_nil] at b2
 rw [b2]
 simp only [some_bnd]
 have lA : lenL ((po A).map lone) = ((nz A : Nat) : Int) := by simp only [lenL, List.length_map, po_len]
 have lB : lenL ((po B).map lone) = ((nz B : Nat) : Int) := by simp only [lenL, List.length_map, po_len]
 generalize hr : Ggaps.mk (Grow.mk ((po A).map lone) (fsts 0 (po A))) (Grow.mk ((po B).map lone) (fsts 0 (po B))) [] = r3
 have rA : lenL r3.xa.xnodes = ((nz A : Nat) : Int) := by rw [← hr]; exact lA
 have rB : lenL r3.xb.xnodes = ((nz B : Nat) : Int) := by rw [← hr]; exact lB
 have gB : ∀ h, lenL (gA A B h).xb.xnodes = ((nz B : Nat) : Int) := fun h => lB
 have gAA : ∀ h, lenL (gA A B h).xa.xnodes = ((nz A : Nat) : Int) := fun h => lA
 have pA := nz_pos A
 have pB := nz_pos B
 have cols : ∀ (d i j : Nat), nz B - j = d → i < nz A → j ≤ nz B → ∀ h h4, DoneG A B i j h → ∃ h1, impl_Gap_l49 (i : Int) r3 (gA A B h4) (j : Int) (gA A B h) = impl_Gap_l35 r3 ((i + 1 : Nat) : Int) (gA A B h1) ∧ DoneG A B (i + 1) 0 h1 := by
  intro d
  induction d with
  | zero =>
   intro i j hd hi hj h h4 hD
   have : j = nz B := by omega
   subst this
   refine ⟨h, ?_, fun a b h1 h2 h3 => hD a b h1 h2 (by omega)⟩
   rw [impl_Gap_l49, gB, ltI_f (by omega), add_k (k := i) (by omega)]; rfl
  | succ d ih =>
   intro i j hd hi hj h h4 hD
   obtain ⟨h1, e1, e2, e3⟩ := count_eq sA sB nA nB hi (show j < nz B by omega) h (hD.asks hi (by omega))
   obtain ⟨h2, e4, e5⟩ := ih i (j + 1) (by omega) hi (by omega) h1 h4 (hD.next hi (by omega) e2 e3)
   refine ⟨h2, ?_, e5⟩
   rw [impl_Gap_l49, gB, ltI_t (by omega), e1, add_k (k := j) (by omega)]
   simp only [if_true, some_bnd]
   exact e4
 have rows : ∀ (d i : Nat), nz A - i = d → i ≤ nz A → ∀ h, DoneG A B i 0 h → impl_Gap_l35 r3 (i : Int) (gA A B h) = some ((Ed gc [A] [B] : Nat) : Int) := by
  intro d
  induction d with
  | zero =>
   intro i hd hi h hD
   have : i = nz A := by omega
   subst this
   rw [impl_Gap_l35, rA, ltI_f (by omega), gAA, gB, pred_k pA (by omega), pred_k pB (by omega)]
   simp only [Bool.false_eq_true, if_false]
   have t : (gA A B h).xtree = tab (nz A) (nz B) h := rfl
   rw [t, get_tab (i := nz A - 1) (by omega) rfl]
   simp only [some_bnd]
   rw [get_row (k := nz B - 1) (by omega) rfl, hD _ _ (by omega) (by omega) (.inl (by omega)), Dd_eq (po_last A) (po_last B)]
   rfl
  | succ d ih =>
   intro i hd hi h hD
   obtain ⟨h1, e1, e2⟩ := cols (nz B) i 0 rfl (by omega) (Nat.zero_le _) h h hD
   rw [impl_Gap_l35, rA, ltI_t (by omega)]
   simp only [if_true]
   exact e1.trans (ih (i + 1) (by omega) (by omega) h1 e2)
 have mB : mkN ((nz B : Nat) : Int) 8 = some (nz B) := mkN_eq (by unfold LIM; omega) (by omega)
 have grid : ∀ (d t : Nat), nz A - t = d → t ≤ nz A → impl_Gap_l20 r3 (t : Int) (List.replicate t (List.replicate (nz B) 0)) = impl_Gap_l35 r3 0 (gA A B fun _ _ => 0) := by
  intro d
  induction d with
  | zero =>
   intro t hd ht
   have : t = nz A := by omega
   subst this
   rw [impl_Gap_l20, rA, ltI_f (by omega), gA, tab_zero, ← hr]; rfl
  | succ d ih =>
   intro t hd ht
   rw [impl_Gap_l20, rA, rB, ltI_t (by omega), mB, add_k (by omega)]
   simp only [if_true, some_bnd]
   rw [room_ok (by rw [List.length_replicate]; omega) (by omega) (by omega)]
   simp only [some_bnd]
   rw [← List.replicate_succ']
   exact ih (t + 1) (by omega) (by omega)
 have g0 := grid (nz A) 0 rfl (Nat.zero_le _)
 exact g0.trans (rows (nz A) 0 rfl (Nat.zero_le _) _ fun a b h1 h2 h3 => by omega)
end TT
