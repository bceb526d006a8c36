import Derived.Test.YtabghncdppfllaaTP00
import Derived.Test.YtabghncdppfllaaTP1
set_option linter.unusedVariables false
set_option linter.unusedSimpArgs false
namespace TT
open Go

/-! ### Alike nodes -/
theorem slices_Equal_Decl_eq (a b : List GDecl) (h : a.length ≤ maxLen) (hl : a.length = b.length) : slices_Equal_Decl a b = some (all2 (fun x y => eqS x.Pre y.Pre && eqS x.Uri y.Uri) a b) := by
  rw [slices_Equal_Decl, neI_len' hl]
  have h1 := all2_same (fun i => slices_Equal_Decl_l14 a b i) a b (fun x y => some (eqS x.Pre y.Pre && eqS x.Uri y.Uri)) _ (some true) (some false) (fun i => by rw [slices_Equal_Decl_l14]; rfl) h hl (fun _ _ _ _ => rfl)
  simp only [Bool.false_eq_true, if_false]
  rw [h1]; cases all2 _ a b <;> rfl
theorem slices_Equal_Decl_ne (a b : List GDecl) (hl : a.length ≠ b.length) : slices_Equal_Decl a b = some false := by
  rw [slices_Equal_Decl, neI_len hl]; rfl
theorem slices_Equal_Attr_eq (a b : List GAttr) (h : a.length ≤ maxLen) (hl : a.length = b.length) : slices_Equal_Attr a b = some (all2 (fun x y => (eqS x.Pre y.Pre && (eqS x.Local y.Local && (eqS x.Uri y.Uri && eqS x.Val y.Val)))) a b) := by
  rw [slices_Equal_Attr, neI_len' hl]
  have h1 := all2_same (fun i => slices_Equal_Attr_l14 a b i) a b (fun x y => some (eqS x.Pre y.Pre && (eqS x.Local y.Local && (eqS x.Uri y.Uri && eqS x.Val y.Val)))) _ (some true) (some false) (fun i => by rw [slices_Equal_Attr_l14]; rfl) h hl (fun _ _ _ _ => rfl)
  simp only [Bool.false_eq_true, if_false]
  rw [h1]; cases all2 _ a b <;> rfl
theorem slices_Equal_Attr_ne (a b : List GAttr) (hl : a.length ≠ b.length) : slices_Equal_Attr a b = some false := by
  rw [slices_Equal_Attr, neI_len hl]; rfl
def snB (a b : GNode) : Bool := (spec_SameNode a b).getD false
theorem same_node_ex : ∀ a : GNode, a.ok → ∀ b : GNode, b.ok → ∃ r, spec_SameNode a b = some r ∧ impl_SameNode a b = some r := by
  refine GNode.ind' fun a ih ha b hb => ?_
  obtain ⟨_, _, _, _, hd, hA, hk, _⟩ := (GNode.ok_iff a).1 ha
  obtain ⟨_, _, _, _, _, _, hk', _⟩ := (GNode.ok_iff b).1 hb
  have hs : ∀ x ∈ a.Kids, ∀ y ∈ b.Kids, spec_SameNode x y = some (snB x y) := by
    intro x hx y hy
    obtain ⟨r, h, _⟩ := ih x hx (hk.2 x hx) y (hk'.2 y hy)
    rw [snB, h]; rfl
  have hi : ∀ x ∈ a.Kids, ∀ y ∈ b.Kids, impl_SameNode x y = some (snB x y) := by
    intro x hx y hy
    obtain ⟨r, h, h2⟩ := ih x hx (hk.2 x hx) y (hk'.2 y hy)
    rw [snB, h, h2]; rfl
  rw [spec_SameNode, impl_SameNode, impl_sameAlone]
  simp only [neI_eq, neS_eq]
  by_cases e1 : eqI a.Kind b.Kind = true
  case neg => simp [e1]
  by_cases e2 : eqS a.Pre b.Pre = true
  case neg => simp [e1, e2]
  by_cases e3 : eqS a.Local b.Local = true
  case neg => simp [e1, e2, e3]
  by_cases e4 : eqS a.Uri b.Uri = true
  case neg => simp [e1, e2, e3, e4]
  by_cases e5 : eqS a.Text b.Text = true
  case neg => simp [e1, e2, e3, e4, e5]
  simp only [e1, e2, e3, e4, e5, Bool.not_true, Bool.false_eq_true, if_false, if_true]
  have fl : ∀ {α β : Type} {x : List α} {y : List β}, x.length ≠ y.length → eqI (lenL x) (lenL y) = false := by
    intro α β x y h; simp only [eqI, lenL, beq_eq_false_iff_ne, ne_eq]; omega
  have tl : ∀ {α β : Type} {x : List α} {y : List β}, x.length = y.length → eqI (lenL x) (lenL y) = true := by
    intro α β x y h; simp only [eqI, lenL, beq_iff_eq]; omega
  by_cases l1 : a.Decls.length = b.Decls.length
  case neg => simp [slices_Equal_Decl_ne _ _ l1, fl l1]
  by_cases l2 : a.Attrs.length = b.Attrs.length
  case neg =>
    simp only [slices_Equal_Decl_eq _ _ hd.1 l1, slices_Equal_Attr_ne _ _ l2, tl l1, fl l2]
    cases all2 _ a.Decls b.Decls <;> simp
  simp only [slices_Equal_Decl_eq _ _ hd.1 l1, slices_Equal_Attr_eq _ _ hA.1 l2, tl l1, tl l2]
  by_cases l3 : a.Kids.length = b.Kids.length
  case neg =>
    simp only [slices_EqualFunc_Node_SameNode, neI_len l3, fl l3]
    cases all2 _ a.Decls b.Decls <;> cases all2 _ a.Attrs b.Attrs <;> simp
  simp only [slices_EqualFunc_Node_SameNode, neI_len' l3, tl l3]
  have h1 := all2_same (fun i => spec_SameNode_l14 i a b) a.Decls b.Decls (fun x y => some (eqS x.Pre y.Pre && eqS x.Uri y.Uri)) _ (spec_SameNode_l35 0 a b) (some false) (fun i => by rw [spec_SameNode_l14]; rfl) hd.1 l1 (fun _ _ _ _ => rfl)
  have h2 := all2_same (fun i => spec_SameNode_l35 i a b) a.Attrs b.Attrs (fun x y => some (eqS x.Pre y.Pre && (eqS x.Local y.Local && (eqS x.Uri y.Uri && eqS x.Val y.Val)))) _ (spec_SameNode_l56 0 a b) (some false) (fun i => by rw [spec_SameNode_l35]; rfl) hA.1 l2 (fun _ _ _ _ => rfl)
  have h3 := all2_same (fun i => spec_SameNode_l56 i a b) a.Kids b.Kids spec_SameNode snB (some true) (some false) (fun i => by rw [spec_SameNode_l56]) hk.1 l3 hs
  have h4 := all2_same (fun i => slices_EqualFunc_Node_SameNode_l14 b.Kids a.Kids i) a.Kids b.Kids impl_SameNode snB (some true) (some false) (fun i => by rw [slices_EqualFunc_Node_SameNode_l14]) hk.1 l3 hi
  simp only [Bool.not_true, Bool.false_eq_true, if_false]
  rw [h1, h2, h3, h4]
  cases all2 _ a.Decls b.Decls <;> cases all2 _ a.Attrs b.Attrs <;> cases all2 _ a.Kids b.Kids <;> simp
theorem spec_node (a b : GNode) (ha : a.ok) (hb : b.ok) : spec_SameNode a b = some (snB a b) := by
  obtain ⟨r, h, _⟩ := same_node_ex a ha b hb
  rw [snB, h]; rfl
theorem impl_node (a b : GNode) (ha : a.ok) (hb : b.ok) : impl_SameNode a b = some (snB a b) := by
  obtain ⟨r, h, h2⟩ := same_node_ex a ha b hb
  rw [snB, h, h2]; rfl

/-! ### The longest common part -/
def lcs {α : Type} (p : α → α → Bool) : List α → List α → Nat
  | [], _ => 0
  | x :: xs, ys => go x xs (lcs p xs) ys
where
  go (x : α) (xs : List α) (f : List α → Nat) : List α → Nat
    | [] => 0
    | y :: ys => if p x y then f ys + 1 else max (f (y :: ys)) (go x xs f ys)
section
variable {α : Type} (p : α → α → Bool)
theorem lcs_cons (x y : α) (xs ys : List α) : lcs p (x :: xs) (y :: ys) = if p x y then lcs p xs ys + 1 else max (lcs p xs (y :: ys)) (lcs p (x :: xs) ys) := rfl
theorem lcs_nil (xs : List α) : lcs p xs [] = 0 := by cases xs <;> rfl
theorem lcs_nil' (ys : List α) : lcs p [] ys = 0 := rfl
/-- One element more on one side changes the length by one at most. -/
theorem lcs_step : ∀ (xs ys : List α), (∀ x, lcs p xs ys ≤ lcs p (x :: xs) ys ∧ lcs p (x :: xs) ys ≤ lcs p xs ys + 1) ∧ (∀ y, lcs p xs ys ≤ lcs p xs (y :: ys) ∧ lcs p xs (y :: ys) ≤ lcs p xs ys + 1) := by
  intro xs
  induction xs with
  | nil =>
    intro ys
    constructor
    · intro x
      induction ys with
      | nil => simp [lcs_nil, lcs_nil']
      | cons y ys ih => rw [lcs_cons]; simp only [lcs_nil'] at *; split <;> omega
    · intro y; simp [lcs_nil']
  | cons x xs ihx =>
    intro ys
    induction ys with
    | nil =>
      constructor
      · intro z; simp [lcs_nil]
      · intro y
        rw [lcs_cons]
        have := (ihx []).2 y
        simp only [lcs_nil] at *
        split <;> omega
    | cons y ys ihy =>
      constructor
      · intro z
        have h1 := (ihx ys).1 x
        have h2 := (ihx ys).2 y
        have h3 := (ihx (y :: ys)).1 x
        have h4 := ihy.1 z
        have h5 := ihy.2 y
        rw [lcs_cons p z y]
        split <;> omega
      · intro z
        have h1 := (ihx ys).1 x
        have h2 := (ihx ys).2 y
        have h3 := (ihx (y :: ys)).1 x
        have h4 := (ihx (y :: ys)).2 z
        have h5 := ihy.2 y
        rw [lcs_cons p x z]
        split <;> omega
theorem lcs_le : ∀ (xs ys : List α), lcs p xs ys ≤ xs.length := by
  intro xs
  induction xs with
  | nil => intro ys; simp [lcs_nil']
  | cons x xs ih => intro ys; have h1 := ((lcs_step p xs ys).1 x).2; have := ih ys; simp only [List.length_cons]; omega
end

/-! ### Tables -/
def rowT (m : Nat) (f : Nat → Nat → Int) (i : Nat) : List Int := (List.range m).map (f i)
def tab (n m : Nat) (f : Nat → Nat → Int) : List (List Int) := (List.range n).map (rowT m f)
def upd (f : Nat → Nat → Int) (i k : Nat) (v : Int) : Nat → Nat → Int := fun a b => if a = i ∧ b = k then v else f a b
theorem getI_nat {α : Type} {l : List α} {i : Nat} {j : Int} (hj : j = i) {x : α} (h : l[i]? = some x) : getI l j = some x := by
  subst hj; unfold getI; rw [if_pos (by omega)]; simpa using h
theorem get_tab {n m : Nat} {f : Nat → Nat → Int} {i : Nat} (h : i < n) {j : Int} (hj : j = i) : getI (tab n m f) j = some (rowT m f i) :=
  getI_nat hj (by rw [tab, List.getElem?_map, List.getElem?_range h]; rfl)
theorem get_row {m : Nat} {f : Nat → Nat → Int} {i k : Nat} (h : k < m) {j : Int} (hj : j = k) : getI (rowT m f i) j = some (f i k) :=
  getI_nat hj (by rw [rowT, List.getElem?_map, List.getElem?_range h]; rfl)
theorem set_tab {n m : Nat} {f : Nat → Nat → Int} {i k : Nat} {v : Int} : (tab n m f).set (Int.toNat (i : Int)) ((rowT m f i).set (Int.toNat (k : Int)) v) = tab n m (upd f i k v) := by
  apply List.ext_getElem?
  intro a
  simp only [Int.toNat_natCast]
  rw [List.getElem?_set, tab, tab, List.length_map, List.length_range, List.getElem?_map]
  by_cases e : i = a
  · subst e
    rw [if_pos rfl]
    by_cases h : i < n
    · rw [if_pos h, List.getElem?_map, List.getElem?_range h]
      show some _ = some _
      congr 1
      apply List.ext_getElem?
      intro b
      rw [List.getElem?_set, rowT, rowT, List.length_map, List.length_range, List.getElem?_map]
      by_cases e : k = b
      · subst e
        rw [if_pos rfl]
        by_cases h : k < m
        · rw [if_pos h, List.getElem?_map, List.getElem?_range h]; simp [upd]
        · rw [if_neg h, List.getElem?_map, List.getElem?_eq_none (by simp; omega)]; rfl
      · rw [if_neg e, List.getElem?_map]
        by_cases h : b < m
        · rw [List.getElem?_range h]; have e' : ¬ b = k := fun h => e h.symm; simp [upd, e']
        · rw [List.getElem?_eq_none (by simp; omega)]; rfl
    · rw [if_neg h, List.getElem?_map, List.getElem?_eq_none (by simp; omega)]; rfl
  · rw [if_neg e, List.getElem?_map]
    by_cases h : a < n
    · rw [List.getElem?_range h]
      show some _ = some _
      congr 1
      apply List.map_congr_left
      intro b _
      have e' : ¬ a = i := fun h => e h.symm
      simp [upd, e']
    · rw [List.getElem?_eq_none (by simp; omega)]; rfl
theorem tab_congr {n m : Nat} {f g : Nat → Nat → Int} (h : ∀ i k, i < n → k < m → f i k = g i k) : tab n m f = tab n m g := by
  apply List.map_congr_left
  intro i hi
  apply List.map_congr_left
  intro k hk
  exact h i k (by simpa using hi) (by simpa using hk)
theorem tab_zero (n m : Nat) : tab n m (fun _ _ => 0) = List.replicate n (List.replicate m 0) := by
  simp only [tab, rowT]
  rw [List.eq_replicate_iff]
  constructor
  · simp
  · intro b hb
    obtain ⟨i, _, h⟩ := List.mem_map.1 hb
    rw [← h]
    show (List.range m).map (fun _ => (0 : Int)) = _
    rw [List.map_const', List.length_range]

/-- A table that is filled from its last cell backwards. -/
theorem fill_table {ρ : Type} (n m : Nat) (c : Nat → Nat → Int) (F52 : List (List Int) → Int → Int → Option ρ) (F40 : List (List Int) → Int → Option ρ) (fin : List (List Int) → Option ρ)
    (cn : ∀ k, c n k = 0) (cm : ∀ i, c i m = 0)
    (h52 : ∀ f i k, i < n → k < m → f (i + 1) k = c (i + 1) k → f i (k + 1) = c i (k + 1) → f (i + 1) (k + 1) = c (i + 1) (k + 1) →
      F52 (tab (n + 1) (m + 1) f) i k = F52 (tab (n + 1) (m + 1) (upd f i k (c i k))) i (k - 1))
    (h52e : ∀ t (i : Nat), i < n → F52 t i (-1) = F40 t (i - 1))
    (h40 : ∀ t (i : Nat), i < n → F40 t i = F52 t i (m - 1))
    (h40e : ∀ t, F40 t (-1) = fin t) :
    F40 (tab (n + 1) (m + 1) (fun _ _ => 0)) (n - 1) = fin (tab (n + 1) (m + 1) c) := by
  have key : ∀ i : Nat, i ≤ n → ∀ f : Nat → Nat → Int, (∀ a, f a m = 0) → (∀ a b, i ≤ a → a ≤ n → b ≤ m → f a b = c a b) → F40 (tab (n + 1) (m + 1) f) ((i : Int) - 1) = fin (tab (n + 1) (m + 1) c) := by
    intro i
    induction i with
    | zero =>
      intro _ f hm hf
      have e : ((0 : Nat) : Int) - 1 = -1 := rfl
      rw [e, h40e, tab_congr fun a b h1 h2 => hf a b (by omega) (by omega) (by omega)]
    | succ i ih =>
      intro hi f hm hf
      have e : ((i + 1 : Nat) : Int) - 1 = (i : Nat) := by omega
      rw [e, h40 _ i (by omega)]
      have row : ∀ k : Nat, k ≤ m → ∀ f : Nat → Nat → Int, (∀ a, f a m = 0) → (∀ a b, i + 1 ≤ a → a ≤ n → b ≤ m → f a b = c a b) → (∀ b, k ≤ b → b ≤ m → f i b = c i b) → F52 (tab (n + 1) (m + 1) f) i ((k : Int) - 1) = fin (tab (n + 1) (m + 1) c) := by
        intro k
        induction k with
        | zero =>
          intro _ f hm hf hr
          have e : ((0 : Nat) : Int) - 1 = -1 := rfl
          rw [e, h52e _ i (by omega)]
          refine ih (by omega) f hm fun a b h1 h2 h3 => ?_
          by_cases e : a = i
          · subst e; exact hr b (by omega) h3
          · exact hf a b (by omega) h2 h3
        | succ k ihk =>
          intro hk f hm hf hr
          have e : ((k + 1 : Nat) : Int) - 1 = (k : Nat) := by omega
          rw [e, h52 f i k (by omega) (by omega) (hf _ _ (by omega) (by omega) (by omega)) (hr _ (by omega) (by omega)) (hf _ _ (by omega) (by omega) (by omega))]
          refine ihk (by omega) _ (fun a => ?_) (fun a b h1 h2 h3 => ?_) (fun b h1 h2 => ?_)
          · rw [upd, if_neg (by omega)]; exact hm a
          · rw [upd, if_neg (by omega)]; exact hf a b h1 h2 h3
          · unfold upd
            by_cases e : b = k
            · rw [if_pos ⟨rfl, e⟩, e]
            · rw [if_neg (by omega)]; exact hr b (by omega) h2
      refine row m (Nat.le_refl m) f hm (fun a b h1 h2 h3 => hf a b h1 h2 h3) fun b h1 h2 => ?_
      have : b = m := by omega
      rw [this, hm, cm]
  refine key n (Nat.le_refl n) _ (fun _ => rfl) fun a b h1 h2 h3 => ?_
  have : a = n := by omega
  rw [this, cn]

/-- The table of the longest common parts. -/
def cel (a b : List GNode) (i k : Nat) : Int := (lcs snB (a.drop i) (b.drop k) : Nat)
theorem cel_n (a b : List GNode) (k : Nat) : cel a b a.length k = 0 := by simp [cel, lcs_nil']
theorem cel_m (a b : List GNode) (i : Nat) : cel a b i b.length = 0 := by simp [cel, lcs_nil]
theorem cel_le (a b : List GNode) (i k : Nat) : 0 ≤ cel a b i k ∧ cel a b i k ≤ a.length := by
  have := lcs_le snB (a.drop i) (b.drop k)
  simp only [cel, List.length_drop] at *
  omega
theorem drop_get {α : Type} {l : List α} {i : Nat} (h : i < l.length) : ∃ x, getI l (i : Int) = some x ∧ x ∈ l ∧ l.drop i = x :: l.drop (i + 1) :=
  ⟨l[i], getI_nat rfl (List.getElem?_eq_getElem h), List.getElem_mem h, List.drop_eq_getElem_cons h⟩
theorem cel_step {a b : List GNode} {i k : Nat} {x y : GNode} (hx : a.drop i = x :: a.drop (i + 1)) (hy : b.drop k = y :: b.drop (k + 1)) :
    cel a b i k = (if snB x y then cel a b (i + 1) (k + 1) + 1 else max (cel a b (i + 1) k) (cel a b i (k + 1))) ∧ cel a b (i + 1) k ≤ cel a b (i + 1) (k + 1) + 1 ∧ cel a b i (k + 1) ≤ cel a b (i + 1) (k + 1) + 1 := by
  have h1 := ((lcs_step snB (a.drop (i + 1)) (b.drop (k + 1))).1 x).2
  have h2 := ((lcs_step snB (a.drop (i + 1)) (b.drop (k + 1))).2 y).2
  simp only [cel, hx, hy]
  rw [lcs_cons]
  refine ⟨?_, by omega, by omega⟩
  split <;> omega
end TT
