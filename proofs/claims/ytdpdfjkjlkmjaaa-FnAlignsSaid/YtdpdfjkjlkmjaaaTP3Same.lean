import Derived.Test.YtdpdfjkjlkmjaaaTP3Cur
import Derived.Test.YtdpdfjkjlkmjaaaTP0
import Derived.Test.YtdpdfjkjlkmjaaaTP1
set_option linter.unusedVariables false
set_option linter.unusedSimpArgs false
namespace TT
open Go
theorem loop_is {α ρ : Type} (l : List α) (F : Int → Option ρ) (r : ρ) (hF : ∀ (k : Nat) x, l[k]? = some x → F ((k + 1 : Nat) : Int) = some r → F (k : Int) = some r) (h0 : F ((l.length : Nat) : Int) = some r) : F 0 = some r := by
 have key : ∀ (m k : Nat), k ≤ l.length → l.length ≤ k + m → F (k : Int) = some r := by
  intro m
  induction m with
  | zero => intro k h1 h2; rw [show k = l.length by omega]; exact h0
  | succ m ih =>
   intro k h1 h2
   by_cases e : k = l.length
   ·rw [e]; exact h0
   ·exact hF k _ (List.getElem?_eq_getElem (by omega)) (ih (k + 1) (by omega) (by omega))
 exact key l.length 0 (by omega) (by omega)
theorem equal_decls (l : List GDecl) (hl : l.length ≤ 4000000) : slices_Equal_Decl l l = some true := by
 rw [slices_Equal_Decl, neI_self]
 refine loop_is l (fun i => slices_Equal_Decl_l14 l l i) true (fun k x hx ih => ?_) ?_
 ·have := len_k hx
  show slices_Equal_Decl_l14 l l k = _
  rw [slices_Equal_Decl_l14, lt_k hx, getI_k hx, add_k (by omega)]
  simp only [if_true, some_bnd, eqS_self, Bool.and_self]
  exact ih
 ·show slices_Equal_Decl_l14 l l _ = _
  rw [slices_Equal_Decl_l14, end_k]; rfl
theorem equal_attrs (l : List GAttr) (hl : l.length ≤ 4000000) : slices_Equal_Attr l l = some true := by
 rw [slices_Equal_Attr, neI_self]
 refine loop_is l (fun i => slices_Equal_Attr_l14 l l i) true (fun k x hx ih => ?_) ?_
 ·have := len_k hx
  show slices_Equal_Attr_l14 l l k = _
  rw [slices_Equal_Attr_l14, lt_k hx, getI_k hx, add_k (by omega)]
  simp only [if_true, some_bnd, eqS_self, Bool.and_self]
  exact ih
 ·show slices_Equal_Attr_l14 l l _ = _
  rw [slices_Equal_Attr_l14, end_k]; rfl
theorem sameNode_self : ∀ n : GNode, n.sz ≤ 1048576 → impl_SameNode n n = some true := by
 refine GNode.ind' fun n ih hs => ?_
 rw [GNode.sz_eq] at hs
 have ha : impl_sameAlone n n = some true := by
  rw [impl_sameAlone, eqI_self, eqS_self, eqS_self, eqS_self, eqS_self, equal_decls _ (by omega), equal_attrs _ (by omega)]; rfl
 have hk : slices_EqualFunc_Node_SameNode n.Kids n.Kids = some true := by
  rw [slices_EqualFunc_Node_SameNode, neI_self]
  refine loop_is n.Kids (fun i => slices_EqualFunc_Node_SameNode_l14 n.Kids n.Kids i) true (fun k x hx h => ?_) ?_
  ·have := len_k hx
   have h2 := szs_mem GNode.sz (mem_k hx)
   show slices_EqualFunc_Node_SameNode_l14 n.Kids n.Kids k = _
   rw [slices_EqualFunc_Node_SameNode_l14, lt_k hx, getI_k hx, add_k (by omega)]
   simp only [if_true, some_bnd, ih x (mem_k hx) (by omega)]
   exact h
  ·show slices_EqualFunc_Node_SameNode_l14 n.Kids n.Kids _ = _
   rw [slices_EqualFunc_Node_SameNode_l14, end_k]; rfl
 rw [impl_SameNode, ha, some_bnd, hk]; rfl
end TT
namespace TT
open Go
theorem slices_Equal_Decl_eq (a b : List GDecl) (h : a.length ≤ maxLen) (hl : a.length = b.length) : slices_Equal_Decl a b = some (all2 (fun x y => eqS x.Pre y.Pre && eqS x.Uri y.Uri) a b) := by
 rw [slices_Equal_Decl, neI_len' hl]
 have h1 := all2_same (fun i => slices_Equal_Decl_l14 a b i) a b (fun x y => some (eqS x.Pre y.Pre && eqS x.Uri y.Uri)) _ (some true) (some false) (fun i => by rw [slices_Equal_Decl_l14]; rfl) h hl (fun _ _ _ _ => rfl)
 simp only [Bool.false_eq_true, if_false]
 rw [h1]; cases all2 _ a b <;> rfl
theorem slices_Equal_Decl_ne (a b : List GDecl) (hl : a.length ≠ b.length) : slices_Equal_Decl a b = some false := by
 rw [slices_Equal_Decl, neI_len hl]; rfl
theorem slices_Equal_Attr_eq (a b : List GAttr) (h : a.length ≤ maxLen) (hl : a.length = b.length) : slices_Equal_Attr a b = some (all2 (fun x y => (eqS x.Pre y.Pre && (eqS x.Local y.Local && (eqS x.Uri y.Uri && eqS x.Val y.Val)))) a b) := by
 rw [slices_Equal_Attr, neI_len' hl]
 have h1 := all2_same (fun i => slices_Equal_Attr_l14 a b i) a b (fun x y => some (eqS x.Pre y.Pre && (eqS x.Local y.Local && (eqS x.Uri y.Uri && eqS x.Val y.Val)))) _ (some true) (some false) (fun i => by rw [slices_Equal_Attr_l14]; rfl) h hl (fun _ _ _ _ => rfl)
 simp only [Bool.false_eq_true, if_false]
 rw [h1]; cases all2 _ a b <;> rfl
theorem slices_Equal_Attr_ne (a b : List GAttr) (hl : a.length ≠ b.length) : slices_Equal_Attr a b = some false := by
 rw [slices_Equal_Attr, neI_len hl]; rfl
def snB (a b : GNode) : Bool := (spec_SameNode a b).getD false
theorem same_node_ex : ∀ a : GNode, a.sz ≤ 1048576 → ∀ b : GNode, b.sz ≤ 1048576 → ∃ r, spec_SameNode a b = some r ∧ impl_SameNode a b = some r := by
 refine GNode.ind' fun a ih ha b hb => ?_
 have hza := GNode.sz_eq a
 have hzb := GNode.sz_eq b
 have hd : a.Decls.length ≤ maxLen ∧ True := ⟨by rw [maxLen_eq]; omega, trivial⟩
 have hA : a.Attrs.length ≤ maxLen ∧ True := ⟨by rw [maxLen_eq]; omega, trivial⟩
 have hk : a.Kids.length ≤ maxLen ∧ ∀ x ∈ a.Kids, x.sz ≤ 1048576 := ⟨by rw [maxLen_eq]; omega, fun x hx => by have := szs_mem GNode.sz hx; omega⟩
 have hk' : b.Kids.length ≤ maxLen ∧ ∀ x ∈ b.Kids, x.sz ≤ 1048576 := ⟨by rw [maxLen_eq]; omega, fun x hx => by have := szs_mem GNode.sz hx; omega⟩
 have hs : ∀ x ∈ a.Kids, ∀ y ∈ b.Kids, spec_SameNode x y = some (snB x y) := by
  intro x hx y hy
  obtain ⟨r, h, _⟩ := ih x hx (hk.2 x hx) y (hk'.2 y hy)
  rw [snB, h]; rfl
 have hi : ∀ x ∈ a.Kids, ∀ y ∈ b.Kids, impl_SameNode x y = some (snB x y) := by
  intro x hx y hy
  obtain ⟨r, h, h2⟩ := ih x hx (hk.2 x hx) y (hk'.2 y hy)
  rw [snB, h, h2]; rfl
 rw [spec_SameNode, impl_SameNode, impl_sameAlone]
 simp only [neI_eq, neS_eq]
 by_cases e1 : eqI a.Kind b.Kind = true
 case neg => simp [e1]
 by_cases e2 : eqS a.Pre b.Pre = true
 case neg => simp [e1, e2]
 by_cases e3 : eqS a.Local b.Local = true
 case neg => simp [e1, e2, e3]
 by_cases e4 : eqS a.Uri b.Uri = true
 case neg => simp [e1, e2, e3, e4]
 by_cases e5 : eqS a.Text b.Text = true
 case neg => simp [e1, e2, e3, e4, e5]
 simp only [e1, e2, e3, e4, e5, Bool.not_true, Bool.false_eq_true, if_false, if_true]
 have fl : ∀ {α β : Type} {x : List α} {y : List β}, x.length ≠ y.length → eqI (lenL x) (lenL y) = false := by
  intro α β x y h; simp only [eqI, lenL, beq_eq_false_iff_ne, ne_eq]; omega
 have tl : ∀ {α β : Type} {x : List α} {y : List β}, x.length = y.length → eqI (lenL x) (lenL y) = true := by
  intro α β x y h; simp only [eqI, lenL, beq_iff_eq]; omega
 by_cases l1 : a.Decls.length = b.Decls.length
 case neg => simp [slices_Equal_Decl_ne _ _ l1, fl l1]
 by_cases l2 : a.Attrs.length = b.Attrs.length
 case neg =>
  simp only [slices_Equal_Decl_eq _ _ hd.1 l1, slices_Equal_Attr_ne _ _ l2, tl l1, fl l2]
  cases all2 _ a.Decls b.Decls <;> simp
 simp only [slices_Equal_Decl_eq _ _ hd.1 l1, slices_Equal_Attr_eq _ _ hA.1 l2, tl l1, tl l2]
 by_cases l3 : a.Kids.length = b.Kids.length
 case neg =>
  simp only [slices_EqualFunc_Node_SameNode, neI_len l3, fl l3]
  cases all2 _ a.Decls b.Decls <;> cases all2 _ a.Attrs b.Attrs <;> simp
 simp only [slices_EqualFunc_Node_SameNode, neI_len' l3, tl l3]
 have h1 := all2_same (fun i => spec_SameNode_l14 i a b) a.Decls b.Decls (fun x y => some (eqS x.Pre y.Pre && eqS x.Uri y.Uri)) _ (spec_SameNode_l35 0 a b) (some false) (fun i => by rw [spec_SameNode_l14]; rfl) hd.1 l1 (fun _ _ _ _ => rfl)
 have h2 := all2_same (fun i => spec_SameNode_l35 i a b) a.Attrs b.Attrs (fun x y => some (eqS x.Pre y.Pre && (eqS x.Local y.Local && (eqS x.Uri y.Uri && eqS x.Val y.Val)))) _ (spec_SameNode_l56 0 a b) (some false) (fun i => by rw [spec_SameNode_l35]; rfl) hA.1 l2 (fun _ _ _ _ => rfl)
 have h3 := all2_same (fun i => spec_SameNode_l56 i a b) a.Kids b.Kids spec_SameNode snB (some true) (some false) (fun i => by rw [spec_SameNode_l56]) hk.1 l3 hs
 have h4 := all2_same (fun i => slices_EqualFunc_Node_SameNode_l14 b.Kids a.Kids i) a.Kids b.Kids impl_SameNode snB (some true) (some false) (fun i => by rw [slices_EqualFunc_Node_SameNode_l14]) hk.1 l3 hi
 simp only [Bool.not_true, Bool.false_eq_true, if_false]
 rw [h1, h2, h3, h4]
 cases all2 _ a.Decls b.Decls <;> cases all2 _ a.Attrs b.Attrs <;> cases all2 _ a.Kids b.Kids <;> simp
theorem spec_node (a b : GNode) (ha : a.sz ≤ 1048576) (hb : b.sz ≤ 1048576) : spec_SameNode a b = some (snB a b) := by
 obtain ⟨r, h, _⟩ := same_node_ex a ha b hb
 rw [snB, h]; rfl
theorem impl_node (a b : GNode) (ha : a.sz ≤ 1048576) (hb : b.sz ≤ 1048576) : impl_SameNode a b = some (snB a b) := by
 obtain ⟨r, h, h2⟩ := same_node_ex a ha b hb
 rw [snB, h, h2]; rfl
def lcs {α : Type} (p : α → α → Bool) : List α → List α → Nat
 | [], _ => 0
 | x :: xs, ys => go x xs (lcs p xs) ys
where
 go (x : α) (xs : List α) (f : List α → Nat) : List α → Nat
  | [] => 0
  | y :: ys => if p x y then f ys + 1 else max (f (y :: ys)) (go x xs f ys)
section
variable {α : Type} (p : α → α → Bool)
theorem lcs_cons (x y : α) (xs ys : List α) : lcs p (x :: xs) (y :: ys) = if p x y then lcs p xs ys + 1 else max (lcs p xs (y :: ys)) (lcs p (x :: xs) ys) := rfl
theorem lcs_nil (xs : List α) : lcs p xs [] = 0 := by cases xs <;> rfl
theorem lcs_nil' (ys : List α) : lcs p [] ys = 0 := rfl
theorem lcs_step : ∀ (xs ys : List α), (∀ x, lcs p xs ys ≤ lcs p (x :: xs) ys ∧ lcs p (x :: xs) ys ≤ lcs p xs ys + 1) ∧ (∀ y, lcs p xs ys ≤ lcs p xs (y :: ys) ∧ lcs p xs (y :: ys) ≤ lcs p xs ys + 1) := by
 intro xs
 induction xs with
 | nil =>
  intro ys
  constructor
  ·intro x
   induction ys with
   | nil => simp [lcs_nil, lcs_nil']
   | cons y ys ih => rw [lcs_cons]; simp only [lcs_nil'] at *; split <;> omega
  ·intro y; simp [lcs_nil']
 | cons x xs ihx =>
  intro ys
  induction ys with
  | nil =>
   constructor
   ·intro z; simp [lcs_nil]
   ·intro y
    rw [lcs_cons]
    have := (ihx []).2 y
    simp only [lcs_nil] at *
    split <;> omega
  | cons y ys ihy =>
   constructor
   ·intro z
    have h1 := (ihx ys).1 x
    have h2 := (ihx ys).2 y
    have h3 := (ihx (y :: ys)).1 x
    have h4 := ihy.1 z
    have h5 := ihy.2 y
    rw [lcs_cons p z y]
    split <;> omega
   ·intro z
    have h1 := (ihx ys).1 x
    have h2 := (ihx ys).2 y
    have h3 := (ihx (y :: ys)).1 x
    have h4 := (ihx (y :: ys)).2 z
    have h5 := ihy.2 y
    rw [lcs_cons p x z]
    split <;> omega
theorem lcs_le : ∀ (xs ys : List α), lcs p xs ys ≤ xs.length := by
 intro xs
 induction xs with
 | nil => intro ys; simp [lcs_nil']
 | cons x xs ih => intro ys; have h1 := ((lcs_step p xs ys).1 x).2; have := ih ys; simp only [List.length_cons]; omega
end
def rowT (m : Nat) (f : Nat → Nat → Int) (i : Nat) : List Int := (List.range m).map (f i)
def tab (n m : Nat) (f : Nat → Nat → Int) : List (List Int) := (List.range n).map (rowT m f)
def upd (f : Nat → Nat → Int) (i k : Nat) (v : Int) : Nat → Nat → Int := fun a b => if a = i ∧ b = k then v else f a b
theorem getI_natT {α : Type} {l : List α} {i : Nat} {j : Int} (hj : j = i) {x : α} (h : l[i]? = some x) : getI l j = some x := by
 subst hj; unfold getI; rw [if_pos (by omega)]; simpa using h
theorem get_tab {n m : Nat} {f : Nat → Nat → Int} {i : Nat} (h : i < n) {j : Int} (hj : j = i) : getI (tab n m f) j = some (rowT m f i) :=
 getI_natT hj (by rw [tab, List.getElem?_map, List.getElem?_range h]; rfl)
theorem get_row {m : Nat} {f : Nat → Nat → Int} {i k : Nat} (h : k < m) {j : Int} (hj : j = k) : getI (rowT m f i) j = some (f i k) :=
 getI_natT hj (by rw [rowT, List.getElem?_map, List.getElem?_range h]; rfl)
theorem set_tab {n m : Nat} {f : Nat → Nat → Int} {i k : Nat} {v : Int} : (tab n m f).set (Int.toNat (i : Int)) ((rowT m f i).set (Int.toNat (k : Int)) v) = tab n m (upd f i k v) := by
 apply List.ext_getElem?
 intro a
 simp only [Int.toNat_natCast]
 rw [List.getElem?_set, tab, tab, List.length_map, List.length_range, List.getElem?_map]
 by_cases e : i = a
 ·subst e
  rw [if_pos rfl]
  by_cases h : i < n
  ·rw [if_pos h, List.getElem?_map, List.getElem?_range h]
   show some _ = some _
   congr 1
   apply List.ext_getElem?
   intro b
   rw [List.getElem?_set, rowT, rowT, List.length_map, List.length_range, List.getElem?_map]
   by_cases e : k = b
   ·subst e
    rw [if_pos rfl]
    by_cases h : k < m
    ·rw [if_pos h, List.getElem?_map, List.getElem?_range h]; simp [upd]
    ·rw [if_neg h, List.getElem?_map, List.getElem?_eq_none (by simp; omega)]; rfl
   ·rw [if_neg e, List.getElem?_map]
    by_cases h : b < m
    ·rw [List.getElem?_range h]; have e' : ¬ b = k := fun h => e h.symm; simp [upd, e']
    ·rw [List.getElem?_eq_none (by simp; omega)]; rfl
  ·rw [if_neg h, List.getElem?_map, List.getElem?_eq_none (by simp; omega)]; rfl
 ·rw [if_neg e, List.getElem?_map]
  by_cases h : a < n
  ·rw [List.getElem?_range h]
   show some _ = some _
   congr 1
   apply List.map_congr_left
   intro b _
   have e' : ¬ a = i := fun h => e h.symm
   simp [upd, e']
  ·rw [List.getElem?_eq_none (by simp; omega)]; rfl
theorem tab_congr {n m : Nat} {f g : Nat → Nat → Int} (h : ∀ i k, i < n → k < m → f i k = g i k) : tab n m f = tab n m g := by
 apply List.map_congr_left
 intro i hi
 apply List.map_congr_left
 intro k hk
 exact h i k (by simpa using hi) (by simpa using hk)
theorem tab_zero (n m : Nat) : tab n m (fun _ _ => 0) = List.replicate n (List.replicate m 0) := by
 simp only [tab, rowT]
 rw [List.eq_replicate_iff]
 constructor
 ·simp
 ·intro b hb
  obtain ⟨i, _, h⟩ := List.mem_map.1 hb
  rw [← h]
  show (List.range m).map (fun _ => (0 : Int)) = _
  rw [List.map_const', List.length_range]
theorem fill_table {ρ : Type} (n m : Nat) (c : Nat → Nat → Int) (F52 : List (List Int) → Int → Int → Option ρ) (F40 : List (List Int) → Int → Option ρ) (fin : List (List Int) → Option ρ)
  (cn : ∀ k, c n k = 0) (cm : ∀ i, c i m = 0)
  (h52 : ∀ f i k, i < n → k < m → f (i + 1) k = c (i + 1) k → f i (k + 1) = c i (k + 1) → f (i + 1) (k + 1) = c (i + 1) (k + 1) →
    F52 (tab (n + 1) (m + 1) f) i k = F52 (tab (n + 1) (m + 1) (upd f i k (c i k))) i (k - 1))
  (h52e : ∀ t (i : Nat), i < n → F52 t i (-1) = F40 t (i - 1))
  (h40 : ∀ t (i : Nat), i < n → F40 t i = F52 t i (m - 1))
  (h40e : ∀ t, F40 t (-1) = fin t) :
  F40 (tab (n + 1) (m + 1) (fun _ _ => 0)) (n - 1) = fin (tab (n + 1) (m + 1) c) := by
 have key : ∀ i : Nat, i ≤ n → ∀ f : Nat → Nat → Int, (∀ a, f a m = 0) → (∀ a b, i ≤ a → a ≤ n → b ≤ m → f a b = c a b) → F40 (tab (n + 1) (m + 1) f) ((i : Int) - 1) = fin (tab (n + 1) (m + 1) c) := by
  intro i
  induction i with
  | zero =>
   intro _ f hm hf
   have e : ((0 : Nat) : Int) - 1 = -1 := rfl
   rw [e, h40e, tab_congr fun a b h1 h2 => hf a b (by omega) (by omega) (by omega)]
  | succ i ih =>
   intro hi f hm hf
   have e : ((i + 1 : Nat) : Int) - 1 = (i : Nat) := by omega
   rw [e, h40 _ i (by omega)]
   have row : ∀ k : Nat, k ≤ m → ∀ f : Nat → Nat → Int, (∀ a, f a m = 0) → (∀ a b, i + 1 ≤ a → a ≤ n → b ≤ m → f a b = c a b) → (∀ b, k ≤ b → b ≤ m → f i b = c i b) → F52 (tab (n + 1) (m + 1) f) i ((k : Int) - 1) = fin (tab (n + 1) (m + 1) c) := by
    intro k
    induction k with
    | zero =>
     intro _ f hm hf hr
     have e : ((0 : Nat) : Int) - 1 = -1 := rfl
     rw [e, h52e _ i (by omega)]
     refine ih (by omega) f hm fun a b h1 h2 h3 => ?_
     by_cases e : a = i
     ·subst e; exact hr b (by omega) h3
     ·exact hf a b (by omega) h2 h3
    | succ k ihk =>
     intro hk f hm hf hr
     have e : ((k + 1 : Nat) : Int) - 1 = (k : Nat) := by omega
     rw [e, h52 f i k (by omega) (by omega) (hf _ _ (by omega) (by omega) (by omega)) (hr _ (by omega) (by omega)) (hf _ _ (by omega) (by omega) (by omega))]
     refine ihk (by omega) _ (fun a => ?_) (fun a b h1 h2 h3 => ?_) (fun b h1 h2 => ?_)
     ·rw [upd, if_neg (by omega)]; exact hm a
     ·rw [upd, if_neg (by omega)]; exact hf a b h1 h2 h3
     ·unfold upd
      by_cases e : b = k
      ·rw [if_pos ⟨rfl, e⟩, e]
      ·rw [if_neg (by omega)]; exact hr b (by omega) h2
   refine row m (Nat.le_refl m) f hm (fun a b h1 h2 h3 => hf a b h1 h2 h3) fun b h1 h2 => ?_
   have : b = m := by omega
   rw [this, hm, cm]
 refine key n (Nat.le_refl n) _ (fun _ => rfl) fun a b h1 h2 h3 => ?_
 have : a = n := by omega
 rw [this, cn]
def cel (a b : List GNode) (i k : Nat) : Int := (lcs snB (a.drop i) (b.drop k) : Nat)
theorem cel_n (a b : List GNode) (k : Nat) : cel a b a.length k = 0 := by simp [cel, lcs_nil']
theorem cel_m (a b : List GNode) (i : Nat) : cel a b i b.length = 0 := by simp [cel, lcs_nil]
theorem cel_le (a b : List GNode) (i k : Nat) : 0 ≤ cel a b i k ∧ cel a b i k ≤ a.length := by
 have := lcs_le snB (a.drop i) (b.drop k)
 simp only [cel, List.length_drop] at *
 omega
theorem drop_get {α : Type} {l : List α} {i : Nat} (h : i < l.length) : ∃ x, getI l (i : Int) = some x ∧ x ∈ l ∧ l.drop i = x :: l.drop (i + 1) :=
 ⟨l[i], getI_natT rfl (List.getElem?_eq_getElem h), List.getElem_mem h, List.drop_eq_getElem_cons h⟩
theorem cel_step {a b : List GNode} {i k : Nat} {x y : GNode} (hx : a.drop i = x :: a.drop (i + 1)) (hy : b.drop k = y :: b.drop (k + 1)) :
  cel a b i k = (if snB x y then cel a b (i + 1) (k + 1) + 1 else max (cel a b (i + 1) k) (cel a b i (k + 1))) ∧ cel a b (i + 1) k ≤ cel a b (i + 1) (k + 1) + 1 ∧ cel a b i (k + 1) ≤ cel a b (i + 1) (k + 1) + 1 := by
 have h1 := ((lcs_step snB (a.drop (i + 1)) (b.drop (k + 1))).1 x).2
 have h2 := ((lcs_step snB (a.drop (i + 1)) (b.drop (k + 1))).2 y).2
 simp only [cel, hx, hy]
 rw [lcs_cons]
 refine ⟨?_, by omega, by omega⟩
 split <;> omega
end TT
namespace TT
open Go
theorem room_eq {n byt : Nat} (h : n ≤ 2000000) (hb : 0 < byt) (hb2 : byt ≤ 100) : room n byt = some () := by
 exact if_pos ⟨Nat.le_trans (Nat.mul_le_mul h hb2) (by decide), hb⟩
theorem spec_zero_row (a b : List GNode) (hb : b.length ≤ 1048576) (t : List (List Int)) (ht : t.length ≤ 1048577) (i : Int) :
  ∀ d j : Nat, j + d = b.length + 1 → spec_l17Table_l23 a b t i (List.replicate j 0) j = spec_l17Table_l8 a b (t ++ [List.replicate (b.length + 1) 0]) (addI i 1) := by
 intro d
 induction d with
 | zero =>
  intro j h
  have e : j = b.length + 1 := by omega
  rw [spec_l17Table_l23, leI_f (by simp only [lenL]; omega), if_neg (by simp), room_eq (by omega) (by omega) (by omega), e]; rfl
 | succ d ih =>
  intro j h
  rw [spec_l17Table_l23, leI_t (by simp only [lenL]; omega), room_eq (by simp; omega) (by omega) (by omega), addI_eq (by omega) (by omega)]
  have e : List.replicate j (0 : Int) ++ [0] = List.replicate (j + 1) 0 := by rw [List.replicate_succ']
  have := ih (j + 1) (by omega)
  rw [← e] at this
  exact this
theorem spec_zero (a b : List GNode) (ha : a.length ≤ 1048576) (hb : b.length ≤ 1048576) :
  ∀ d j : Nat, j + d = a.length + 1 → spec_l17Table_l8 a b (List.replicate j (List.replicate (b.length + 1) 0)) j = spec_l17Table_l40 a b (List.replicate (a.length + 1) (List.replicate (b.length + 1) 0)) ((a.length : Int) - 1) := by
 intro d
 induction d with
 | zero =>
  intro j h
  have e : j = a.length + 1 := by omega
  rw [spec_l17Table_l8, leI_f (by simp only [lenL]; omega), subI_eq (by simp only [lenL]; omega) (by simp only [lenL]; omega), e]; rfl
 | succ d ih =>
  intro j h
  rw [spec_l17Table_l8, leI_t (by simp only [lenL]; omega)]
  have h1 := spec_zero_row a b hb (List.replicate j (List.replicate (b.length + 1) 0)) (by simp; omega) (j : Int) (b.length + 1) 0 (by omega)
  have h2 := ih (j + 1) (by omega)
  rw [List.replicate_succ', show ((j + 1 : Nat) : Int) = (j : Int) + 1 by omega] at h2
  show spec_l17Table_l23 a b _ _ [] 0 = _
  refine Eq.trans h1 ?_
  rw [addI_eq (by omega) (by omega)]
  exact h2
theorem spec_table (a b : List GNode) (ha : ∀ y ∈ a, GNode.sz y ≤ 1048576) (hb : ∀ y ∈ b, GNode.sz y ≤ 1048576) (la : a.length ≤ 1048576) (lb : b.length ≤ 1048576) : spec_l17Table a b = some (tab (a.length + 1) (b.length + 1) (cel a b)) := by
 rw [spec_l17Table]
 have h1 := spec_zero a b la lb (a.length + 1) 0 (by omega)
 refine Eq.trans h1 ?_
 rw [← tab_zero]
 refine fill_table a.length b.length (cel a b) (fun t i k => spec_l17Table_l52 a b t i k) (fun t i => spec_l17Table_l40 a b t i) some (cel_n a b) (cel_m a b) ?_ ?_ ?_ ?_
 ·intro f i k hi hk h1 h2 h3
  obtain ⟨x, gx, mx, dx⟩ := drop_get hi
  obtain ⟨y, gy, my, dy⟩ := drop_get hk
  obtain ⟨c1, c2, c3⟩ := cel_step dx dy
  have b1 := cel_le a b (i + 1) (k + 1)
  show spec_l17Table_l52 a b _ _ _ = spec_l17Table_l52 a b _ _ _
  have hk1 : addI (k : Int) 1 = ((k + 1 : Nat) : Int) := by rw [addI_eq (by omega) (by omega)]; omega
  have hi1 : addI (i : Int) 1 = ((i + 1 : Nat) : Int) := by rw [addI_eq (by omega) (by omega)]; omega
  have hk2 : subI (k : Int) 1 = (k : Int) - 1 := subI_eq (by omega) (by omega)
  rw [spec_l17Table_l52, geI_t (by omega), hi1, hk1]
  simp only [get_tab (n := a.length + 1) (f := f) (m := b.length + 1) (i := i + 1) (by omega) rfl, get_tab (n := a.length + 1) (f := f) (m := b.length + 1) (i := i) (by omega) rfl, if_true, some_bnd,
   get_row (f := f) (m := b.length + 1) (i := i) (k := k) (by omega) rfl, get_row (f := f) (m := b.length + 1) (i := i + 1) (k := k) (by omega) rfl, get_row (f := f) (m := b.length + 1) (i := i) (k := k + 1) (by omega) rfl, get_row (f := f) (m := b.length + 1) (i := i + 1) (k := k + 1) (by omega) rfl]
  have j63 : ∀ n7, (snB x y = false → n7 = cel a b i k) → spec_l17Table_j63 a b (tab (a.length + 1) (b.length + 1) f) i k n7 = spec_l17Table_l52 a b (tab (a.length + 1) (b.length + 1) (upd f i k (cel a b i k))) i ((k : Int) - 1) := by
   intro n7 h7
   rw [spec_l17Table_j63, gx, gy, hi1, hk1, hk2]
   simp only [get_tab (n := a.length + 1) (f := f) (m := b.length + 1) (i := i + 1) (by omega) rfl, get_tab (n := a.length + 1) (f := f) (m := b.length + 1) (i := i) (by omega) rfl, some_bnd, spec_node x y (ha x mx) (hb y my),
    get_row (f := f) (m := b.length + 1) (i := i) (k := k) (by omega) rfl, get_row (f := f) (m := b.length + 1) (i := i + 1) (k := k + 1) (by omega) rfl, set_tab]
   by_cases e : snB x y = true
   ·rw [e, if_pos rfl] at c1
    simp only [e, if_true, h3]
    rw [addI_eq (by omega) (by omega), c1]
   ·have e' : snB x y = false := by simpa using e
    simp only [e', Bool.false_eq_true, if_false, h7 e']
  rw [h1, h2]
  by_cases g : cel a b i (k + 1) > cel a b (i + 1) k
  ·rw [gtI_t g, if_pos rfl]
   refine j63 _ fun e => ?_
   rw [e, if_neg (by simp)] at c1
   omega
  ·rw [gtI_f g, if_neg (by simp)]
   refine j63 _ fun e => ?_
   rw [e, if_neg (by simp)] at c1
   omega
 ·intro t i hi
  show spec_l17Table_l52 a b _ _ _ = spec_l17Table_l40 a b _ _
  rw [spec_l17Table_l52, geI_f (by omega), subI_eq (by omega) (by omega)]; rfl
 ·intro t i hi
  show spec_l17Table_l40 a b _ _ = spec_l17Table_l52 a b _ _ _
  rw [spec_l17Table_l40, geI_t (by omega), subI_eq (by simp only [lenL]; omega) (by simp only [lenL]; omega)]; rfl
 ·intro t
  show spec_l17Table_l40 a b _ _ = _
  rw [spec_l17Table_l40, geI_f (by omega)]; rfl
theorem impl_zero (a b : List GNode) (la : a.length ≤ 1048576) (lb : b.length ≤ 1048576) :
  ∀ d j : Nat, j + d = a.length + 1 → impl_longest_l8 a b (List.replicate j (List.replicate (b.length + 1) 0) ++ List.replicate d []) (a.length + 1) j = impl_longest_l25 a b (List.replicate (a.length + 1) (List.replicate (b.length + 1) 0)) ((a.length : Int) - 1) := by
 intro d
 induction d with
 | zero =>
  intro j h
  have e : j = a.length + 1 := by omega
  rw [impl_longest_l8, ltI_f (by omega), subI_eq (by simp only [lenL]; omega) (by simp only [lenL]; omega), e, List.replicate_zero, List.append_nil]; rfl
 | succ d ih =>
  intro j h
  rw [impl_longest_l8, ltI_t (by omega), if_pos rfl]
  have e0 : addI (lenL b) 1 = ((b.length + 1 : Nat) : Int) := by rw [addI_eq (by simp only [lenL]; omega) (by simp only [lenL]; omega)]; simp [lenL]
  have hl : ((List.replicate j (List.replicate (b.length + 1) (0 : Int))).length : Int) = j := by simp
  rw [e0, mkN_eq (Nat.le_trans (Nat.mul_le_mul (show b.length + 1 ≤ 1048577 by omega) (Nat.le_refl 8)) (by decide)) (by omega)]
  have f1 : getI (List.replicate j (List.replicate (b.length + 1) (0 : Int)) ++ List.replicate (d + 1) []) (j : Int) = some [] := by
   have := fill_at (z := ([] : List Int)) (pre := List.replicate j (List.replicate (b.length + 1) (0 : Int))) (m := d)
   rw [hl] at this; exact this
  have f2 : (List.replicate j (List.replicate (b.length + 1) (0 : Int)) ++ List.replicate (d + 1) []).set (Int.toNat (j : Int)) (List.replicate (b.length + 1) 0) = List.replicate (j + 1) (List.replicate (b.length + 1) 0) ++ List.replicate d [] := by
   have := fill_set (z := ([] : List Int)) (x := List.replicate (b.length + 1) (0 : Int)) (pre := List.replicate j (List.replicate (b.length + 1) (0 : Int))) (m := d)
   rw [hl] at this; rw [this, List.replicate_succ' (n := j) (a := List.replicate (b.length + 1) (0 : Int))]
  simp only [some_bnd, f1, f2]
  rw [addI_eq (by omega) (by omega)]
  exact ih (j + 1) (by omega)
theorem maxI_eq (a b : Int) : maxI a b = max a b := by unfold maxI; split <;> omega
theorem upd_get {f : Nat → Nat → Int} {i k : Nat} {v : Int} : upd f i k v i k = v := by simp [upd]
theorem upd_get' {f : Nat → Nat → Int} {i k : Nat} {v : Int} : upd f i k v (i + 1) (k + 1) = f (i + 1) (k + 1) := by simp [upd]
theorem upd_upd {f : Nat → Nat → Int} {i k : Nat} {v w : Int} : upd (upd f i k v) i k w = upd f i k w := by
 funext a b; unfold upd; split <;> rfl
theorem impl_table (a b : List GNode) (ha : ∀ y ∈ a, GNode.sz y ≤ 1048576) (hb : ∀ y ∈ b, GNode.sz y ≤ 1048576) (la : a.length ≤ 1048576) (lb : b.length ≤ 1048576) : impl_longest a b = some (tab (a.length + 1) (b.length + 1) (cel a b)) := by
 rw [impl_longest]
 have e0 : addI (lenL a) 1 = ((a.length + 1 : Nat) : Int) := by rw [addI_eq (by simp only [lenL]; omega) (by simp only [lenL]; omega)]; simp [lenL]
 rw [e0, mkN_eq (Nat.le_trans (Nat.mul_le_mul (show a.length + 1 ≤ 1048577 by omega) (Nat.le_refl 24)) (by decide)) (by omega)]
 have h1 := impl_zero a b la lb (a.length + 1) 0 (by omega)
 simp only [some_bnd]
 refine Eq.trans h1 ?_
 rw [← tab_zero]
 refine fill_table a.length b.length (cel a b) (fun t i k => impl_longest_l37 a b t i k) (fun t i => impl_longest_l25 a b t i) some (cel_n a b) (cel_m a b) ?_ ?_ ?_ ?_
 ·intro f i k hi hk h1 h2 h3
  obtain ⟨x, gx, mx, dx⟩ := drop_get hi
  obtain ⟨y, gy, my, dy⟩ := drop_get hk
  obtain ⟨c1, c2, c3⟩ := cel_step dx dy
  have b1 := cel_le a b (i + 1) (k + 1)
  show impl_longest_l37 a b _ _ _ = impl_longest_l37 a b _ _ _
  have hk1 : addI (k : Int) 1 = ((k + 1 : Nat) : Int) := by rw [addI_eq (by omega) (by omega)]; omega
  have hi1 : addI (i : Int) 1 = ((i + 1 : Nat) : Int) := by rw [addI_eq (by omega) (by omega)]; omega
  have hk2 : subI (k : Int) 1 = (k : Int) - 1 := subI_eq (by omega) (by omega)
  rw [impl_longest_l37, geI_t (by omega), hi1, hk1, hk2, gx, gy]
  simp only [fun f => get_tab (n := a.length + 1) (f := f) (m := b.length + 1) (i := i + 1) (by omega) rfl, fun f => get_tab (n := a.length + 1) (f := f) (m := b.length + 1) (i := i) (by omega) rfl, if_true, some_bnd, spec_node x y (ha x mx) (hb y my), impl_node x y (ha x mx) (hb y my),
   fun f => get_row (f := f) (m := b.length + 1) (i := i) (k := k) (by omega) rfl, fun f => get_row (f := f) (m := b.length + 1) (i := i + 1) (k := k) (by omega) rfl, fun f => get_row (f := f) (m := b.length + 1) (i := i) (k := k + 1) (by omega) rfl, fun f => get_row (f := f) (m := b.length + 1) (i := i + 1) (k := k + 1) (by omega) rfl, set_tab, upd_get, upd_get', upd_upd, h1, h2, h3, maxI_eq]
  by_cases e : snB x y = true
  ·rw [e, if_pos rfl] at c1
   simp only [e, if_true]
   rw [addI_eq (by omega) (by omega)]
   have e1 : max (max (cel a b (i + 1) k) (cel a b i (k + 1))) (1 + cel a b (i + 1) (k + 1)) = cel a b i k := by omega
   rw [e1]
  ·have e' : snB x y = false := by simpa using e
   rw [e', if_neg (by simp)] at c1
   simp only [e', Bool.false_eq_true, if_false]
   rw [c1]
 ·intro t i hi
  show impl_longest_l37 a b _ _ _ = impl_longest_l25 a b _ _
  rw [impl_longest_l37, geI_f (by omega), if_neg (by simp), subI_eq (by omega) (by omega)]
 ·intro t i hi
  show impl_longest_l25 a b _ _ = impl_longest_l37 a b _ _ _
  rw [impl_longest_l25, geI_t (by omega), subI_eq (by simp only [lenL]; omega) (by simp only [lenL]; omega)]; rfl
 ·intro t
  show impl_longest_l25 a b _ _ = _
  rw [impl_longest_l25, geI_f (by omega)]; rfl
end TT
