import Derived.Test.YtdpdfjkjlkmjaaaTP3Cur
import Derived.Test.YtdpdfjkjlkmjaaaTP0
import Derived.Test.YtdpdfjkjlkmjaaaTP1
set_option linter.unusedVariables false
set_option linter.unusedSimpArgs false
namespace TT
open Go
theorem loop_is {α ρ : Type} (l : List α) (F : Int → Option ρ) (r : ρ) (hF : ∀ (k : Nat) x, l[k]? = some x → F ((k + 1 : Nat) : Int) = some r → F (k : Int) = some r) (h0 : F ((l.length : Nat) : Int) = some r) : F 0 = some r := by
 have key : ∀ (m k : Nat), k ≤ l.length → l.length ≤ k + m → F (k : Int) = some r := by
  intro m
  induction m with
  | zero => intro k h1 h2; rw [show k = l.length by omega]; exact h0
  | succ m ih =>
   intro k h1 h2
   by_cases e : k = l.length
   ·rw [e]; exact h0
   ·exact hF k _ (List.getElem?_eq_getElem (by omega)) (ih (k + 1) (by omega) (by omega))
 exact key l.length 0 (by omega) (by omega)
theorem equal_decls (l : List GDecl) (hl : l.length ≤ 4000000) : slices_Equal_Decl l l = some true := by
 rw [slices_Equal_Decl, neI_self]
 refine loop_is l (fun i => slices_Equal_Decl_l14 l l i) true (fun k x hx ih => ?_) ?_
 ·have := len_k hx
  show slices_Equal_Decl_l14 l l k = _
  rw [slices_Equal_Decl_l14, lt_k hx, getI_k hx, add_k (by omega)]
  simp only [if_true, some_bnd, eqS_self, Bool.and_self]
  exact ih
 ·show slices_Equal_Decl_l14 l l _ = _
  rw [slices_Equal_Decl_l14, end_k]; rfl
theorem equal_attrs (l : List GAttr) (hl : l.length ≤ 4000000) : slices_Equal_Attr l l = some true := by
 rw [slices_Equal_Attr, neI_self]
 refine loop_is l (fun i => slices_Equal_Attr_l14 l l i) true (fun k x hx ih => ?_) ?_
 ·have := len_k hx
  show slices_Equal_Attr_l14 l l k = _
  rw [slices_Equal_Attr_l14, lt_k hx, getI_k hx, add_k (by omega)]
  simp only [if_true, some_bnd, eqS_self, Bool.and_self]
  exact ih
 ·show slices_Equal_Attr_l14 l l _ = _
  rw [slices_Equal_Attr_l14, end_k]; rfl
theorem sameNode_self : ∀ n : GNode, n.sz ≤ 1048576 → impl_SameNode n n = some true := by
 refine GNode.ind' fun n ih hs => ?_
 rw [GNode.sz_eq] at hs
 have ha : impl_sameAlone n n = some true := by
  rw [impl_sameAlone, eqI_self, eqS_self, eqS_self, eqS_self, eqS_self, equal_decls _ (by omega), equal_attrs _ (by omega)]; rfl
 have hk : slices_EqualFunc_Node_SameNode n.Kids n.Kids = some true := by
  rw [slices_EqualFunc_Node_SameNode, neI_self]
  refine loop_is n.Kids (fun i => slices_EqualFunc_Node_SameNode_l14 n.Kids n.Kids i) true (fun k x hx h => ?_) ?_
  ·have := len_k hx
   have h2 := szs_mem GNode.sz (mem_k hx)
   show slices_EqualFunc_Node_SameNode_l14 n.Kids n.Kids k = _
   rw [slices_EqualFunc_Node_SameNode_l14, lt_k hx, getI_k hx, add_k (by omega)]
   simp only [if_true, some_bnd, ih x (mem_k hx) (by omega)]
   exact h
  ·show slices_EqualFunc_Node_SameNode_l14 n.Kids n.Kids _ = _
   rw [slices_EqualFunc_Node_SameNode_l14, end_k]; rfl
 rw [impl_SameNode, ha, some_bnd, hk]; rfl
end TT
namespace TT
open Go
theorem slices_Equal_Decl_eq (a b : List GDecl) (h : a.length ≤ maxLen) (hl : a.length = b.length) : slices_Equal_Decl a b = some (all2 (fun x y => eqS x.Pre y.Pre && eqS x.Uri y.Uri) a b) := by
 rw [slices_Equal_Decl, neI_len' hl]
 have h1 := all2_same (fun i => slices_Equal_Decl_l14 a b i) a b (fun x y => some (eqS x.Pre y.Pre && eqS x.Uri y.Uri)) _ (some true) (some false) (fun i => by rw [slices_Equal_Decl_l14]; rfl) h hl (fun _ _ _ _ => rfl)
 simp only [Bool.false_eq_true, if_false]
 rw [h1]; cases all2 _ a b <;> rfl
theorem slices_Equal_Decl_ne (a b : List GDecl) (hl : a.length ≠ b.length) : slices_Equal_Decl a b = some false := by
 rw [slices_Equal_Decl, neI_len hl]; rfl
theorem slices_Equal_Attr_eq (a b : List GAttr) (h : a.length ≤ maxLen) (hl : a.length = b.length) : slices_Equal_Attr a b = some (all2 (fun x y => (eqS x.Pre y.Pre && (eqS x.Local y.Local && (eqS x.Uri y.Uri && eqS x.Val y.Val)))) a b) := by
 rw [slices_Equal_Attr, neI_len' hl]
 have h1 := all2_same (fun i => slices_Equal_Attr_l14 a b i) a b (fun x y => some (eqS x.Pre y.Pre && (eqS x.Local y.Local && (eqS x.Uri y.Uri && eqS x.Val y.Val)))) _ (some true) (some false) (fun i => by rw [slices_Equal_Attr_l14]; rfl) h hl (fun _ _ _ _ => rfl)
 simp only [Bool.false_eq_true, if_false]
 rw [h1]; cases all2 _ a b <;> rfl
theorem slices_Equal_Attr_ne (a b : List GAttr) (hl : a.length ≠ b.length) : slices_Equal_Attr a b = some false := by
 rw [slices_Equal_Attr, neI_len hl]; rfl
def snB (a b : GNode) : Bool := (spec_SameNode a b).getD false
theorem same_node_ex : ∀ a : GNode, a.sz ≤ 1048576 → ∀ b : GNode, b.sz ≤ 1048576 → ∃ r, spec_SameNode a b = some r ∧ impl_SameNode a b = some r := by
 refine GNode.ind' fun a ih ha b hb => ?_
 have hza := GNode.sz_eq a
 have hzb := GNode.sz_eq b
 have hd : a.Decls.length ≤ maxLen ∧ True := ⟨by rw [maxLen_eq]; omega, trivial⟩
 have hA : a.Attrs.length ≤ maxLen ∧ True := ⟨by rw [maxLen_eq]; omega, trivial⟩
 have hk : a.Kids.length ≤ maxLen ∧ ∀ x ∈ a.Kids, x.sz ≤ 1048576 := ⟨by rw [maxLen_eq]; omega, fun x hx => by have := szs_mem GNode.sz hx; omega⟩
 have hk' : b.Kids.length ≤ maxLen ∧ ∀ x ∈ b.Kids, x.sz ≤ 1048576 := ⟨by rw [maxLen_eq]; omega, fun x hx => by have := szs_mem GNode.sz hx; omega⟩
 have hs : ∀ x ∈ a.Kids, ∀ y ∈ b.Kids, spec_SameNode x y = some (snB x y) := by
  intro x hx y hy
  obtain ⟨r, h, _⟩ := ih x hx (hk.2 x hx) y (hk'.2 y hy)
  rw [snB, h]; rfl
 have hi : ∀ x ∈ a.Kids, ∀ y ∈ b.Kids, impl_SameNode x y = some (snB x y) := by
  intro x hx y hy
  obtain ⟨r, h, h2⟩ := ih x hx (hk.2 x hx) y (hk'.2 y hy)
  rw [snB, h, h2]; rfl
 rw [spec_SameNode, impl_SameNode, impl_sameAlone]
 simp only [neI_eq, neS_eq]
 by_cases e1 : eqI a.Kind b.Kind = true
 case neg => simp [e1]
 by_cases e2 : eqS a.Pre b.Pre = true
 case neg => simp [e1, e2]
 by_cases e3 : eqS a.Local b.Local = true
 case neg => simp [e1, e2, e3]
 by_cases e4 : eqS a.Uri b.Uri = true
 case neg => simp [e1, e2, e3, e4]
 by_cases e5 : eqS a.Text b.Text = true
 case neg => simp [e1, e2, e3, e4, e5]
 simp only [e1, e2, e3, e4, e5, Bool.not_true, Bool.false_eq_true, if_false, if_true]
 have fl : ∀ {α β : Type} {x : List α} {y : List β}, x.length ≠ y.length → eqI (lenL x) (lenL y) = false := by
  intro α β x y h; simp only [eqI, lenL, beq_eq_false_iff_ne, ne_eq]; omega
 have tl : ∀ {α β : Type} {x : List α} {y : List β}, x.length = y.length → eqI (lenL x) (lenL y) = true := by
  intro α β x y h; simp only [eqI, lenL, beq_iff_eq]; omega
 by_cases l1 : a.Decls.length = b.Decls.length
 case neg => simp [slices_Equal_Decl_ne _ _ l1, fl l1]
 by_cases l2 : a.Attrs.length = b.Attrs.length
 case neg =>
  simp only [slices_Equal_Decl_eq _ _ hd.1 l1, slices_Equal_Attr_ne _ _ l2, tl l1, fl l2]
  cases all2 _ a.Decls b.Decls <;> simp
 simp only [slices_Equal_Decl_eq _ _ hd.1 l1, slices_Equal_Attr_eq _ _ hA.1 l2, tl l1, tl l2]
 by_cases l3 : a.Kids.length = b.Kids.length
 case neg =>
  simp only [slices_EqualFunc_Node_SameNode, neI_len l3, fl l3]
  cases all2 _ a.Decls b.Decls <;> cases all2 _ a.Attrs b.Attrs <;> simp
 simp only [slices_EqualFunc_Node_SameNode, neI_len' l3, tl l3]
 have h1 := all2_same (fun i => spec_SameNode_l14 i a b) a.Decls b.Decls (fun x y => some (eqS x.Pre y.Pre && eqS x.Uri y.Uri)) _ (spec_SameNode_l35 0 a b) (some false) (fun i => by rw [spec_SameNode_l14]; rfl) hd.1 l1 (fun _ _ _ _ => rfl)
 have h2 := all2_same (fun i => spec_SameNode_l35 i a b) a.Attrs b.Attrs (fun x y => some (eqS x.Pre y.Pre && (eqS x.Local y.Local && (eqS x.Uri y.Uri && eqS x.Val y.Val)))) _ (spec_SameNode_l56 0 a b) (some false) (fun i => by rw [spec_SameNode_l35]; rfl) hA.1 l2 (fun _ _ _ _ => rfl)
 have h3 := all2_same (fun i => spec_SameNode_l56 i a b) a.Kids b.Kids spec_SameNode snB (some true) (some false) (fun i => by rw [spec_SameNode_l56]) hk.1 l3 hs
 have h4 := all2_same (fun i => slices_EqualFunc_Node_SameNode_l14 b.Kids a.Kids i) a.Kids b.Kids impl_SameNode snB (some true) (some false) (fun i => by rw [slices_EqualFunc_Node_SameNode_l14]) hk.1 l3 hi
 simp only [Bool.not_true, Bool.false_eq_true, if_false]
 rw [h1, h2, h3, h4]
 cases all2 _ a.Decls b.Decls <;> cases all2 _ a.Attrs b.Attrs <;> cases all2 _ a.Kids b.Kids <;> simp
theorem impl_node (a b : GNode) (ha : a.sz ≤ 1048576) (hb : b.sz ≤ 1048576) : impl_SameNode a b = some (snB a b) := by
 obtain ⟨r, h, h2⟩ := same_node_ex a ha b hb
 rw [snB, h, h2]; rfl
def rowT (m : Nat) (f : Nat → Nat → Int) (i : Nat) : List Int := (List.range m).map (f i)
def tab (n m : Nat) (f : Nat → Nat → Int) : List (List Int) := (List.range n).map (rowT m f)
def upd (f : Nat → Nat → Int) (i k : Nat) (v : Int) : Nat → Nat → Int := fun a b => if a = i ∧ b = k then v else f a b
theorem getI_natT {α : Type} {l : List α} {i : Nat} {j : Int} (hj : j = i) {x : α} (h : l[i]? = some x) : getI l j = some x := by
 subst hj; unfold getI; rw [if_pos (by omega)]; simpa using h
theorem get_tab {n m : Nat} {f : Nat → Nat → Int} {i : Nat} (h : i < n) {j : Int} (hj : j = i) : getI (tab n m f) j = some (rowT m f i) :=
 getI_natT hj (by rw [tab, List.getElem?_map, List.getElem?_range h]; rfl)
theorem get_row {m : Nat} {f : Nat → Nat → Int} {i k : Nat} (h : k < m) {j : Int} (hj : j = k) : getI (rowT m f i) j = some (f i k) :=
 getI_natT hj (by rw [rowT, List.getElem?_map, List.getElem?_range h]; rfl)
theorem set_tab {n m : Nat} {f : Nat → Nat → Int} {i k : Nat} {v : Int} : (tab n m f).set (Int.toNat (i : Int)) ((rowT m f i).set (Int.toNat (k : Int)) v) = tab n m (upd f i k v) := by
 apply List.ext_getElem?
 intro a
 simp only [Int.toNat_natCast]
 rw [List.getElem?_set, tab, tab, List.length_map, List.length_range, List.getElem?_map]
 by_cases e : i = a
 ·subst e
  rw [if_pos rfl]
  by_cases h : i < n
  ·rw [if_pos h, List.getElem?_map, List.getElem?_range h]
   show some _ = some _
   congr 1
   apply List.ext_getElem?
   intro b
   rw [List.getElem?_set, rowT, rowT, List.length_map, List.length_range, List.getElem?_map]
   by_cases e : k = b
   ·subst e
    rw [if_pos rfl]
    by_cases h : k < m
    ·rw [if_pos h, List.getElem?_map, List.getElem?_range h]; simp [upd]
    ·rw [if_neg h, List.getElem?_map, List.getElem?_eq_none (by simp; omega)]; rfl
   ·rw [if_neg e, List.getElem?_map]
    by_cases h : b < m
    ·rw [List.getElem?_range h]; have e' : ¬ b = k := fun h => e h.symm; simp [upd, e']
    ·rw [List.getElem?_eq_none (by simp; omega)]; rfl
  ·rw [if_neg h, List.getElem?_map, List.getElem?_eq_none (by simp; omega)]; rfl
 ·rw [if_neg e, List.getElem?_map]
  by_cases h : a < n
  ·rw [List.getElem?_range h]
   show some _ = some _
   congr 1
   apply List.map_congr_left
   intro b _
   have e' : ¬ a = i := fun h => e h.symm
   simp [upd, e']
  ·rw [List.getElem?_eq_none (by simp; omega)]; rfl
theorem tab_zero (n m : Nat) : tab n m (fun _ _ => 0) = List.replicate n (List.replicate m 0) := by
 simp only [tab, rowT]
 rw [List.eq_replicate_iff]
 constructor
 ·simp
 ·intro b hb
  obtain ⟨i, _, h⟩ := List.mem_map.1 hb
  rw [← h]
  show (List.range m).map (fun _ => (0 : Int)) = _
  rw [List.map_const', List.length_range]
end TT
namespace TT
open Go
end TT
