import Derived.Test.YtdpdfjkjlkmjaaaTP3Cur
import Derived.Test.YtdpdfjkjlkmjaaaTP0
import Derived.Test.YtdpdfjkjlkmjaaaTP1
set_option linter.unusedVariables false
set_option linter.unusedSimpArgs false
namespace TT
open Go
end TT
namespace TT
open Go
theorem slices_Equal_Decl_eq (a b : List GDecl) (h : a.length ≤ maxLen) (hl : a.length = b.length) : slices_Equal_Decl a b = some (all2 (fun x y => eqS x.Pre y.Pre && eqS x.Uri y.Uri) a b) := by
 rw [slices_Equal_Decl, neI_len' hl]
 have h1 := all2_same (fun i => slices_Equal_Decl_l14 a b i) a b (fun x y => some (eqS x.Pre y.Pre && eqS x.Uri y.Uri)) _ (some true) (some false) (fun i => by rw [slices_Equal_Decl_l14]; rfl) h hl (fun _ _ _ _ => rfl)
 simp only [Bool.false_eq_true, if_false]
 rw [h1]; cases all2 _ a b <;> rfl
theorem slices_Equal_Decl_ne (a b : List GDecl) (hl : a.length ≠ b.length) : slices_Equal_Decl a b = some false := by
 rw [slices_Equal_Decl, neI_len hl]; rfl
theorem slices_Equal_Attr_eq (a b : List GAttr) (h : a.length ≤ maxLen) (hl : a.length = b.length) : slices_Equal_Attr a b = some (all2 (fun x y => (eqS x.Pre y.Pre && (eqS x.Local y.Local && (eqS x.Uri y.Uri && eqS x.Val y.Val)))) a b) := by
 rw [slices_Equal_Attr, neI_len' hl]
 have h1 := all2_same (fun i => slices_Equal_Attr_l14 a b i) a b (fun x y => some (eqS x.Pre y.Pre && (eqS x.Local y.Local && (eqS x.Uri y.Uri && eqS x.Val y.Val)))) _ (some true) (some false) (fun i => by rw [slices_Equal_Attr_l14]; rfl) h hl (fun _ _ _ _ => rfl)
 simp only [Bool.false_eq_true, if_false]
 rw [h1]; cases all2 _ a b <;> rfl
theorem slices_Equal_Attr_ne (a b : List GAttr) (hl : a.length ≠ b.length) : slices_Equal_Attr a b = some false := by
 rw [slices_Equal_Attr, neI_len hl]; rfl
def snB (a b : GNode) : Bool := (spec_SameNode a b).getD false
def rowT (m : Nat) (f : Nat → Nat → Int) (i : Nat) : List Int := (List.range m).map (f i)
def tab (n m : Nat) (f : Nat → Nat → Int) : List (List Int) := (List.range n).map (rowT m f)
def upd (f : Nat → Nat → Int) (i k : Nat) (v : Int) : Nat → Nat → Int := fun a b => if a = i ∧ b = k then v else f a b
theorem getI_natT {α : Type} {l : List α} {i : Nat} {j : Int} (hj : j = i) {x : α} (h : l[i]? = some x) : getI l j = some x := by
 subst hj; unfold getI; rw [if_pos (by omega)]; simpa using h
theorem get_tab {n m : Nat} {f : Nat → Nat → Int} {i : Nat} (h : i < n) {j : Int} (hj : j = i) : getI (tab n m f) j = some (rowT m f i) :=
 getI_natT hj (by rw [tab, List.getElem?_map, List.getElem?_range h]; rfl)
theorem get_row {m : Nat} {f : Nat → Nat → Int} {i k : Nat} (h : k < m) {j : Int} (hj : j = k) : getI (rowT m f i) j = some (f i k) :=
 getI_natT hj (by rw [rowT, List.getElem?_map, List.getElem?_range h]; rfl)
theorem set_tab {n m : Nat} {f : Nat → Nat → Int} {i k : Nat} {v : Int} : (tab n m f).set (Int.toNat (i : Int)) ((rowT m f i).set (Int.toNat (k : Int)) v) = tab n m (upd f i k v) := by
 apply List.ext_getElem?
 intro a
 simp only [Int.toNat_natCast]
 rw [List.getElem?_set, tab, tab, List.length_map, List.length_range, List.getElem?_map]
 by_cases e : i = a
 ·subst e
  rw [if_pos rfl]
  by_cases h : i < n
  ·rw [if_pos h, List.getElem?_map, List.getElem?_range h]
   show some _ = some _
   congr 1
   apply List.ext_getElem?
   intro b
   rw [List.getElem?_set, rowT, rowT, List.length_map, List.length_range, List.getElem?_map]
   by_cases e : k = b
   ·subst e
    rw [if_pos rfl]
    by_cases h : k < m
    ·rw [if_pos h, List.getElem?_map, List.getElem?_range h]; simp [upd]
    ·rw [if_neg h, List.getElem?_map, List.getElem?_eq_none (by simp; omega)]; rfl
   ·rw [if_neg e, List.getElem?_map]
    by_cases h : b < m
    ·rw [List.getElem?_range h]; have e' : ¬ b = k := fun h => e h.symm; simp [upd, e']
    ·rw [List.getElem?_eq_none (by simp; omega)]; rfl
  ·rw [if_neg h, List.getElem?_map, List.getElem?_eq_none (by simp; omega)]; rfl
 ·rw [if_neg e, List.getElem?_map]
  by_cases h : a < n
  ·rw [List.getElem?_range h]
   show some _ = some _
   congr 1
   apply List.map_congr_left
   intro b _
   have e' : ¬ a = i := fun h => e h.symm
   simp [upd, e']
  ·rw [List.getElem?_eq_none (by simp; omega)]; rfl
theorem tab_zero (n m : Nat) : tab n m (fun _ _ => 0) = List.replicate n (List.replicate m 0) := by
 simp only [tab, rowT]
 rw [List.eq_replicate_iff]
 constructor
 ·simp
 ·intro b hb
  obtain ⟨i, _, h⟩ := List.mem_map.1 hb
  rw [← h]
  show (List.range m).map (fun _ => (0 : Int)) = _
  rw [List.map_const', List.length_range]
end TT
namespace TT
open Go
end TT
