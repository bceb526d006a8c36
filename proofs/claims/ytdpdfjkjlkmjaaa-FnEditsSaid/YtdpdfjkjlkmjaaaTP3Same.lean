import Derived.Test.YtdpdfjkjlkmjaaaTP3Cur
import Derived.Test.YtdpdfjkjlkmjaaaTP3Merge
import Derived.Test.YtdpdfjkjlkmjaaaTP3Copy
set_option linter.unusedVariables false
set_option linter.unusedSimpArgs false
namespace TT
open Go
theorem loop_is {α ρ : Type} (l : List α) (F : Int → Option ρ) (r : ρ) (hF : ∀ (k : Nat) x, l[k]? = some x → F ((k + 1 : Nat) : Int) = some r → F (k : Int) = some r) (h0 : F ((l.length : Nat) : Int) = some r) : F 0 = some r := by
 have key : ∀ (m k : Nat), k ≤ l.length → l.length ≤ k + m → F (k : Int) = some r := by
  intro m
  induction m with
  | zero => intro k h1 h2; rw [show k = l.length by omega]; exact h0
  | succ m ih =>
   intro k h1 h2
   by_cases e : k = l.length
   ·rw [e]; exact h0
   ·exact hF k _ (List.getElem?_eq_getElem (by omega)) (ih (k + 1) (by omega) (by omega))
 exact key l.length 0 (by omega) (by omega)
theorem equal_decls (l : List GDecl) (hl : l.length ≤ 4000000) : slices_Equal_Decl l l = some true := by
 rw [slices_Equal_Decl, neI_self]
 refine loop_is l (fun i => slices_Equal_Decl_l14 l l i) true (fun k x hx ih => ?_) ?_
 ·have := len_k hx
  show slices_Equal_Decl_l14 l l k = _
  rw [slices_Equal_Decl_l14, lt_k hx, getI_k hx, add_k (by omega)]
  simp only [if_true, some_bnd, eqS_self, Bool.and_self]
  exact ih
 ·show slices_Equal_Decl_l14 l l _ = _
  rw [slices_Equal_Decl_l14, end_k]; rfl
theorem equal_attrs (l : List GAttr) (hl : l.length ≤ 4000000) : slices_Equal_Attr l l = some true := by
 rw [slices_Equal_Attr, neI_self]
 refine loop_is l (fun i => slices_Equal_Attr_l14 l l i) true (fun k x hx ih => ?_) ?_
 ·have := len_k hx
  show slices_Equal_Attr_l14 l l k = _
  rw [slices_Equal_Attr_l14, lt_k hx, getI_k hx, add_k (by omega)]
  simp only [if_true, some_bnd, eqS_self, Bool.and_self]
  exact ih
 ·show slices_Equal_Attr_l14 l l _ = _
  rw [slices_Equal_Attr_l14, end_k]; rfl
theorem sameNode_self : ∀ n : GNode, n.sz ≤ 1048576 → impl_SameNode n n = some true := by
 refine GNode.ind' fun n ih hs => ?_
 rw [GNode.sz_eq] at hs
 have ha : impl_sameAlone n n = some true := by
  rw [impl_sameAlone, eqI_self, eqS_self, eqS_self, eqS_self, eqS_self, equal_decls _ (by omega), equal_attrs _ (by omega)]; rfl
 have hk : slices_EqualFunc_Node_SameNode n.Kids n.Kids = some true := by
  rw [slices_EqualFunc_Node_SameNode, neI_self]
  refine loop_is n.Kids (fun i => slices_EqualFunc_Node_SameNode_l14 n.Kids n.Kids i) true (fun k x hx h => ?_) ?_
  ·have := len_k hx
   have h2 := szs_mem GNode.sz (mem_k hx)
   show slices_EqualFunc_Node_SameNode_l14 n.Kids n.Kids k = _
   rw [slices_EqualFunc_Node_SameNode_l14, lt_k hx, getI_k hx, add_k (by omega)]
   simp only [if_true, some_bnd, ih x (mem_k hx) (by omega)]
   exact h
  ·show slices_EqualFunc_Node_SameNode_l14 n.Kids n.Kids _ = _
   rw [slices_EqualFunc_Node_SameNode_l14, end_k]; rfl
 rw [impl_SameNode, ha, some_bnd, hk]; rfl
end TT
namespace TT
open Go
theorem bind_true {x y : Option Bool} (h : (x >>= fun r => if r then y else some false) = some true) : x = some true ∧ y = some true := by
 cases x with
 | none => cases h
 | some b =>
  cases b
  ·cases h
  ·exact ⟨rfl, h⟩
def cleanL : Bool → List GNode → Bool
 | _, [] => true
 | t, x :: l => (if x.Kind = 2 then !t && !decide (x.Text = ⟨#[]⟩) else true) && cleanL (decide (x.Kind = 2)) l
def lastTx (l : List GNode) : Bool := match l.getLast? with
 | some y => decide (y.Kind = 2)
 | none => false
theorem lastTx_app (l : List GNode) (x : GNode) : lastTx (l ++ [x]) = decide (x.Kind = 2) := by simp [lastTx]
theorem merge_clean : ∀ (rest out : List GNode), cleanL (lastTx out) rest = true → rest.foldl mstep out = out ++ rest
 | [], out, _ => by simp
 | x :: rest, out, h => by
  rw [cleanL, Bool.and_eq_true] at h
  obtain ⟨h1, h2⟩ := h
  have e : mstep out x = out ++ [x] := by
   unfold mstep
   by_cases hk : x.Kind = 2
   ·rw [if_pos hk] at h1 ⊢
    simp only [Bool.and_eq_true, Bool.not_eq_true', decide_eq_false_iff_not] at h1
    rw [if_neg h1.2]
    have ht := h1.1
    unfold lastTx at ht
    cases hg : out.getLast? with
    | none => rfl
    | some y =>
     rw [hg] at ht
     simp only [decide_eq_false_iff_not] at ht
     simp only []
     rw [if_neg ht]
   ·rw [if_neg hk]
  rw [List.foldl_cons, e, merge_clean rest (out ++ [x]) (by rw [lastTx_app]; exact h2), List.append_assoc]
  rfl
theorem mergeP_clean (l : List GNode) (h : cleanL false l = true) : mergeP l = l := by
 have := merge_clean l [] h
 simpa [mergeP] using this
theorem clean_drop : ∀ (l : List GNode) (k : Nat) (t : Bool), cleanL t l = true → cleanL false (l.drop k) = true
 | [], k, t, _ => by simp [cleanL]
 | x :: l, 0, t, h => by
  rw [List.drop_zero]
  rw [cleanL, Bool.and_eq_true] at h ⊢
  refine ⟨?_, h.2⟩
  have h1 := h.1
  by_cases hk : x.Kind = 2
  ·rw [if_pos hk] at h1 ⊢
   rw [Bool.and_eq_true] at h1 ⊢
   exact ⟨rfl, h1.2⟩
  ·rw [if_neg hk]
 | x :: l, k + 1, t, h => by
  rw [cleanL, Bool.and_eq_true] at h
  rw [List.drop_succ_cons]
  exact clean_drop l k _ h.2
theorem clean_take : ∀ (l : List GNode) (k : Nat) (t : Bool), cleanL t l = true → cleanL t (l.take k) = true
 | [], k, t, _ => by simp [cleanL]
 | x :: l, 0, t, h => rfl
 | x :: l, k + 1, t, h => by
  rw [cleanL, Bool.and_eq_true] at h
  rw [List.take_succ_cons, cleanL, Bool.and_eq_true]
  exact ⟨h.1, clean_take l k _ h.2⟩
theorem clean_put : ∀ (a b : List GNode) (t : Bool) (y : GNode), y.Kind ≠ 2 → cleanL t a = true → cleanL false b = true → cleanL t (a ++ y :: b) = true
 | [], b, t, y, hy, _, hb => by rw [List.nil_append, cleanL, if_neg hy, decide_eq_false hy, hb]; rfl
 | x :: a, b, t, y, hy, ha, hb => by
  rw [cleanL, Bool.and_eq_true] at ha
  rw [List.cons_append, cleanL, Bool.and_eq_true]
  exact ⟨ha.1, clean_put a b _ y hy ha.2 hb⟩
inductive Good : GNode → Prop where
 | mk (n : GNode) : cleanL false n.Kids = true → (∀ k ∈ n.Kids, Good k) → Good n
theorem Good.clean {n : GNode} (h : Good n) : cleanL false n.Kids = true := by cases h; assumption
theorem Good.kid {n k : GNode} (h : Good n) (hk : k ∈ n.Kids) : Good k := by cases h with | mk _ _ h2 => exact h2 k hk
theorem Good.bare {n : GNode} (h : n.Kids = []) : Good n := ⟨n, by rw [h]; rfl, fun k hk => by rw [h] at hk; cases hk⟩
theorem one_leaf (n : GNode) (h : spec_l5One n = some true) (hk : n.Kind ≠ 1) : n.Kids = [] ∧ (n.Kind = 2 → n.Text ≠ ⟨#[]⟩) := by
 rw [spec_l5One, eqI_f hk] at h
 simp only [Bool.false_eq_true, if_false] at h
 have bare : ∀ {y : Option Bool}, (spec_l5Bare n >>= fun r => if r then y else some false) = some true → n.Kids = [] := fun hh => by
  have hb := (bind_true hh).1
  rw [spec_l5Bare] at hb
  have len : eqI (lenL n.Kids) 0 = true → n.Kids = [] := fun e => List.eq_nil_of_length_eq_zero (by have := eqI_iff.1 e; simp only [lenL] at this; omega)
  by_cases h1 : eqS n.Pre (⟨#[]⟩) = true <;> simp only [h1, if_true, if_false, Bool.false_eq_true] at hb
  ·by_cases h2 : eqS n.Uri (⟨#[]⟩) = true <;> simp only [h2, if_true, if_false, Bool.false_eq_true] at hb
   ·by_cases h3 : eqI (lenL n.Decls) 0 = true <;> simp only [h3, if_true, if_false, Bool.false_eq_true] at hb
    ·by_cases h4 : eqI (lenL n.Attrs) 0 = true <;> simp only [h4, if_true, if_false, Bool.false_eq_true] at hb
     ·exact len (by simpa using hb)
     ·simp at hb
    ·simp at hb
   ·simp at hb
  ·simp at hb
 by_cases h2 : n.Kind = 2
 ·rw [eqI_t h2] at h
  simp only [if_true] at h
  refine ⟨bare h, fun _ e => ?_⟩
  have h' := (bind_true h).2
  rw [e] at h'
  by_cases h3 : eqS n.Local (⟨#[]⟩) = true
  ·simp only [h3, if_true, neS_self, Bool.false_eq_true, if_false] at h'
   simp at h'
  ·simp only [h3, if_false, Bool.false_eq_true] at h'
   simp at h'
 ·refine ⟨?_, fun e => absurd e h2⟩
  rw [eqI_f h2] at h
  simp only [Bool.false_eq_true, if_false] at h
  by_cases h3 : n.Kind = 3
  ·rw [eqI_t h3] at h
   simp only [if_true] at h
   exact bare h
  ·rw [eqI_f h3] at h
   simp only [Bool.false_eq_true, if_false] at h
   by_cases h4 : n.Kind = 4
   ·rw [eqI_t h4] at h
    simp only [if_true] at h
    exact bare h
   ·rw [eqI_f h4] at h
    simp at h
def prevT (l : List GNode) (k : Nat) : Bool := match k with
 | 0 => false
 | k + 1 => match l[k]? with
  | some y => decide (y.Kind = 2)
  | none => false
theorem drop_k {l : List GNode} {k : Nat} {x : GNode} (h : l[k]? = some x) : l.drop k = x :: l.drop (k + 1) := by
 obtain ⟨h1, h2⟩ := List.getElem?_eq_some_iff.1 h
 rw [List.drop_eq_getElem_cons h1, h2]
theorem kids_good (N : Nat) : ∀ (l : List GNode), l.length + szs GNode.sz l ≤ N → N ≤ 1048576 → ∀ deep, spec_l5Kids l deep = some true → cleanL false l = true ∧ ∀ k ∈ l, Good k := by
 induction N using Nat.strongRecOn with
 | _ N ih =>
  intro l hl hN deep h
  rw [spec_l5Kids] at h
  have key : ∀ (m k : Nat), l.length ≤ k + m → k ≤ l.length → spec_l5Kids_l6 l deep k = some true → cleanL (prevT l k) (l.drop k) = true ∧ ∀ x ∈ l.drop k, Good x := by
   intro m
   induction m with
   | zero => intro k h1 h2 _; rw [List.drop_of_length_le (by omega)]; exact ⟨rfl, fun x hx => by cases hx⟩
   | succ m ihm =>
    intro k h1 h2 hF
    by_cases e : k = l.length
    ·rw [List.drop_of_length_le (by omega)]; exact ⟨rfl, fun x hx => by cases hx⟩
    ·obtain ⟨x, hx⟩ : ∃ x, l[k]? = some x := ⟨_, List.getElem?_eq_getElem (by omega)⟩
     have hm := szs_mem GNode.sz (mem_k hx)
     have hlt : x.Kids.length + szs GNode.sz x.Kids < N := by
      have := GNode.sz_eq x
      omega
     rw [spec_l5Kids_l6, lt_k hx, getI_k hx] at hF
     simp only [if_true, some_bnd] at hF
     obtain ⟨ho, hF⟩ := bind_true hF
     have j17 : spec_l5Kids_j17 l deep k x = some true → Good x ∧ spec_l5Kids_l6 l deep ((k + 1 : Nat) : Int) = some true := fun hj => by
      rw [spec_l5Kids_j17, add_k (by omega)] at hj
      by_cases hk1 : x.Kind = 1
      ·rw [eqI_t hk1] at hj
       simp only [if_true] at hj
       by_cases h7 : eqI deep 7 = true
       ·rw [h7] at hj; simp at hj
       ·simp only [h7, Bool.false_eq_true, if_false] at hj
        obtain ⟨g1, g2⟩ := bind_true hj
        obtain ⟨g3, g4⟩ := ih _ hlt x.Kids (Nat.le_refl _) (by omega) _ g1
        exact ⟨⟨x, g3, g4⟩, g2⟩
      ·rw [eqI_f hk1] at hj
       simp only [Bool.false_eq_true, if_false] at hj
       exact ⟨Good.bare (one_leaf x ho hk1).1, hj⟩
     have fin : (x.Kind = 2 → prevT l k = false) → spec_l5Kids_j17 l deep k x = some true → cleanL (prevT l k) (l.drop k) = true ∧ ∀ y ∈ l.drop k, Good y := fun hp hj => by
      obtain ⟨g1, g2⟩ := j17 hj
      obtain ⟨g3, g4⟩ := ihm (k + 1) (by omega) (by omega) g2
      rw [drop_k hx, cleanL, Bool.and_eq_true]
      have ep : prevT l (k + 1) = decide (x.Kind = 2) := by simp [prevT, hx]
      rw [ep] at g3
      refine ⟨⟨?_, g3⟩, fun y hy => ?_⟩
      ·by_cases h2 : x.Kind = 2
       ·rw [if_pos h2, hp h2]
        have := (one_leaf x ho (by omega)).2 h2
        simp [this]
       ·rw [if_neg h2]
      ·rcases List.mem_cons.1 hy with rfl | hy
       ·exact g1
       ·exact g4 y hy
     by_cases h2 : x.Kind = 2
     ·rw [eqI_t h2] at hF
      simp only [if_true] at hF
      by_cases h0 : k = 0
      ·subst h0
       exact fin (fun _ => rfl) hF
      ·obtain ⟨k', rfl⟩ : ∃ k', k = k' + 1 := ⟨k - 1, by omega⟩
       obtain ⟨y, hy⟩ : ∃ y, l[k']? = some y := ⟨_, List.getElem?_eq_getElem (by omega)⟩
       rw [gtI_t (by omega), show subI ((k' + 1 : Nat) : Int) 1 = (k' : Int) by rw [subI_eq (by omega) (by omega)]; omega, getI_k hy] at hF
       simp only [if_true, some_bnd] at hF
       by_cases hy2 : y.Kind = 2
       ·rw [eqI_t hy2] at hF; simp at hF
       ·rw [eqI_f hy2] at hF
        simp only [Bool.false_eq_true, if_false] at hF
        exact fin (fun _ => by simp [prevT, hy, hy2]) hF
     ·rw [eqI_f h2] at hF
      simp only [Bool.false_eq_true, if_false] at hF
      exact fin (fun e => absurd e h2) hF
  exact key l.length 0 (by omega) (by omega) h
theorem tree_good (n : GNode) (hs : n.sz ≤ 1048575) (h : spec_TreeOk n = some true) : Good n := by
 rw [spec_TreeOk] at h
 by_cases hk : n.Kind = 0
 ·rw [eqI_t hk] at h
  simp only [if_true] at h
  obtain ⟨h1, _⟩ := bind_true h
  rw [spec_NodeOk] at h1
  obtain ⟨c, ec⟩ := count_ends n (by omega)
  rw [ec, some_bnd] at h1
  by_cases h60 : gtI c 60 = true
  ·rw [h60] at h1; simp at h1
  ·simp only [h60, Bool.false_eq_true, if_false, show neI n.Kind 0 = false by rw [neI_eq, eqI_t hk]; rfl] at h1
   have key : ∀ (m k : Nat) (a : Int), n.Kids.length ≤ k + m → k ≤ n.Kids.length → spec_NodeOk_l24 a k n = some true → spec_l5Kids n.Kids 0 = some true := by
    intro m
    have fin : ∀ a : Int, spec_NodeOk_l24 a ((n.Kids.length : Nat) : Int) n = some true → spec_l5Kids n.Kids 0 = some true := fun a hF => by
     rw [spec_NodeOk_l24, end_k] at hF
     simp only [Bool.false_eq_true, if_false] at hF
     by_cases e1 : eqI a 1 = true <;> simp only [e1, if_true, if_false, Bool.false_eq_true] at hF
     ·by_cases e2 : eqS n.Pre (⟨#[]⟩) = true <;> simp only [e2, if_true, if_false, Bool.false_eq_true] at hF
      ·by_cases e3 : eqS n.Local (⟨#[]⟩) = true <;> simp only [e3, if_true, if_false, Bool.false_eq_true] at hF
       ·by_cases e4 : eqS n.Uri (⟨#[]⟩) = true <;> simp only [e4, if_true, if_false, Bool.false_eq_true] at hF
        ·by_cases e5 : eqS n.Text (⟨#[]⟩) = true <;> simp only [e5, if_true, if_false, Bool.false_eq_true] at hF
         ·by_cases e6 : eqI (lenL n.Decls) 0 = true <;> simp only [e6, if_true, if_false, Bool.false_eq_true] at hF
          ·by_cases e7 : eqI (lenL n.Attrs) 0 = true <;> simp only [e7, if_true, if_false, Bool.false_eq_true] at hF
           ·obtain ⟨b, eb⟩ := kids_ends 1048576 n.Kids (by have := GNode.sz_eq n; omega) (by omega) 0
            rw [eb] at hF ⊢
            exact hF
           ·simp at hF
          ·simp at hF
         ·simp at hF
        ·simp at hF
       ·simp at hF
      ·simp at hF
     ·simp at hF
    induction m with
    | zero => intro k a h1 h2 hF; rw [show k = n.Kids.length by omega] at hF; exact fin a hF
    | succ m ihm =>
     intro k a h1 h2 hF
     by_cases e : k = n.Kids.length
     ·rw [e] at hF; exact fin a hF
     ·obtain ⟨x, hx⟩ : ∃ x, n.Kids[k]? = some x := ⟨_, List.getElem?_eq_getElem (by omega)⟩
      have hz := GNode.sz_eq n
      have j33 : ∀ b : Int, spec_NodeOk_j33 b k n = some true → spec_l5Kids n.Kids 0 = some true := fun b hb => by
       rw [spec_NodeOk_j33, getI_k hx, add_k (by omega)] at hb
       simp only [some_bnd] at hb
       by_cases e2 : eqI x.Kind 2 = true
       ·rw [e2] at hb; simp at hb
       ·simp only [e2, Bool.false_eq_true, if_false] at hb
        exact ihm (k + 1) b (by omega) (by omega) hb
      rw [spec_NodeOk_l24, lt_k hx, getI_k hx] at hF
      simp only [if_true, some_bnd] at hF
      by_cases e1 : eqI x.Kind 1 = true
      ·rw [e1] at hF; exact j33 _ hF
      ·simp only [e1, Bool.false_eq_true, if_false] at hF; exact j33 _ hF
   obtain ⟨g1, g2⟩ := kids_good 1048576 n.Kids (by have := GNode.sz_eq n; omega) (by omega) 0 (key n.Kids.length 0 0 (by omega) (by omega) h1)
   exact ⟨n, g1, g2⟩
 ·rw [eqI_f hk] at h
  simp at h
theorem l5Draw_good (c : Gl1Cur) (h : Cok c) : Tot (spec_l5Draw c) fun r => r.1.sz ≤ 3000 ∧ Cok r.2 ∧ Good r.1 :=
 l5Draw_totP Good (fun n hn ht => tree_good n (by omega) ht) ⟨_, by rw [cleanL]; rfl, fun k hk => by simp at hk; subst hk; exact Good.bare rfl⟩ c h
end TT
namespace TT
open Go
section
variable (l : List GNode) (hl : l.length ≤ 4000000)
include hl
theorem Merge_impl_step {pre rest out : List GNode} {x : GNode} (hp : pre ++ x :: rest = l) (hw : wt out + (1 + x.sz) ≤ 1048576) : impl_Merge_l8 out l pre.length = impl_Merge_l8 (mstep out x) l ((pre ++ [x]).length : Nat) := by
 have hol := wt_len out
 have hcp := copy_impl x (by omega)
 have hr : room (out.length + 1) 144 = some () := room_ok (by omega) (by omega) (by omega)
 have hx := text_sz x
 rw [impl_Merge_l8, more_at hp, getI_at hp]
 simp only [if_true, some_bnd]
 have app : impl_Merge_j26 out l pre.length false x = impl_Merge_l8 (out ++ [x]) l ((pre ++ [x]).length : Nat) := by
  rw [impl_Merge_j26, hcp, hr, next_at hp (by rw [maxLen_eq]; omega)]; rfl
 unfold mstep
 by_cases h2 : x.Kind = 2
 ·rw [eqI_t h2, if_pos h2, impl_Merge_j22, eqI_t h2, next_at hp (by rw [maxLen_eq]; omega)]
  simp only [if_true]
  by_cases h3 : x.Text = ⟨#[]⟩
  ·rw [eqS_iff.2 h3, if_pos h3]; rfl
  ·rw [eqS_f h3, if_neg h3]
   simp only [Bool.false_eq_true, if_false]
   rcases List.eq_nil_or_concat out with rfl | ⟨o, y, rfl⟩
   ·rw [gtI_f (by simp [lenL])]
    exact app
   ·rw [List.concat_eq_append] at app hr hw hol ⊢
    rw [wt_append, wt_cons] at hw
    have hy := text_sz y
    have hol' : o.length ≤ 4000000 := by rw [List.length_append] at hol; have := wt_len o; omega
    rw [gtI_t (by simp only [lenL, List.length_append, List.length_singleton]; omega), last_at hol']
    simp only [if_true, getI_at (show o ++ y :: [] = o ++ [y] from rfl), some_bnd, List.getLast?_concat, List.dropLast_concat]
    by_cases h4 : y.Kind = 2
    ·rw [eqI_t h4, if_pos h4, impl_Merge_j26, last_at hol']
     simp only [if_true, getI_at (show o ++ y :: [] = o ++ [y] from rfl), some_bnd, catS_ok (show y.Text.size + x.Text.size ≤ 4000000 by omega), set_last, next_at hp (show l.length ≤ maxLen by rw [maxLen_eq]; omega)]
     rfl
    ·rw [eqI_f h4, if_neg h4]; exact app
 ·rw [eqI_f h2, if_neg h2]
  simp only [Bool.false_eq_true, if_false]
  rw [impl_Merge_j22, eqI_f h2]
  simp only [Bool.false_eq_true, if_false]
  exact app
end
theorem merge_loopI (l : List GNode) (hl : l.length ≤ 4000000) : ∀ rest pre out : List GNode, pre ++ rest = l → wt out + wt rest ≤ 1048576 → impl_Merge_l8 out l pre.length = some (rest.foldl mstep out)
 | [], pre, out, hp, hw => by rw [impl_Merge_l8, end_at hp]; rfl
 | x :: rest, pre, out, hp, hw => by
  rw [wt_cons] at hw
  have h1 := mstep_wt out x
  rw [Merge_impl_step l hl hp (by omega)]
  exact merge_loopI l hl rest (pre ++ [x]) (mstep out x) (step_at hp) (by omega)
theorem merge_both (l : List GNode) (h : wt l ≤ 1048576) : spec_Merge l = some (mergeP l) ∧ impl_Merge l = some (mergeP l) ∧ wt (mergeP l) ≤ wt l := by
 have := wt_len l
 obtain ⟨g1, g3⟩ := merge_spec l h
 exact ⟨g1, by rw [impl_Merge]; exact merge_loopI l (by omega) l [] [] rfl (by show 0 + _ ≤ _; omega), g3⟩
end TT
namespace TT
open Go
theorem szs_set {x y : GNode} : ∀ {l : List GNode} {i : Nat}, l[i]? = some x → szs GNode.sz (l.set i y) + x.sz = szs GNode.sz l + y.sz
 | z :: l, 0, h => by
  simp only [List.getElem?_cons_zero, Option.some.injEq] at h
  subst h
  rw [List.set_cons_zero, szs_cons, szs_cons]; omega
 | z :: l, i + 1, h => by
  rw [List.getElem?_cons_succ] at h
  have := szs_set (y := y) h
  rw [List.set_cons_succ, szs_cons, szs_cons]; omega
theorem getI_nat {l : List GNode} {i : Int} {x : GNode} (h : getI l i = some x) : 0 ≤ i ∧ i.toNat < l.length ∧ l[i.toNat]? = some x := by
 unfold getI at h
 split at h
 ·rename_i h0
  exact ⟨h0, (List.getElem?_eq_some_iff.1 h).1, h⟩
 ·cases h
theorem slL_to {α : Type} (l : List α) (k : Nat) (h : k ≤ l.length) : slL l 0 (k : Int) = some (l.take k) := by
 unfold slL; rw [if_pos ⟨by omega, by omega, by omega⟩]; simp
theorem slL_from {α : Type} (l : List α) (k : Nat) (h : k ≤ l.length) : slL l (k : Int) (lenL l) = some (l.drop k) := by
 unfold slL; rw [if_pos ⟨by omega, by simp only [lenL]; omega, by simp only [lenL]; omega⟩]
 simp only [lenL, Int.toNat_natCast]
 rw [List.take_of_length_le (by simp)]
def withKids (n : GNode) (l : List GNode) : GNode := GNode.mk n.Kind n.Pre n.Local n.Uri n.Decls n.Attrs l n.Text
theorem withKids_sz (n : GNode) (l : List GNode) : (withKids n l).sz + (n.Kids.length + szs GNode.sz n.Kids) = n.sz + (l.length + szs GNode.sz l) := by
 rw [GNode.sz_eq (withKids n l), GNode.sz_eq n]
 simp only [withKids]; omega
def turnP (k j : Nat) (l : List GNode) : List Int → GNode → GNode
 | [], n => withKids n (mergeP (n.Kids.take k ++ l ++ n.Kids.drop j))
 | i :: p, n => match getI n.Kids i with
  | some x => withKids n (n.Kids.set i.toNat (turnP k j l p x))
  | none => n
theorem wt_take_drop (L : List GNode) (k j : Nat) (h : k ≤ j) (l : List GNode) : wt (L.take k ++ l ++ L.drop j) ≤ wt L + wt l := by
 have h1 : wt (L.take k) + wt (L.drop k) = wt L := by rw [← wt_append, List.take_append_drop]
 have h2 : wt ((L.drop k).take (j - k)) + wt (L.drop j) = wt (L.drop k) := by
  rw [← wt_append]
  have : L.drop j = (L.drop k).drop (j - k) := by rw [List.drop_drop]; congr 1; omega
  rw [this, List.take_append_drop]
 rw [wt_append, wt_append]; omega
theorem turn_both (k j : Nat) (hkj : k ≤ j) (l : List GNode) : ∀ (p : List Int) (n x : GNode), p.length ≤ 2000000 → nodeAt n p = some x → j ≤ x.Kids.length → n.sz + wt l ≤ 1048576 →
  spec_l10Turn n p (k : Int) (j : Int) l = some (turnP k j l p n) ∧ (turnP k j l p n).sz ≤ n.sz + wt l
 | [], n, x, hp, hx, hj, hs => by
  simp only [nodeAt, Option.some.injEq] at hx
  subst hx
  have hk := kids_len (n := n)
  have hz := hs
  rw [GNode.sz_eq n] at hz
  have hw : wt (n.Kids.take k ++ l ++ n.Kids.drop j) ≤ wt n.Kids + wt l := wt_take_drop _ _ _ hkj l
  have hwk : wt n.Kids = n.Kids.length + szs GNode.sz n.Kids := rfl
  obtain ⟨m1, m2, m3⟩ := merge_both (n.Kids.take k ++ l ++ n.Kids.drop j) (by omega)
  have hll := wt_len l
  have hl1 : (n.Kids.take k).length ≤ n.Kids.length := by rw [List.length_take]; omega
  have hl2 : (n.Kids.drop j).length ≤ n.Kids.length := by rw [List.length_drop]; omega
  constructor
  ·rw [spec_l10Turn, eqI_t (show lenL ([] : List Int) = 0 from rfl), slL_to _ _ (by omega), slL_from _ _ hj]
   simp only [if_true, some_bnd, List.nil_append]
   rw [room_ok (by omega) (by omega) (by omega), room_ok (by omega) (by omega) (by omega), room_ok (by omega) (by omega) (by omega), m1]
   rfl
  ·have := withKids_sz n (mergeP (n.Kids.take k ++ l ++ n.Kids.drop j))
   have hm : wt (mergeP (n.Kids.take k ++ l ++ n.Kids.drop j)) = (mergeP (n.Kids.take k ++ l ++ n.Kids.drop j)).length + szs GNode.sz (mergeP (n.Kids.take k ++ l ++ n.Kids.drop j)) := rfl
   show (withKids n _).sz ≤ _
   omega
 | i :: p, n, x, hp, hx, hj, hs => by
  obtain ⟨y, h1, h2⟩ := Option.bind_eq_some_iff.1 hx
  obtain ⟨i0, i1, i2⟩ := getI_nat h1
  have hk := kids_len (n := n)
  have hy := kid_sz h1
  have hl : p.length ≤ 2000000 := by rw [List.length_cons] at hp; omega
  obtain ⟨g1, g2⟩ := turn_both k j hkj l p y x hl h2 hj (by omega)
  have e1 : slL (i :: p) 1 (lenL (i :: p)) = some p := slL_from (i :: p) 1 (by simp)
  have e2 : getI (i :: p) 0 = some i := rfl
  constructor
  ·rw [spec_l10Turn, eqI_f (by simp only [lenL, List.length_cons]; omega), room_ok (by omega) (by omega) (by omega), e1, e2]
   simp only [Bool.false_eq_true, if_false, some_bnd, h1, g1, List.nil_append, turnP]
   rfl
  ·have := withKids_sz n (n.Kids.set i.toNat (turnP k j l p y))
   have h3 := szs_set (y := turnP k j l p y) i2
   simp only [turnP, h1]
   rw [List.length_set] at this
   omega
theorem nodeAt_snoc : ∀ (p : List Int) {n y : GNode} {k : Int}, nodeAt n (p ++ [k]) = some y → ∃ x, nodeAt n p = some x ∧ getI x.Kids k = some y
 | [], n, y, k, h => by
  rw [List.nil_append] at h
  obtain ⟨z, h1, h2⟩ := Option.bind_eq_some_iff.1 h
  simp only [nodeAt, Option.some.injEq] at h2
  exact ⟨n, rfl, by rw [h1, h2]⟩
 | i :: p, n, y, k, h => by
  rw [List.cons_append] at h
  obtain ⟨z, h1, h2⟩ := Option.bind_eq_some_iff.1 h
  obtain ⟨x, h3, h4⟩ := nodeAt_snoc p h2
  exact ⟨x, by show (getI n.Kids i).bind _ = _; rw [h1]; exact h3, h4⟩
theorem turn_impl (k : Nat) (l : List GNode) : ∀ (p : List Int) (n x : GNode), p.length ≤ 2000000 → nodeAt n p = some x → k < x.Kids.length → n.sz + wt l ≤ 1048576 →
  impl_turnedAt_PutAt_1 n p (k : Int) l = some (turnP k (k + 1) l p n)
 | [], n, x, hp, hx, hj, hs => by
  simp only [nodeAt, Option.some.injEq] at hx
  subst hx
  have hk := kids_len (n := n)
  have hz := hs
  rw [GNode.sz_eq n] at hz
  have hw : wt (n.Kids.take k ++ l ++ n.Kids.drop (k + 1)) ≤ wt n.Kids + wt l := wt_take_drop _ _ _ (by omega) l
  have hwk : wt n.Kids = n.Kids.length + szs GNode.sz n.Kids := rfl
  obtain ⟨m1, m2, m3⟩ := merge_both (n.Kids.take k ++ l ++ n.Kids.drop (k + 1)) (by omega)
  have hll := wt_len l
  have hl1 : (n.Kids.take k).length ≤ n.Kids.length := by rw [List.length_take]; omega
  have hl2 : (n.Kids.drop (k + 1)).length ≤ n.Kids.length := by rw [List.length_drop]; omega
  have e1 : addI (k : Int) 1 = ((k + 1 : Nat) : Int) := by rw [addI_eq (by omega) (by omega)]; omega
  rw [impl_turnedAt_PutAt_1, copy_impl n (by omega), eqI_t (show lenL ([] : List Int) = 0 from rfl)]
  simp only [if_true, some_bnd]
  rw [impl_PutAt_1_PP', impl_spliced, e1, slL_to _ _ (by omega), slL_from _ _ (by omega)]
  simp only [some_bnd]
  rw [slices_Concat_Node]
  rw [if_pos ⟨by omega, by omega⟩]
  simp only [some_bnd, m2]
  rfl
 | i :: p, n, x, hp, hx, hj, hs => by
  obtain ⟨y, h1, h2⟩ := Option.bind_eq_some_iff.1 hx
  have hy := kid_sz h1
  have hl : p.length ≤ 2000000 := by rw [List.length_cons] at hp; omega
  have g1 := turn_impl k l p y x hl h2 hj (by omega)
  have e1 : slL (i :: p) 1 (lenL (i :: p)) = some p := slL_from (i :: p) 1 (by simp)
  have e2 : getI (i :: p) 0 = some i := rfl
  rw [impl_turnedAt_PutAt_1, copy_impl n (by omega), eqI_f (by simp only [lenL, List.length_cons]; omega), e1, e2]
  simp only [Bool.false_eq_true, if_false, some_bnd, h1, g1, turnP]
  rfl
end TT
