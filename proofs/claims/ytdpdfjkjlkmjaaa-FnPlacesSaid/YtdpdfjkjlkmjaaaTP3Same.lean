import Derived.Test.YtdpdfjkjlkmjaaaTP3Cur
import Derived.Test.YtdpdfjkjlkmjaaaTP2Copy
set_option linter.unusedVariables false
set_option linter.unusedSimpArgs false
namespace TT
open Go
theorem loop_is {α ρ : Type} (l : List α) (F : Int → Option ρ) (r : ρ) (hF : ∀ (k : Nat) x, l[k]? = some x → F ((k + 1 : Nat) : Int) = some r → F (k : Int) = some r) (h0 : F ((l.length : Nat) : Int) = some r) : F 0 = some r := by
 have key : ∀ (m k : Nat), k ≤ l.length → l.length ≤ k + m → F (k : Int) = some r := by
  intro m
  induction m with
  | zero => intro k h1 h2; rw [show k = l.length by omega]; exact h0
  | succ m ih =>
   intro k h1 h2
   by_cases e : k = l.length
   ·rw [e]; exact h0
   ·exact hF k _ (List.getElem?_eq_getElem (by omega)) (ih (k + 1) (by omega) (by omega))
 exact key l.length 0 (by omega) (by omega)
theorem equal_decls (l : List GDecl) (hl : l.length ≤ 4000000) : slices_Equal_Decl l l = some true := by
 rw [slices_Equal_Decl, neI_self]
 refine loop_is l (fun i => slices_Equal_Decl_l14 l l i) true (fun k x hx ih => ?_) ?_
 ·have := len_k hx
  show slices_Equal_Decl_l14 l l k = _
  rw [slices_Equal_Decl_l14, lt_k hx, getI_k hx, add_k (by omega)]
  simp only [if_true, some_bnd, eqS_self, Bool.and_self]
  exact ih
 ·show slices_Equal_Decl_l14 l l _ = _
  rw [slices_Equal_Decl_l14, end_k]; rfl
theorem equal_attrs (l : List GAttr) (hl : l.length ≤ 4000000) : slices_Equal_Attr l l = some true := by
 rw [slices_Equal_Attr, neI_self]
 refine loop_is l (fun i => slices_Equal_Attr_l14 l l i) true (fun k x hx ih => ?_) ?_
 ·have := len_k hx
  show slices_Equal_Attr_l14 l l k = _
  rw [slices_Equal_Attr_l14, lt_k hx, getI_k hx, add_k (by omega)]
  simp only [if_true, some_bnd, eqS_self, Bool.and_self]
  exact ih
 ·show slices_Equal_Attr_l14 l l _ = _
  rw [slices_Equal_Attr_l14, end_k]; rfl
theorem sameNode_self : ∀ n : GNode, n.sz ≤ 1048576 → impl_SameNode n n = some true := by
 refine GNode.ind' fun n ih hs => ?_
 rw [GNode.sz_eq] at hs
 have ha : impl_sameAlone n n = some true := by
  rw [impl_sameAlone, eqI_self, eqS_self, eqS_self, eqS_self, eqS_self, equal_decls _ (by omega), equal_attrs _ (by omega)]; rfl
 have hk : slices_EqualFunc_Node_SameNode n.Kids n.Kids = some true := by
  rw [slices_EqualFunc_Node_SameNode, neI_self]
  refine loop_is n.Kids (fun i => slices_EqualFunc_Node_SameNode_l14 n.Kids n.Kids i) true (fun k x hx h => ?_) ?_
  ·have := len_k hx
   have h2 := szs_mem GNode.sz (mem_k hx)
   show slices_EqualFunc_Node_SameNode_l14 n.Kids n.Kids k = _
   rw [slices_EqualFunc_Node_SameNode_l14, lt_k hx, getI_k hx, add_k (by omega)]
   simp only [if_true, some_bnd, ih x (mem_k hx) (by omega)]
   exact h
  ·show slices_EqualFunc_Node_SameNode_l14 n.Kids n.Kids _ = _
   rw [slices_EqualFunc_Node_SameNode_l14, end_k]; rfl
 rw [impl_SameNode, ha, some_bnd, hk]; rfl
end TT
namespace TT
open Go
mutual
def plP : GNode → List Int → List (List Int)
 | ⟨_, _, _, _, _, _, kids, _⟩, a => a :: plL kids a 0
def plL : List GNode → List Int → Nat → List (List Int)
 | [], _, _ => []
 | x :: l, a, i => plP x (a ++ [(i : Int)]) ++ plL l a (i + 1)
end
mutual
def preP : GNode → List GNode
 | ⟨k, p, l, u, d, a, kids, t⟩ => ⟨k, p, l, u, d, a, kids, t⟩ :: preL kids
def preL : List GNode → List GNode
 | [] => []
 | x :: l => preP x ++ preL l
end
theorem plP_eq (n : GNode) (a : List Int) : plP n a = a :: plL n.Kids a 0 := by cases n; rfl
theorem preP_eq (n : GNode) : preP n = n :: preL n.Kids := by cases n; rfl
theorem preL_len : ∀ l : List GNode, (∀ k ∈ l, (preP k).length ≤ 1 + k.sz) → (preL l).length ≤ l.length + szs GNode.sz l
 | [], _ => Nat.le_refl _
 | x :: l, h => by
  have h1 := h x (List.mem_cons_self ..)
  have h2 := preL_len l fun k hk => h k (List.mem_cons_of_mem _ hk)
  rw [preL, List.length_append, szs_cons, List.length_cons]; omega
theorem preP_len : ∀ n : GNode, (preP n).length ≤ 1 + n.sz := by
 refine GNode.ind' fun n ih => ?_
 have := preL_len n.Kids ih
 rw [preP_eq, List.length_cons, GNode.sz_eq]; omega
theorem concat2 (p : List Int) (i : Int) (h : p.length ≤ 3000000) : slices_Concat_int [p, [i]] = some (p ++ [i]) := by
 unfold slices_Concat_int
 have h1 : ([i] : List Int).length = 1 := rfl
 simp only [h1]
 rw [if_pos ⟨by omega, by omega⟩]
theorem plL_len : ∀ (l : List GNode) (a : List Int) (i : Nat), (∀ k ∈ l, ∀ a, (plP k a).length = (preP k).length) → (plL l a i).length = (preL l).length
 | [], a, i, _ => rfl
 | x :: l, a, i, h => by
  rw [plL, preL, List.length_append, List.length_append, h x (List.mem_cons_self ..), plL_len l a (i + 1) fun k hk => h k (List.mem_cons_of_mem _ hk)]
theorem plP_len : ∀ (n : GNode) (a : List Int), (plP n a).length = (preP n).length := by
 refine GNode.ind' fun n ih a => ?_
 rw [plP_eq, preP_eq, List.length_cons, List.length_cons, plL_len n.Kids a 0 ih]
theorem placesIn_eq : ∀ n : GNode, n.sz ≤ 1048576 → ∀ (a : List Int) (out : List (List Int)), a.length + n.sz ≤ 2500000 → out.length + 1 + n.sz ≤ 3000000 → impl_placesIn n a out = some (out ++ plP n a) := by
 refine GNode.ind' fun n ih hs a out ha ho => ?_
 have hz := GNode.sz_eq n
 have loop : ∀ (rest pre : List GNode) (out : List (List Int)), pre ++ rest = n.Kids → out.length + rest.length + szs GNode.sz rest ≤ 3000000 → impl_placesIn_l8 a out n pre.length = some (out ++ plL rest a pre.length) := by
  intro rest
  induction rest with
  | nil => intro pre out hp _; rw [impl_placesIn_l8, end_at hp, plL, List.append_nil]; rfl
  | cons x rest ihr =>
   intro pre out hp hb
   rw [szs_cons, List.length_cons] at hb
   have hx : x ∈ n.Kids := by rw [← hp]; simp
   have hxs := szs_mem GNode.sz hx
   have hl1 : 1 ≤ n.Kids.length := List.length_pos_of_mem hx
   have h1 := ih x hx (by omega) (a ++ [(pre.length : Int)]) out (by simp only [List.length_append, List.length_singleton]; omega) (by omega)
   have hpl := plP_len x (a ++ [(pre.length : Int)])
   have hpr := preP_len x
   have h2 := ihr (pre ++ [x]) (out ++ plP x (a ++ [(pre.length : Int)])) (step_at hp) (by rw [List.length_append]; omega)
   rw [impl_placesIn_l8, more_at hp, getI_at hp, next_at hp (by rw [maxLen_eq]; omega), concat2 _ _ (by omega)]
   simp only [if_true, some_bnd, h1, h2]
   rw [plL, List.append_assoc, List.length_append, List.length_singleton]
 have := loop n.Kids [] (out ++ [a]) rfl (by simp only [List.length_append, List.length_singleton]; omega)
 have e : ((([] : List GNode).length : Nat) : Int) = 0 := rfl
 rw [e] at this
 rw [impl_placesIn, slices_Clone_int, room_ok (by omega) (by omega) (by omega)]
 simp only [some_bnd]
 rw [room_ok (by omega) (by omega) (by omega)]
 simp only [some_bnd, this, plP_eq, List.length_nil, List.append_assoc, List.singleton_append]
theorem places_eq (n : GNode) (hs : n.sz ≤ 1048576) : impl_Places n = some (plP n []) := by
 rw [impl_Places, placesIn_eq n hs [] [] (by simp only [List.length_nil]; omega) (by simp only [List.length_nil]; omega)]; rfl
def At (n : GNode) (a : List Int) (q : List Int) (x : GNode) : Prop := ∃ p, q = a ++ p ∧ nodeAt n p = some x
theorem plP_at : ∀ (n : GNode) (a : List Int) (j : Nat) (q : List Int) (x : GNode), (plP n a)[j]? = some q → (preP n)[j]? = some x → At n a q x := by
 refine GNode.ind' fun n ih a j q x hq hx => ?_
 rw [plP_eq] at hq
 rw [preP_eq] at hx
 cases j with
 | zero =>
  simp only [List.getElem?_cons_zero, Option.some.injEq] at hq hx
  subst hq; subst hx
  exact ⟨[], by simp, rfl⟩
 | succ j =>
  rw [List.getElem?_cons_succ] at hq hx
  have key : ∀ (rest pre : List GNode) (j : Nat), pre ++ rest = n.Kids → (plL rest a pre.length)[j]? = some q → (preL rest)[j]? = some x → At n a q x := by
   intro rest
   induction rest with
   | nil => intro pre j hp hq hx; simp [preL] at hx
   | cons y rest ihr =>
    intro pre j hp hq hx
    rw [plL] at hq
    rw [preL] at hx
    have hl := plP_len y (a ++ [(pre.length : Int)])
    by_cases hj : j < (preP y).length
    ·rw [List.getElem?_append_left (by omega)] at hq
     rw [List.getElem?_append_left hj] at hx
     obtain ⟨p, e1, e2⟩ := ih y (by rw [← hp]; simp) _ j q x hq hx
     refine ⟨(pre.length : Int) :: p, by rw [e1]; simp, ?_⟩
     show (getI n.Kids (pre.length : Int)).bind _ = _
     rw [getI_at hp]; exact e2
    ·rw [List.getElem?_append_right (by omega), hl] at hq
     rw [List.getElem?_append_right (by omega)] at hx
     exact ihr (pre ++ [y]) _ (step_at hp) (by rw [List.length_append, List.length_singleton]; exact hq) hx
  exact key n.Kids [] j rfl hq hx
theorem plP_pre : ∀ (n : GNode) (a : List Int) (q : List Int), q ∈ plP n a → ∃ p, q = a ++ p := by
 refine GNode.ind' fun n ih a q hq => ?_
 rw [plP_eq] at hq
 rcases List.mem_cons.1 hq with hq | hq
 ·exact ⟨[], by simp [hq]⟩
 ·have key : ∀ (l : List GNode) (i : Nat), (∀ k ∈ l, k ∈ n.Kids) → q ∈ plL l a i → ∃ p, q = a ++ p := by
   intro l
   induction l with
   | nil => intro i _ h; simp [plL] at h
   | cons x l ihl =>
    intro i hm h
    rw [plL] at h
    rcases List.mem_append.1 h with h | h
    ·obtain ⟨p, e⟩ := ih x (hm x (List.mem_cons_self ..)) _ _ h
     exact ⟨(i : Int) :: p, by rw [e]; simp⟩
    ·exact ihl (i + 1) (fun k hk => hm k (List.mem_cons_of_mem _ hk)) h
  exact key n.Kids 0 (fun k h => h) hq
theorem plL_pre : ∀ (l : List GNode) (a : List Int) (i : Nat) (q : List Int), q ∈ plL l a i → ∃ (j : Nat) (p : List Int), i ≤ j ∧ q = a ++ ((j : Int) :: p)
 | [], a, i, q, h => by simp [plL] at h
 | x :: l, a, i, q, h => by
  rw [plL] at h
  rcases List.mem_append.1 h with h | h
  ·obtain ⟨p, e⟩ := plP_pre x _ q h
   exact ⟨i, p, Nat.le_refl _, by rw [e]; simp⟩
  ·obtain ⟨j, p, h1, h2⟩ := plL_pre l a (i + 1) q h
   exact ⟨j, p, by omega, h2⟩
theorem plP_nodup : ∀ (n : GNode) (a : List Int), (plP n a).Nodup := by
 refine GNode.ind' fun n ih a => ?_
 rw [plP_eq, List.nodup_cons]
 constructor
 ·intro h
  obtain ⟨j, p, _, e⟩ := plL_pre _ _ _ _ h
  have := congrArg List.length e
  simp at this
 ·have key : ∀ (l : List GNode) (i : Nat), (∀ k ∈ l, k ∈ n.Kids) → (plL l a i).Nodup := by
   intro l
   induction l with
   | nil => intro i _; exact List.nodup_nil
   | cons x l ihl =>
    intro i hm
    rw [plL, List.nodup_append]
    refine ⟨ih x (hm x (List.mem_cons_self ..)) _, ihl (i + 1) fun k hk => hm k (List.mem_cons_of_mem _ hk), fun q hq q' hq' e => ?_⟩
    subst e
    obtain ⟨p, e1⟩ := plP_pre x _ q hq
    obtain ⟨j, p', h1, e2⟩ := plL_pre l a (i + 1) q hq'
    rw [e1, List.append_assoc] at e2
    have := List.append_cancel_left e2
    simp at this
    omega
  exact key n.Kids 0 fun k h => h
theorem nodes_eq : ∀ n : GNode, n.sz ≤ 1048576 → spec_Nodes n = some (((preP n).length : Nat) : Int) := by
 refine GNode.ind' fun n ih hs => ?_
 have hz := GNode.sz_eq n
 have loop : ∀ (rest pre : List GNode) (k : Nat), pre ++ rest = n.Kids → k + rest.length + szs GNode.sz rest ≤ 3000000 → spec_Nodes_l8 (k : Nat) pre.length n = some ((k + (preL rest).length : Nat) : Int) := by
  intro rest
  induction rest with
  | nil => intro pre k hp _; rw [spec_Nodes_l8, end_at hp]; rfl
  | cons x rest ihr =>
   intro pre k hp hb
   rw [szs_cons, List.length_cons] at hb
   have hx : x ∈ n.Kids := by rw [← hp]; simp
   have hxs := szs_mem GNode.sz hx
   have hpr := preP_len x
   have h1 := ih x hx (by omega)
   have h2 := ihr (pre ++ [x]) (k + (preP x).length) (step_at hp) (by omega)
   rw [spec_Nodes_l8, more_at hp, getI_at hp, next_at hp (by rw [maxLen_eq]; omega)]
   simp only [if_true, some_bnd, h1]
   rw [show addI (k : Int) ((preP x).length : Nat) = ((k + (preP x).length : Nat) : Int) by rw [addI_eq (by omega) (by omega)]; omega, h2, preL, List.length_append]
   congr 2; omega
 have := loop n.Kids [] 1 rfl (by omega)
 rw [spec_Nodes]
 have e : ((([] : List GNode).length : Nat) : Int) = 0 := rfl
 rw [e] at this
 rw [show (1 : Int) = ((1 : Nat) : Int) from rfl, this, preP_eq, List.length_cons]
 congr 2; omega
def cw (l : List GNode) : Nat := (l.map fun x => 1 + x.Attrs.length).sum
theorem cw_append (a b : List GNode) : cw (a ++ b) = cw a + cw b := by simp [cw]
theorem cw_cons (x : GNode) (b : List GNode) : cw (x :: b) = 1 + x.Attrs.length + cw b := by simp [cw]
theorem cwL_le : ∀ l : List GNode, (∀ k ∈ l, cw (preP k) ≤ 1 + k.sz) → cw (preL l) ≤ l.length + szs GNode.sz l
 | [], _ => Nat.le_refl _
 | x :: l, h => by
  have h1 := h x (List.mem_cons_self ..)
  have h2 := cwL_le l fun k hk => h k (List.mem_cons_of_mem _ hk)
  rw [preL, cw_append, szs_cons, List.length_cons]; omega
theorem cw_le : ∀ n : GNode, cw (preP n) ≤ 1 + n.sz := by
 refine GNode.ind' fun n ih => ?_
 have := cwL_le n.Kids ih
 rw [preP_eq, cw_cons, GNode.sz_eq]; omega
theorem count_eq : ∀ n : GNode, n.sz ≤ 1048576 → impl_CountOf n = some ((cw (preP n) : Nat) : Int) := by
 refine GNode.ind' fun n ih hs => ?_
 have hz := GNode.sz_eq n
 have loop : ∀ (rest pre : List GNode) (k : Nat), pre ++ rest = n.Kids → k + rest.length + szs GNode.sz rest ≤ 3000000 → impl_CountOf_l8 (k : Nat) n pre.length = some ((k + cw (preL rest) : Nat) : Int) := by
  intro rest
  induction rest with
  | nil => intro pre k hp _; rw [impl_CountOf_l8, end_at hp]; rfl
  | cons x rest ihr =>
   intro pre k hp hb
   rw [szs_cons, List.length_cons] at hb
   have hx : x ∈ n.Kids := by rw [← hp]; simp
   have hxs := szs_mem GNode.sz hx
   have hpr := cw_le x
   have h1 := ih x hx (by omega)
   have h2 := ihr (pre ++ [x]) (k + cw (preP x)) (step_at hp) (by omega)
   rw [impl_CountOf_l8, more_at hp, getI_at hp, next_at hp (by rw [maxLen_eq]; omega)]
   simp only [if_true, some_bnd, h1]
   rw [show addI (k : Int) (cw (preP x) : Nat) = ((k + cw (preP x) : Nat) : Int) by rw [addI_eq (by omega) (by omega)]; omega, h2, preL, cw_append]
   congr 2; omega
 have := loop n.Kids [] (1 + n.Attrs.length) rfl (by omega)
 rw [impl_CountOf]
 have e : ((([] : List GNode).length : Nat) : Int) = 0 := rfl
 rw [e] at this
 rw [show addI 1 (lenL n.Attrs) = ((1 + n.Attrs.length : Nat) : Int) by rw [addI_eq (by simp only [lenL]; omega) (by simp only [lenL]; omega)]; simp only [lenL]; omega, this, preP_eq, cw_cons]
end TT
namespace TT
open Go
theorem under_spec (a b : List Int) (ha : a.length ≤ 2000000) (hl : a.length = b.length) : ∀ (rb pb ra pa : List Int), pb ++ rb = b → pa ++ ra = a → pa.length = pb.length → spec_Under_l6 a b pb.length = some (decide (ra = rb))
 | [], pb, ra, pa, hb, hpa, he => by
  have : ra = [] := by
   have h1 := congrArg List.length hb; have h2 := congrArg List.length hpa
   simp only [List.length_append, List.length_nil] at h1 h2
   exact List.eq_nil_of_length_eq_zero (by omega)
  rw [spec_Under_l6, end_at hb, this]; rfl
 | y :: rb, pb, [], pa, hb, hpa, he => by
  have h1 := congrArg List.length hb; have h2 := congrArg List.length hpa
  simp only [List.length_append, List.length_nil, List.length_cons] at h1 h2
  omega
 | y :: rb, pb, x :: ra, pa, hb, hpa, he => by
  have ih := under_spec a b ha hl rb (pb ++ [y]) ra (pa ++ [x]) (step_at hb) (step_at hpa) (by simp [he])
  have h2 := congrArg List.length hpa
  simp only [List.length_append, List.length_cons] at h2
  have hg := getI_at hpa
  rw [he] at hg
  rw [spec_Under_l6, more_at hb, geI_f (by simp only [lenL]; omega), hg, getI_at hb, next_at hb (by rw [maxLen_eq]; omega), ih]
  simp only [if_true, Bool.false_eq_true, if_false, some_bnd]
  by_cases h : x = y
  ·subst h
   rw [neI_self]
   simp
  ·have : neI x y = true := by rw [neI_eq, eqI_f h]; rfl
   rw [this]
   simp [h]
theorem equal_impl (a b : List Int) (ha : a.length ≤ 2000000) (hl : a.length = b.length) : ∀ (ra pa rb pb : List Int), pa ++ ra = a → pb ++ rb = b → pa.length = pb.length → slices_Equal_int_l14 a b pa.length = some (decide (ra = rb))
 | [], pa, rb, pb, hpa, hb, he => by
  have : rb = [] := by
   have h1 := congrArg List.length hb; have h2 := congrArg List.length hpa
   simp only [List.length_append, List.length_nil] at h1 h2
   exact List.eq_nil_of_length_eq_zero (by omega)
  rw [slices_Equal_int_l14, end_at hpa, this]; rfl
 | x :: ra, pa, [], pb, hpa, hb, he => by
  have h1 := congrArg List.length hb; have h2 := congrArg List.length hpa
  simp only [List.length_append, List.length_nil, List.length_cons] at h1 h2
  omega
 | x :: ra, pa, y :: rb, pb, hpa, hb, he => by
  have ih := equal_impl a b ha hl ra (pa ++ [x]) rb (pb ++ [y]) (step_at hpa) (step_at hb) (by simp [he])
  have hg := getI_at hb
  rw [← he] at hg
  rw [slices_Equal_int_l14, more_at hpa, getI_at hpa, hg, next_at hpa (by rw [maxLen_eq]; omega), ih]
  simp only [if_true, some_bnd]
  by_cases h : x = y
  ·subst h
   rw [neI_self]
   simp
  ·have : neI x y = true := by rw [neI_eq, eqI_f h]; rfl
   rw [this]
   simp [h]
theorem same_path (a b : List Int) (ha : a.length ≤ 2000000) : spec_SamePath a b = some (decide (a = b)) ∧ impl_SamePath a b = some (decide (a = b)) := by
 by_cases hl : a.length = b.length
 ·have h1 := under_spec a b ha hl b [] a [] rfl rfl rfl
  have h2 := equal_impl a b ha hl a [] b [] rfl rfl rfl
  have h1' : spec_Under_l6 a b 0 = _ := h1
  have h2' : slices_Equal_int_l14 a b 0 = _ := h2
  have e : eqI (lenL a) (lenL b) = true := eqI_t (by simp only [lenL, hl])
  rw [spec_SamePath, impl_SamePath, slices_Equal_int, spec_Under, h1', h2', neI_eq, e]
  exact ⟨rfl, rfl⟩
 ·have e : eqI (lenL a) (lenL b) = false := eqI_f (by simp only [lenL]; omega)
  have hd : decide (a = b) = false := decide_eq_false fun h => hl (by rw [h])
  rw [spec_SamePath, impl_SamePath, slices_Equal_int, neI_eq, e, hd]
  exact ⟨rfl, rfl⟩
def underB : List Int → List Int → Bool
 | _, [] => true
 | [], _ :: _ => false
 | x :: a, y :: b => decide (x = y) && underB a b
theorem underS (a b : List Int) (ha : a.length ≤ 2000000) (hb : b.length ≤ 2000000) : ∀ (rb pb ra pa : List Int), pb ++ rb = b → pa ++ ra = a → pa.length = pb.length → spec_Under_l6 a b pb.length = some (underB ra rb)
 | [], pb, ra, pa, hpb, hpa, he => by rw [spec_Under_l6, end_at hpb]; cases ra <;> rfl
 | y :: rb, pb, [], pa, hpb, hpa, he => by
  have h2 := congrArg List.length hpa
  simp only [List.length_append, List.length_nil] at h2
  rw [spec_Under_l6, more_at hpb, geI_t (by simp only [lenL]; omega)]; rfl
 | y :: rb, pb, x :: ra, pa, hpb, hpa, he => by
  have ih := underS a b ha hb rb (pb ++ [y]) ra (pa ++ [x]) (step_at hpb) (step_at hpa) (by simp [he])
  have h2 := congrArg List.length hpa
  simp only [List.length_append, List.length_cons] at h2
  have hg := getI_at hpa
  rw [he] at hg
  rw [spec_Under_l6, more_at hpb, geI_f (by simp only [lenL]; omega), hg, getI_at hpb, next_at hpb (by rw [maxLen_eq]; omega), ih]
  simp only [if_true, Bool.false_eq_true, if_false, some_bnd, underB]
  by_cases h : x = y
  ·subst h
   rw [neI_self]
   simp
  ·have : neI x y = true := by rw [neI_eq, eqI_f h]; rfl
   rw [this]
   simp [h]
theorem under_take : ∀ (b a : List Int), b.length ≤ a.length → underB a b = decide (a.take b.length = b)
 | [], a, h => by cases a <;> simp [underB]
 | y :: b, [], h => by simp at h
 | y :: b, x :: a, h => by
  rw [underB, under_take b a (by simpa using h)]
  by_cases e : x = y
  ·subst e; simp
  ·simp [e]
theorem under_long : ∀ (b a : List Int), a.length < b.length → underB a b = false
 | [], a, h => by simp at h
 | y :: b, [], h => rfl
 | y :: b, x :: a, h => by rw [underB, under_long b a (by simpa using h), Bool.and_false]
theorem under_all (a b : List Int) (ha : a.length ≤ 2000000) (hb : b.length ≤ 2000000) : spec_Under a b = some (underB a b) ∧ impl_Under a b = some (underB a b) := by
 constructor
 ·rw [spec_Under]; exact underS a b ha hb b [] a [] rfl rfl rfl
 ·rw [impl_Under]
  by_cases h : b.length ≤ a.length
  ·have hs : slL a 0 (lenL b) = some (a.take b.length) := by unfold slL; rw [if_pos ⟨by omega, by simp only [lenL]; omega, by simp only [lenL]; omega⟩]; simp [lenL]
   have hlt : (a.take b.length).length = b.length := by rw [List.length_take]; omega
   have h2 := equal_impl (a.take b.length) b (by omega) hlt (a.take b.length) [] b [] rfl rfl rfl
   have h2' : slices_Equal_int_l14 (a.take b.length) b 0 = _ := h2
   rw [geI_t (by simp only [lenL]; omega), hs]
   simp only [if_true, some_bnd]
   rw [slices_Equal_int, h2', neI_len' hlt, under_take b a h]
   rfl
  ·rw [geI_f (by simp only [lenL]; omega), under_long b a (by omega)]; rfl
end TT
