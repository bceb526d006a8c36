import Derived.Test.YtdpdfjkjlkmjaaaTP3Same
import Derived.Test.YtdpdfjkjlkmjaaaTP3Merge
set_option linter.unusedVariables false
set_option linter.unusedSimpArgs false
namespace TT
open Go
theorem all2_eq {α : Type} {p : α → α → Bool} (hp : ∀ x y, p x y = true → x = y) : ∀ {l m : List α}, all2 p l m = true → l = m
 | [], [], _ => rfl
 | x :: l, y :: m, h => by
  simp only [all2, Bool.and_eq_true] at h
  rw [hp x y h.1, all2_eq hp h.2]
 | [], _ :: _, h => by simp [all2] at h
 | _ :: _, [], h => by simp [all2] at h
theorem sameNode_eq : ∀ a : GNode, a.sz ≤ 1048576 → ∀ b : GNode, b.sz ≤ 1048576 → impl_SameNode a b = some true → a = b := by
 refine GNode.ind' fun a ih ha b hb h => ?_
 have hza := GNode.sz_eq a
 have hzb := GNode.sz_eq b
 rw [impl_SameNode] at h
 have hA : impl_sameAlone a b = some true ∧ slices_EqualFunc_Node_SameNode a.Kids b.Kids = some true := by
  cases e : impl_sameAlone a b with
  | none => rw [e] at h; cases h
  | some r =>
   rw [e] at h
   cases r with
   | false => cases h
   | true =>
    refine ⟨rfl, ?_⟩
    cases e2 : slices_EqualFunc_Node_SameNode a.Kids b.Kids with
    | none => simp only [some_bnd, if_true, e2] at h; cases h
    | some q => simp only [some_bnd, if_true, e2] at h; cases q <;> first | rfl | cases h
 obtain ⟨h1, h2⟩ := hA
 rw [impl_sameAlone] at h1
 by_cases e1 : eqI a.Kind b.Kind = true
 case neg => simp only [e1, Bool.false_eq_true, if_false] at h1; cases h1
 by_cases e2 : eqS a.Pre b.Pre = true
 case neg => simp only [e1, e2, if_true, Bool.false_eq_true, if_false] at h1; cases h1
 by_cases e3 : eqS a.Local b.Local = true
 case neg => simp only [e1, e2, e3, if_true, Bool.false_eq_true, if_false] at h1; cases h1
 by_cases e4 : eqS a.Uri b.Uri = true
 case neg => simp only [e1, e2, e3, e4, if_true, Bool.false_eq_true, if_false] at h1; cases h1
 by_cases e5 : eqS a.Text b.Text = true
 case neg => simp only [e1, e2, e3, e4, e5, if_true, Bool.false_eq_true, if_false] at h1; cases h1
 simp only [e1, e2, e3, e4, e5, if_true] at h1
 have d1 : a.Decls = b.Decls := by
  by_cases l1 : a.Decls.length = b.Decls.length
  ·rw [slices_Equal_Decl_eq _ _ (by rw [maxLen_eq]; omega) l1] at h1
   cases q : all2 (fun x y => eqS x.Pre y.Pre && eqS x.Uri y.Uri) a.Decls b.Decls with
   | false => rw [q] at h1; cases h1
   | true =>
    refine all2_eq (fun x y hxy => ?_) q
    simp only [Bool.and_eq_true] at hxy
    cases x; cases y
    simp only [GDecl.mk.injEq]
    exact ⟨eqS_iff.1 hxy.1, eqS_iff.1 hxy.2⟩
  ·rw [slices_Equal_Decl_ne _ _ l1] at h1; cases h1
 have a1 : a.Attrs = b.Attrs := by
  cases q0 : slices_Equal_Decl a.Decls b.Decls with
  | none => rw [q0] at h1; cases h1
  | some r0 =>
   rw [q0] at h1
   cases r0 with
   | false => cases h1
   | true =>
    by_cases l1 : a.Attrs.length = b.Attrs.length
    ·simp only [some_bnd, if_true] at h1
     rw [slices_Equal_Attr_eq _ _ (by rw [maxLen_eq]; omega) l1] at h1
     cases q : all2 (fun x y : GAttr => (eqS x.Pre y.Pre && (eqS x.Local y.Local && (eqS x.Uri y.Uri && eqS x.Val y.Val)))) a.Attrs b.Attrs with
     | false => rw [q] at h1; cases h1
     | true =>
      refine all2_eq (fun x y hxy => ?_) q
      simp only [Bool.and_eq_true] at hxy
      cases x; cases y
      simp only [GAttr.mk.injEq]
      exact ⟨eqS_iff.1 hxy.1, eqS_iff.1 hxy.2.1, eqS_iff.1 hxy.2.2.1, eqS_iff.1 hxy.2.2.2⟩
    ·simp only [some_bnd, if_true] at h1
     rw [slices_Equal_Attr_ne _ _ l1] at h1; cases h1
 have k1 : a.Kids = b.Kids := by
  rw [slices_EqualFunc_Node_SameNode] at h2
  by_cases l1 : a.Kids.length = b.Kids.length
  case neg => rw [neI_len l1] at h2; cases h2
  rw [neI_len' l1] at h2
  simp only [Bool.false_eq_true, if_false] at h2
  have key : ∀ (m k : Nat), a.Kids.length ≤ k + m → k ≤ a.Kids.length → slices_EqualFunc_Node_SameNode_l14 b.Kids a.Kids k = some true → a.Kids.drop k = b.Kids.drop k := by
   intro m
   induction m with
   | zero => intro k h1 h2 _; rw [List.drop_of_length_le (by omega), List.drop_of_length_le (by omega)]
   | succ m ihm =>
    intro k g1 g2 hF
    by_cases e : k = a.Kids.length
    ·rw [List.drop_of_length_le (by omega), List.drop_of_length_le (by omega)]
    ·have hk1 : k < a.Kids.length := by omega
     have hk2 : k < b.Kids.length := by omega
     have x1 := List.getElem?_eq_getElem hk1
     have x2 := List.getElem?_eq_getElem hk2
     have s1 := szs_mem GNode.sz (mem_k x1)
     have s2 := szs_mem GNode.sz (mem_k x2)
     rw [slices_EqualFunc_Node_SameNode_l14, lt_k x1, getI_k x1, getI_k x2, add_k (by omega)] at hF
     simp only [if_true, some_bnd] at hF
     cases q : impl_SameNode a.Kids[k] b.Kids[k] with
     | none => rw [q] at hF; cases hF
     | some r =>
      rw [q] at hF
      cases r with
      | false => cases hF
      | true =>
       have e1 := ih _ (mem_k x1) (by omega) _ (by omega) q
       rw [List.drop_eq_getElem_cons hk1, List.drop_eq_getElem_cons hk2, e1, ihm (k + 1) (by omega) (by omega) hF]
  exact key a.Kids.length 0 (by omega) (by omega) h2
 cases a; cases b
 simp only at e1 e2 e3 e4 e5 d1 a1 k1
 simp only [GNode.mk.injEq]
 exact ⟨eqI_iff.1 e1, eqS_iff.1 e2, eqS_iff.1 e3, eqS_iff.1 e4, d1, a1, k1, eqS_iff.1 e5⟩
theorem snB_self (a : GNode) (ha : a.sz ≤ 1048576) : snB a a = true := by
 have h1 := impl_node a a ha ha
 rw [sameNode_self a ha] at h1
 exact (Option.some.inj h1).symm
theorem snB_eq {a b : GNode} (ha : a.sz ≤ 1048576) (hb : b.sz ≤ 1048576) (h : snB a b = true) : a = b := sameNode_eq a ha b hb (by rw [impl_node a b ha hb, h])
theorem snB_comm {a b : GNode} (ha : a.sz ≤ 1048576) (hb : b.sz ≤ 1048576) : snB a b = snB b a := by
 cases h : snB a b with
 | true => rw [← snB_eq ha hb h, snB_self a ha]
 | false => cases h2 : snB b a with
  | false => rfl
  | true => rw [snB_eq hb ha h2, snB_self a ha] at h; cases h
section
variable {α : Type} (p : α → α → Bool)
theorem lcs_comm (S : α → Prop) (hp : ∀ x y, S x → S y → p x y = p y x) : ∀ (m : Nat) (xs ys : List α), xs.length + ys.length ≤ m → (∀ x ∈ xs, S x) → (∀ y ∈ ys, S y) → lcs p xs ys = lcs p ys xs := by
 intro m
 induction m with
 | zero =>
  intro xs ys h _ _
  rw [List.eq_nil_of_length_eq_zero (show xs.length = 0 by omega), List.eq_nil_of_length_eq_zero (show ys.length = 0 by omega)]
 | succ m ih =>
  intro xs ys h hx hy
  cases xs with
  | nil => rw [lcs_nil', lcs_nil]
  | cons x xs =>
   cases ys with
   | nil => rw [lcs_nil', lcs_nil]
   | cons y ys =>
    simp only [List.length_cons] at h
    have hx' : ∀ z ∈ xs, S z := fun z hz => hx z (List.mem_cons_of_mem _ hz)
    have hy' : ∀ z ∈ ys, S z := fun z hz => hy z (List.mem_cons_of_mem _ hz)
    rw [lcs_cons, lcs_cons, hp x y (hx x (List.mem_cons_self ..)) (hy y (List.mem_cons_self ..)), ih xs ys (by omega) hx' hy', ih xs (y :: ys) (by simp only [List.length_cons]; omega) hx' hy, ih (x :: xs) ys (by simp only [List.length_cons]; omega) hx hy', Nat.max_comm]
theorem lcs_self : ∀ xs : List α, (∀ x ∈ xs, p x x = true) → lcs p xs xs = xs.length
 | [], _ => rfl
 | x :: xs, h => by rw [lcs_cons, h x (List.mem_cons_self ..), if_pos rfl, lcs_self xs fun z hz => h z (List.mem_cons_of_mem _ hz)]; rfl
theorem lcs_more (xs : List α) : ∀ ys zs : List α, lcs p xs zs ≤ lcs p xs (ys ++ zs)
 | [], zs => Nat.le_refl _
 | y :: ys, zs => Nat.le_trans (lcs_more xs ys zs) ((lcs_step p xs (ys ++ zs)).2 y).1
theorem lcs_all (xs ys : List α) (h : ∀ x ∈ xs, p x x = true) : lcs p xs (ys ++ xs) = xs.length :=
 Nat.le_antisymm (lcs_le p xs _) (by have := lcs_more p xs ys xs; rw [lcs_self p xs h] at this; exact this)
end
theorem longest_eq (a b : List GNode) (ha : ∀ y ∈ a, GNode.sz y ≤ 1048576) (hb : ∀ y ∈ b, GNode.sz y ≤ 1048576) (la : a.length ≤ 1048576) (lb : b.length ≤ 1048576) : impl_Longest a b = some ((lcs snB a b : Nat) : Int) := by
 rw [impl_Longest, impl_table a b ha hb la lb]
 simp only [some_bnd]
 rw [get_tab (i := 0) (j := 0) (by omega) rfl]
 simp only [some_bnd]
 rw [get_row (k := 0) (j := 0) (by omega) rfl]
 simp [cel]
end TT
namespace TT
open Go
def valid (a b : List GNode) : List Int → Nat → Int → Nat → Prop
 | [], i, _, c => i = a.length ∧ c = 0
 | v :: rest, i, last, c => i < a.length ∧ ((v < 0 ∧ valid a b rest (i + 1) last c) ∨ ∃ (k : Nat) (x y : GNode) (c' : Nat), v = (k : Int) ∧ last < (k : Int) ∧ k < b.length ∧ a[i]? = some x ∧ b[k]? = some y ∧ snB x y = true ∧ c = c' + 1 ∧ valid a b rest (i + 1) (k : Int) c')
theorem valid_len (a b : List GNode) : ∀ (r : List Int) (i : Nat) (last : Int) (c : Nat), valid a b r i last c → r.length + i = a.length
 | [], i, last, c, h => by have := h.1; simp only [List.length_nil]; omega
 | v :: r, i, last, c, h => by
  rw [List.length_cons]
  rcases h.2 with ⟨_, h⟩ | ⟨k, x, y, c', _, _, _, _, _, _, _, h⟩
  ·have := valid_len a b r _ _ _ h; omega
  ·have := valid_len a b r _ _ _ h; omega
theorem align_valid (a b : List GNode) (ha : ∀ y ∈ a, GNode.sz y ≤ 1048576) (hb : ∀ y ∈ b, GNode.sz y ≤ 1048576) (la : a.length ≤ 1048576) (lb : b.length ≤ 1048576) :
  ∀ (d : Nat) (i k : Nat) (out : List Int), i ≤ a.length → k ≤ b.length → (a.length - i) + (b.length - k) ≤ d → out.length = i →
   ∃ rest, spec_Align_l12 a b (tab (a.length + 1) (b.length + 1) (cel a b)) out k i = some (out ++ rest) ∧ impl_Align_l12 a b (tab (a.length + 1) (b.length + 1) (cel a b)) out k i = some (out ++ rest) ∧ ∀ last : Int, last < (k : Int) → valid a b rest i last (lcs snB (a.drop i) (b.drop k)) := by
 intro d
 induction d with
 | zero =>
  intro i k out hi hk hd ho
  rw [spec_Align_l12, impl_Align_l12, ltI_f (by simp only [lenL]; omega)]
  refine ⟨[], by simp, by simp, fun last _ => ⟨by omega, ?_⟩⟩
  rw [List.drop_of_length_le (by omega), lcs_nil']
 | succ d ih =>
  intro i k out hi hk hd ho
  rw [spec_Align_l12, impl_Align_l12]
  by_cases g1 : i = a.length
  ·rw [ltI_f (by simp only [lenL]; omega)]
   refine ⟨[], by simp, by simp, fun last _ => ⟨by omega, ?_⟩⟩
   rw [List.drop_of_length_le (by omega), lcs_nil']
  rw [ltI_t (by simp only [lenL]; omega), if_pos rfl, if_pos rfl]
  have hi1 : addI (i : Int) 1 = ((i + 1 : Nat) : Int) := by rw [addI_eq (by omega) (by omega)]; omega
  have hk1 : addI (k : Int) 1 = ((k + 1 : Nat) : Int) := by rw [addI_eq (by omega) (by omega)]; omega
  have rm : room (out.length + 1) 8 = some () := room_eq (by omega) (by omega) (by omega)
  rw [hi1, hk1, rm]
  by_cases g2 : k = b.length
  ·rw [eqI_t (show (k : Int) = lenL b by simp only [lenL]; omega), if_pos rfl, if_pos rfl]
   obtain ⟨rest, r1, r2, r3⟩ := ih (i + 1) k (out ++ [-1]) (by omega) (by omega) (by omega) (by simp; omega)
   refine ⟨-1 :: rest, by simp only [some_bnd]; rw [r1]; simp, by simp only [some_bnd]; rw [r2]; simp, fun last hl => ⟨by omega, .inl ⟨by omega, ?_⟩⟩⟩
   have := r3 last hl
   rw [List.drop_of_length_le (l := b) (by omega), lcs_nil] at this ⊢
   exact this
  rw [eqI_f (show (k : Int) ≠ lenL b by simp only [lenL]; omega)]
  obtain ⟨x, gx, mx, dx⟩ := drop_get (show i < a.length by omega)
  obtain ⟨y, gy, my, dy⟩ := drop_get (show k < b.length by omega)
  have ex : a[i]? = some x := by rw [show a[i]? = (a.drop i)[0]? by simp, dx]; rfl
  have ey : b[k]? = some y := by rw [show b[k]? = (b.drop k)[0]? by simp, dy]; rfl
  simp only [Bool.false_eq_true, if_false, gx, gy, some_bnd, spec_node x y (ha x mx) (hb y my), impl_node x y (ha x mx) (hb y my)]
  clear hi1 hk1
  by_cases e : snB x y = true
  ·simp only [e, if_true]
   obtain ⟨rest, r1, r2, r3⟩ := ih (i + 1) (k + 1) (out ++ [(k : Int)]) (by omega) (by omega) (by omega) (by simp; omega)
   refine ⟨(k : Int) :: rest, by rw [r1]; simp, by rw [r2]; simp, fun last hl => ⟨by omega, .inr ⟨k, x, y, _, rfl, hl, by omega, ex, ey, e, ?_, r3 k (by omega)⟩⟩⟩
   rw [dx, dy, lcs_cons, e, if_pos rfl]
  have e' : snB x y = false := by simpa using e
  simp only [e', Bool.false_eq_true, if_false, get_tab (n := a.length + 1) (f := cel a b) (m := b.length + 1) (i := i + 1) (by omega) rfl, get_tab (n := a.length + 1) (f := cel a b) (m := b.length + 1) (i := i) (by omega) rfl, some_bnd,
   get_row (f := cel a b) (m := b.length + 1) (i := i + 1) (k := k) (by omega) rfl, get_row (f := cel a b) (m := b.length + 1) (i := i) (k := k + 1) (by omega) rfl]
  have hmax : lcs snB (a.drop i) (b.drop k) = max (lcs snB (a.drop (i + 1)) (b.drop k)) (lcs snB (a.drop i) (b.drop (k + 1))) := by
   rw [dx, dy, lcs_cons, e', if_neg (by simp)]
  by_cases g : cel a b (i + 1) k ≥ cel a b i (k + 1)
  ·rw [geI_t g, if_pos rfl, if_pos rfl]
   obtain ⟨rest, r1, r2, r3⟩ := ih (i + 1) k (out ++ [-1]) (by omega) (by omega) (by omega) (by simp; omega)
   refine ⟨-1 :: rest, by rw [r1]; simp, by rw [r2]; simp, fun last hl => ⟨by omega, .inl ⟨by omega, ?_⟩⟩⟩
   have := r3 last hl
   simp only [cel] at g
   rw [hmax, Nat.max_eq_left (by omega)]
   exact this
  ·rw [geI_f g, if_neg (by simp), if_neg (by simp)]
   obtain ⟨rest, r1, r2, r3⟩ := ih i (k + 1) out (by omega) (by omega) (by omega) ho
   refine ⟨rest, r1, r2, fun last hl => ?_⟩
   have := r3 last (by omega)
   simp only [cel] at g
   rw [hmax, Nat.max_eq_right (by omega)]
   exact this
theorem aligns_loop (a b : List GNode) (ha : ∀ y ∈ a, GNode.sz y ≤ 1048576) (hb : ∀ y ∈ b, GNode.sz y ≤ 1048576) (la : a.length ≤ 1048576) (lb : b.length ≤ 1048576) (lab : a.length + b.length ≤ 1048576) (r : List Int) (hr : r.length = a.length) :
  ∀ (rest pre : List Int) (last : Int) (n c : Nat), pre ++ rest = r → valid a b rest pre.length last c → n + c = lcs snB a b → laws_FnAligns_l32 (a, b) r (n : Nat) last pre.length = some true
 | [], pre, last, n, c, hp, hv, hn => by
  have h1 := longest_eq a b ha hb la lb
  have h2 := longest_eq b a hb ha lb la
  have h3 := longest_eq a a ha ha la la
  have hm : ∀ y ∈ b ++ a, GNode.sz y ≤ 1048576 := fun y hy => by rcases List.mem_append.1 hy with h | h; exact hb y h; exact ha y h
  have h4 := longest_eq a (b ++ a) ha hm la (by rw [List.length_append]; omega)
  have hs : ∀ x ∈ a, snB x x = true := fun x hx => snB_self x (ha x hx)
  rw [lcs_comm snB (fun x => x.sz ≤ 1048576) (fun x y hx hy => snB_comm hx hy) (b.length + a.length) b a (Nat.le_refl _) hb ha] at h2
  rw [lcs_self snB a hs] at h3
  rw [lcs_all snB a b hs] at h4
  have hc : c = 0 := hv.2
  have hn' : n = lcs snB a b := by omega
  rw [laws_FnAligns_l32, end_at hp]
  simp only [Bool.false_eq_true, if_false, h1, h2, h3, hn', some_bnd, eqI_self, if_true, lenL, List.nil_append]
  rw [room_ok (by omega) (by omega) (by omega), room_ok (by omega) (by omega) (by omega), h4]
  simp only [some_bnd, eqI_self]
 | v :: rest, pre, last, n, c, hp, hv, hn => by
  have hpl := congrArg List.length hp
  rw [List.length_append, List.length_cons] at hpl
  rw [laws_FnAligns_l32, more_at hp, getI_at hp, next_at hp (by rw [maxLen_eq]; omega)]
  simp only [if_true, some_bnd]
  have hl1 : (pre ++ [v]).length = pre.length + 1 := by simp
  rcases hv.2 with ⟨h0, h1⟩ | ⟨k, x, y, c', e1, e2, e3, e4, e5, e6, e7, e8⟩
  ·rw [ltI_t h0]
   exact aligns_loop a b ha hb la lb lab r hr rest (pre ++ [v]) last n c (step_at hp) (by rw [hl1]; exact h1) hn
  ·have ih := aligns_loop a b ha hb la lb lab r hr rest (pre ++ [v]) k (n + 1) c' (step_at hp) (by rw [hl1]; exact e8) (by omega)
   have hle := lcs_le snB a b
   rw [e1, ltI_f (by omega), leI_f (by omega), geI_f (by simp only [lenL]; omega), getI_k e4, getI_k e5]
   simp only [Bool.false_eq_true, if_false, some_bnd, impl_node x y (ha x (mem_k e4)) (hb y (mem_k e5)), e6, if_true]
   rw [show addI (n : Int) 1 = ((n + 1 : Nat) : Int) by rw [addI_eq (by omega) (by omega)]; omega]
   rw [e1] at ih
   exact ih
theorem sameInts_self (l : List Int) (hl : l.length ≤ 4000000) : laws_sameInts l l = some true := by
 rw [laws_sameInts, neI_self]
 refine loop_is l (fun i => laws_sameInts_l14 l l i) true (fun k x hx ih => ?_) ?_
 ·have := len_k hx
  show laws_sameInts_l14 l l k = _
  rw [laws_sameInts_l14, lt_k hx, getI_k hx, add_k (by omega)]
  simp only [if_true, some_bnd, neI_self, Bool.false_eq_true, if_false]
  exact ih
 ·show laws_sameInts_l14 l l _ = _
  rw [laws_sameInts_l14, end_k]; rfl
theorem sameName_two (a b : GNode) (ha : a.Decls.length ≤ 4000000) : ∃ r, impl_SameName a b = some r ∧ spec_SameName a b = some r := by
 rw [impl_SameName, spec_SameName]
 have F : ∃ r, some false = some r ∧ some false = some r := ⟨false, rfl, rfl⟩
 by_cases h1 : neI a.Kind 1 = true
 ·simp only [h1, if_true]; exact F
 by_cases h2 : neI b.Kind 1 = true
 ·simp only [h1, h2, if_true, Bool.false_eq_true, if_false]; exact F
 by_cases h3 : neS a.Pre b.Pre = true
 ·simp only [h1, h2, h3, if_true, Bool.false_eq_true, if_false]; exact F
 by_cases h4 : neS a.Local b.Local = true
 ·simp only [h1, h2, h3, h4, if_true, Bool.false_eq_true, if_false]; exact F
 by_cases h5 : neS a.Uri b.Uri = true
 ·simp only [h1, h2, h3, h4, h5, if_true, Bool.false_eq_true, if_false]; exact F
 by_cases h6 : neI (lenL a.Decls) (lenL b.Decls) = true
 ·simp only [h1, h2, h3, h4, h5, h6, if_true, Bool.false_eq_true, if_false]; exact F
 simp only [h1, h2, h3, h4, h5, h6, Bool.false_eq_true, if_false]
 have hl : a.Decls.length = b.Decls.length := by
  have : neI (lenL a.Decls) (lenL b.Decls) = false := by simpa using h6
  simp only [neI, lenL, bne_eq_false_iff_eq] at this
  omega
 have key : ∀ (m k : Nat), a.Decls.length ≤ k + m → k ≤ a.Decls.length → ∃ r, impl_SameName_l14 a k b = some r ∧ spec_SameName_l14 k a b = some r := by
  intro m
  induction m with
  | zero =>
   intro k h1 h2
   rw [show k = a.Decls.length by omega, impl_SameName_l14, spec_SameName_l14, end_k]
   exact ⟨true, rfl, rfl⟩
  | succ m ih =>
   intro k g1 g2
   by_cases e : k = a.Decls.length
   ·rw [e, impl_SameName_l14, spec_SameName_l14, end_k]; exact ⟨true, rfl, rfl⟩
   ·have x1 := List.getElem?_eq_getElem (show k < a.Decls.length by omega)
    have x2 := List.getElem?_eq_getElem (show k < b.Decls.length by omega)
    rw [impl_SameName_l14, spec_SameName_l14, lt_k x1, getI_k x1, getI_k x2, add_k (by omega)]
    simp only [if_true, some_bnd]
    by_cases q : (eqS a.Decls[k].Pre b.Decls[k].Pre && eqS a.Decls[k].Uri b.Decls[k].Uri) = true
    ·simp only [q, if_true]; exact ih (k + 1) (by omega) (by omega)
    ·simp only [q, Bool.false_eq_true, if_false]; exact F
 exact key a.Decls.length 0 (by omega) (by omega)
theorem l17List_tot (c : Gl1Cur) (h : Cok c) : Tot (spec_l17List c) fun r => wt r.1 ≤ 100 ∧ Cok r.2 := by
 have loop : ∀ (i : Nat) (l : List GNode) (c : Gl1Cur), Cok c → wt l + 5 * i ≤ 100 → Tot (spec_l17List_l8 l (i : Nat) c) fun r => wt r.1 ≤ 100 ∧ Cok r.2 := by
  intro i
  induction i with
  | zero => intro l c hc hl; rw [spec_l17List_l8, gtI_f (by omega)]; exact Tot.ret ⟨by show wt l ≤ _; omega, hc⟩
  | succ i ih =>
   intro l c hc hl
   have hll := wt_len l
   have rm : Tot (room (l.length + 1) 144) fun _ => True := Tot.room (by omega)
   rw [spec_l17List_l8, gtI_t (by omega), show subI ((i + 1 : Nat) : Int) 1 = (i : Int) by rw [subI_eq (by omega) (by omega)]; omega]
   refine (l1Str_tot _ hc _ (by decide)).bnd fun t ht => rm.bnd fun _ _ => ih _ _ ht.2 ?_
   have := str_sz (n := 1) ht.1 (by decide)
   rw [wt_append, wt_cons, GNode.sz_eq]
   show _ + (1 + (0 + (t.1.size + (0 + ((0 + 0) + ((0 + 0) + ((0 + 0) + 0)))))) + 0) + _ ≤ _
   omega
 rw [spec_l17List]
 refine (l1Below_tot _ h _).bnd fun k hk => ?_
 obtain ⟨m, e, hm⟩ := below_nat hk.1 hk.2.1 (by omega)
 rw [e]
 exact loop m [] _ hk.2.2 (by show 0 + _ ≤ _; omega)
theorem kids_wt (n : GNode) : wt n.Kids ≤ n.sz := by rw [GNode.sz_eq, wt]; omega
theorem drawAlign_tot (code : List Int) (hl : code.length ≤ 1048576) : Tot (spec_DrawAlign code) fun r => wt r.1 ≤ 100 ∧ wt r.2 ≤ 3000 := by
 rw [spec_DrawAlign]
 exact (l1New_tot code hl).bnd fun c hc => (l17List_tot c hc).bnd fun a ha => (l1Once_tot _ ha.2 _).bnd fun q hq => Tot.ite (fun _ => (l5Draw_tot _ hq).bnd fun t ht => Tot.ret ⟨ha.1, Nat.le_trans (kids_wt _) ht.1⟩) fun _ => (l17List_tot _ hq).bnd fun b hb => Tot.ret ⟨ha.1, by have := hb.1; show wt b.1 ≤ _; omega⟩
theorem drawSameName_tot (code : List Int) (hl : code.length ≤ 1048576) : Tot (spec_DrawSameName code) fun r => r.1.Decls.length ≤ 4000000 := by
 rw [spec_DrawSameName]
 have he : Env1 [] 0 := ⟨⟨Nat.le_refl _, fun d hd => by cases hd⟩, by omega⟩
 refine (l1New_tot code hl).bnd fun c hc => (l5El_tot 1 (by omega) c [] 0 he (by omega) hc).bnd fun x hx => ?_
 obtain ⟨x1, k, x2, x3, x4⟩ := hx
 rw [x2]
 have hd : x.1.Decls.length ≤ 400 := by have := GNode.sz_eq x.1; omega
 have rm : Tot (room (0 + x.1.Decls.length) 32) fun _ => True := Tot.room (by omega)
 refine (l5El_tot k (by omega) _ [] 0 he (by omega) x1).bnd fun y hy => (l1Once_tot _ hy.1 _).bnd fun s hs => Tot.ite (fun _ => rm.bnd fun _ _ => Tot.ret (by show x.1.Decls.length ≤ _; omega)) fun _ => Tot.ret (by show x.1.Decls.length ≤ _; omega)
end TT
