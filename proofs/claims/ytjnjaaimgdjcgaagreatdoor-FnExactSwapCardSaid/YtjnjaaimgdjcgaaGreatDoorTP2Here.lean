import Derived.Test.YtjnjaaimgdjcgaaGreatDoorTP3Copy
import Derived.Test.YtjnjaaimgdjcgaaGreatDoorTP2Has
set_option linter.unusedVariables false
set_option linter.unusedSimpArgs false
namespace TT
open Go
theorem same_Here (w : GWalk) (hs : w.sz ≤ 1048576) : ∃ r, spec_Here w = some r ∧ impl_Here w = some r ∧ r.sz ≤ 1048576 := by
 obtain ⟨w1, w2⟩ := walk_b w hs
 rw [GWalk.sz_eq] at hs
 rw [spec_Here, impl_Here, w1, w2, nodeAt_spec _ _ (by omega) (by omega), nodeAt_impl _ _ (by omega) (by omega)]
 simp only [some_bnd]
 have hz : (GNode.mk 0 (⟨#[]⟩) (⟨#[]⟩) (⟨#[]⟩) [] [] [] (⟨#[]⟩)).sz ≤ 1048576 := by rw [GNode.sz_eq]; decide
 cases walkB w with
 | false => exact ⟨_, rfl, rfl, hz⟩
 | true =>
  refine ⟨_, rfl, rfl, ?_⟩
  rw [nodeAtR]
  split
  ·rename_i x hx
   exact Nat.le_trans (nodeAt_sz _ hx) (by omega)
  ·exact hz
end TT
namespace TT
open Go
def wt (l : List GNode) : Nat := l.length + szs GNode.sz l
theorem wt_cons (x : GNode) (l : List GNode) : wt (x :: l) = 1 + x.sz + wt l := by rw [wt, wt, szs_cons, List.length_cons]; omega
theorem wt_append : ∀ a b : List GNode, wt (a ++ b) = wt a + wt b
 | [], b => by rw [List.nil_append]; show _ = 0 + _; omega
 | x :: a, b => by rw [List.cons_append, wt_cons, wt_cons, wt_append a b]; omega
theorem wt_len (l : List GNode) : l.length ≤ wt l := Nat.le_add_right _ _
def withText (y : GNode) (s : ByteArray) : GNode := GNode.mk y.Kind y.Pre y.Local y.Uri y.Decls y.Attrs y.Kids s
theorem text_sz (x : GNode) : x.Text.size ≤ x.sz := by rw [GNode.sz_eq x]; omega
theorem withText_sz (y x : GNode) : (withText y (y.Text ++ x.Text)).sz ≤ y.sz + x.sz := by
 have := text_sz x
 rw [GNode.sz_eq (withText _ _), GNode.sz_eq y]
 simp only [withText, ByteArray.size_append]
 omega
def mstep (out : List GNode) (x : GNode) : List GNode :=
 if x.Kind = 2 then (if x.Text = ⟨#[]⟩ then out else match out.getLast? with
  | some y => if y.Kind = 2 then out.dropLast ++ [withText y (y.Text ++ x.Text)] else out ++ [x]
  | none => out ++ [x]) else out ++ [x]
theorem mstep_wt (out : List GNode) (x : GNode) : wt (mstep out x) ≤ wt out + (1 + x.sz) := by
 have h1 : wt (out ++ [x]) = wt out + (1 + x.sz) := by rw [wt_append, wt_cons]; rfl
 unfold mstep
 split
 ·split
  ·omega
  ·rcases List.eq_nil_or_concat out with rfl | ⟨o, y, rfl⟩
   ·exact Nat.le_of_eq h1
   ·rw [List.concat_eq_append] at h1 ⊢
    simp only [List.getLast?_concat, List.dropLast_concat]
    split
    ·rw [wt_append, wt_append, wt_cons, wt_cons]
     have := withText_sz y x
     omega
    ·exact Nat.le_of_eq h1
 ·exact Nat.le_of_eq h1
theorem last_at {o : List GNode} {y : GNode} (h : o.length ≤ 4000000) : subI (lenL (o ++ [y])) 1 = (o.length : Int) := by
 rw [subI_eq (by simp only [lenL, List.length_append, List.length_singleton]; omega) (by simp only [lenL, List.length_append, List.length_singleton]; omega)]
 simp only [lenL, List.length_append, List.length_singleton]; omega
theorem set_last (o : List GNode) (y z : GNode) : (o ++ [y]).set (Int.toNat (o.length : Int)) z = o ++ [z] := by simp
theorem catS_ok {x y : ByteArray} (h : x.size + y.size ≤ 4000000) : catS x y = some (x ++ y) := by unfold catS; rw [if_pos (by omega)]
theorem eqS_f {x y : ByteArray} (h : x ≠ y) : eqS x y = false := by
 cases e : eqS x y with
 | false => rfl
 | true => exact absurd (eqS_iff.1 e) h
section
variable (l : List GNode) (hl : l.length ≤ 4000000)
include hl
theorem Merge_spec_step {pre rest out : List GNode} {x : GNode} (hp : pre ++ x :: rest = l) (hw : wt out + (1 + x.sz) ≤ 1048576) : spec_Merge_l8 l out pre.length = spec_Merge_l8 l (mstep out x) ((pre ++ [x]).length : Nat) := by
 have hol := wt_len out
 have hcp := copy_spec x (by omega)
 have hr : room (out.length + 1) 144 = some () := room_ok (by omega) (by omega) (by omega)
 have hx := text_sz x
 rw [spec_Merge_l8, more_at hp, getI_at hp, next_at hp (by rw [maxLen_eq]; omega)]
 simp only [if_true, some_bnd]
 have app : spec_Merge_j29 l out pre.length false x = spec_Merge_l8 l (out ++ [x]) ((pre ++ [x]).length : Nat) := by
  rw [spec_Merge_j29, hcp, hr, next_at hp (by rw [maxLen_eq]; omega)]; rfl
 unfold mstep
 by_cases h2 : x.Kind = 2
 ·rw [eqI_t h2, if_pos h2]
  simp only [if_true]
  by_cases h3 : x.Text = ⟨#[]⟩
  ·rw [eqS_iff.2 h3, if_pos h3]; rfl
  ·rw [eqS_f h3, if_neg h3]
   simp only [Bool.false_eq_true, if_false]
   rcases List.eq_nil_or_concat out with rfl | ⟨o, y, rfl⟩
   ·rw [gtI_f (by simp [lenL])]
    exact app
   ·rw [List.concat_eq_append] at app hr hw hol ⊢
    rw [wt_append, wt_cons] at hw
    have hy := text_sz y
    have hol' : o.length ≤ 4000000 := by rw [List.length_append] at hol; have := wt_len o; omega
    rw [gtI_t (by simp only [lenL, List.length_append, List.length_singleton]; omega), last_at hol']
    simp only [if_true, getI_at (show o ++ y :: [] = o ++ [y] from rfl), some_bnd, List.getLast?_concat, List.dropLast_concat]
    by_cases h4 : y.Kind = 2
    ·rw [eqI_t h4, if_pos h4, spec_Merge_j29, last_at hol']
     simp only [if_true, getI_at (show o ++ y :: [] = o ++ [y] from rfl), some_bnd, catS_ok (show y.Text.size + x.Text.size ≤ 4000000 by omega), set_last, next_at hp (show l.length ≤ maxLen by rw [maxLen_eq]; omega)]
     rfl
    ·rw [eqI_f h4, if_neg h4]; exact app
 ·rw [eqI_f h2, if_neg h2]
  simp only [Bool.false_eq_true, if_false, hcp, hr, some_bnd]
end
def mergeP (l : List GNode) : List GNode := l.foldl mstep []
theorem merge_loopS (l : List GNode) (hl : l.length ≤ 4000000) : ∀ rest pre out : List GNode, pre ++ rest = l → wt out + wt rest ≤ 1048576 →
  spec_Merge_l8 l out pre.length = some (rest.foldl mstep out) ∧ wt (rest.foldl mstep out) ≤ wt out + wt rest
 | [], pre, out, hp, hw => ⟨by rw [spec_Merge_l8, end_at hp]; rfl, Nat.le_add_right _ _⟩
 | x :: rest, pre, out, hp, hw => by
  rw [wt_cons] at hw ⊢
  have h1 := mstep_wt out x
  rw [Merge_spec_step l hl hp (by omega)]
  obtain ⟨g1, g3⟩ := merge_loopS l hl rest (pre ++ [x]) (mstep out x) (step_at hp) (by omega)
  exact ⟨g1, by rw [List.foldl_cons]; omega⟩
theorem merge_spec (l : List GNode) (h : wt l ≤ 1048576) : spec_Merge l = some (mergeP l) ∧ wt (mergeP l) ≤ wt l := by
 have := wt_len l
 obtain ⟨g1, g3⟩ := merge_loopS l (by omega) l [] [] rfl (by show 0 + _ ≤ _; omega)
 exact ⟨by rw [spec_Merge]; exact g1, by have : wt [] = 0 := rfl; rw [this, Nat.zero_add] at g3; exact g3⟩
end TT
namespace TT
open Go
section
variable (l : List GNode) (hl : l.length ≤ 4000000)
include hl
theorem Merge_impl_step {pre rest out : List GNode} {x : GNode} (hp : pre ++ x :: rest = l) (hw : wt out + (1 + x.sz) ≤ 1048576) : impl_Merge_l8 out l pre.length = impl_Merge_l8 (mstep out x) l ((pre ++ [x]).length : Nat) := by
 have hol := wt_len out
 have hcp := copy_impl x (by omega)
 have hr : room (out.length + 1) 144 = some () := room_ok (by omega) (by omega) (by omega)
 have hx := text_sz x
 rw [impl_Merge_l8, more_at hp, getI_at hp]
 simp only [if_true, some_bnd]
 have app : impl_Merge_j26 out l pre.length false x = impl_Merge_l8 (out ++ [x]) l ((pre ++ [x]).length : Nat) := by
  rw [impl_Merge_j26, hcp, hr, next_at hp (by rw [maxLen_eq]; omega)]; rfl
 unfold mstep
 by_cases h2 : x.Kind = 2
 ·rw [eqI_t h2, if_pos h2, impl_Merge_j22, eqI_t h2, next_at hp (by rw [maxLen_eq]; omega)]
  simp only [if_true]
  by_cases h3 : x.Text = ⟨#[]⟩
  ·rw [eqS_iff.2 h3, if_pos h3]; rfl
  ·rw [eqS_f h3, if_neg h3]
   simp only [Bool.false_eq_true, if_false]
   rcases List.eq_nil_or_concat out with rfl | ⟨o, y, rfl⟩
   ·rw [gtI_f (by simp [lenL])]
    exact app
   ·rw [List.concat_eq_append] at app hr hw hol ⊢
    rw [wt_append, wt_cons] at hw
    have hy := text_sz y
    have hol' : o.length ≤ 4000000 := by rw [List.length_append] at hol; have := wt_len o; omega
    rw [gtI_t (by simp only [lenL, List.length_append, List.length_singleton]; omega), last_at hol']
    simp only [if_true, getI_at (show o ++ y :: [] = o ++ [y] from rfl), some_bnd, List.getLast?_concat, List.dropLast_concat]
    by_cases h4 : y.Kind = 2
    ·rw [eqI_t h4, if_pos h4, impl_Merge_j26, last_at hol']
     simp only [if_true, getI_at (show o ++ y :: [] = o ++ [y] from rfl), some_bnd, catS_ok (show y.Text.size + x.Text.size ≤ 4000000 by omega), set_last, next_at hp (show l.length ≤ maxLen by rw [maxLen_eq]; omega)]
     rfl
    ·rw [eqI_f h4, if_neg h4]; exact app
 ·rw [eqI_f h2, if_neg h2]
  simp only [Bool.false_eq_true, if_false]
  rw [impl_Merge_j22, eqI_f h2]
  simp only [Bool.false_eq_true, if_false]
  exact app
end
theorem merge_loopI (l : List GNode) (hl : l.length ≤ 4000000) : ∀ rest pre out : List GNode, pre ++ rest = l → wt out + wt rest ≤ 1048576 → impl_Merge_l8 out l pre.length = some (rest.foldl mstep out)
 | [], pre, out, hp, hw => by rw [impl_Merge_l8, end_at hp]; rfl
 | x :: rest, pre, out, hp, hw => by
  rw [wt_cons] at hw
  have h1 := mstep_wt out x
  rw [Merge_impl_step l hl hp (by omega)]
  exact merge_loopI l hl rest (pre ++ [x]) (mstep out x) (step_at hp) (by omega)
theorem merge_both (l : List GNode) (h : wt l ≤ 1048576) : spec_Merge l = some (mergeP l) ∧ impl_Merge l = some (mergeP l) ∧ wt (mergeP l) ≤ wt l := by
 have := wt_len l
 obtain ⟨g1, g3⟩ := merge_spec l h
 exact ⟨g1, by rw [impl_Merge]; exact merge_loopI l (by omega) l [] [] rfl (by show 0 + _ ≤ _; omega), g3⟩
end TT
namespace TT
open Go
theorem szs_set {x y : GNode} : ∀ {l : List GNode} {i : Nat}, l[i]? = some x → szs GNode.sz (l.set i y) + x.sz = szs GNode.sz l + y.sz
 | z :: l, 0, h => by
  simp only [List.getElem?_cons_zero, Option.some.injEq] at h
  subst h
  rw [List.set_cons_zero, szs_cons, szs_cons]; omega
 | z :: l, i + 1, h => by
  rw [List.getElem?_cons_succ] at h
  have := szs_set (y := y) h
  rw [List.set_cons_succ, szs_cons, szs_cons]; omega
theorem getI_nat {l : List GNode} {i : Int} {x : GNode} (h : getI l i = some x) : 0 ≤ i ∧ i.toNat < l.length ∧ l[i.toNat]? = some x := by
 unfold getI at h
 split at h
 ·rename_i h0
  exact ⟨h0, (List.getElem?_eq_some_iff.1 h).1, h⟩
 ·cases h
theorem slL_to {α : Type} (l : List α) (k : Nat) (h : k ≤ l.length) : slL l 0 (k : Int) = some (l.take k) := by
 unfold slL; rw [if_pos ⟨by omega, by omega, by omega⟩]; simp
theorem slL_from {α : Type} (l : List α) (k : Nat) (h : k ≤ l.length) : slL l (k : Int) (lenL l) = some (l.drop k) := by
 unfold slL; rw [if_pos ⟨by omega, by simp only [lenL]; omega, by simp only [lenL]; omega⟩]
 simp only [lenL, Int.toNat_natCast]
 rw [List.take_of_length_le (by simp)]
def withKids (n : GNode) (l : List GNode) : GNode := GNode.mk n.Kind n.Pre n.Local n.Uri n.Decls n.Attrs l n.Text
theorem withKids_sz (n : GNode) (l : List GNode) : (withKids n l).sz + (n.Kids.length + szs GNode.sz n.Kids) = n.sz + (l.length + szs GNode.sz l) := by
 rw [GNode.sz_eq (withKids n l), GNode.sz_eq n]
 simp only [withKids]; omega
def turnP (k j : Nat) (l : List GNode) : List Int → GNode → GNode
 | [], n => withKids n (mergeP (n.Kids.take k ++ l ++ n.Kids.drop j))
 | i :: p, n => match getI n.Kids i with
  | some x => withKids n (n.Kids.set i.toNat (turnP k j l p x))
  | none => n
theorem wt_take_drop (L : List GNode) (k j : Nat) (h : k ≤ j) (l : List GNode) : wt (L.take k ++ l ++ L.drop j) ≤ wt L + wt l := by
 have h1 : wt (L.take k) + wt (L.drop k) = wt L := by rw [← wt_append, List.take_append_drop]
 have h2 : wt ((L.drop k).take (j - k)) + wt (L.drop j) = wt (L.drop k) := by
  rw [← wt_append]
  have : L.drop j = (L.drop k).drop (j - k) := by rw [List.drop_drop]; congr 1; omega
  rw [this, List.take_append_drop]
 rw [wt_append, wt_append]; omega
theorem turn_both (k j : Nat) (hkj : k ≤ j) (l : List GNode) : ∀ (p : List Int) (n x : GNode), p.length ≤ 2000000 → nodeAt n p = some x → j ≤ x.Kids.length → n.sz + wt l ≤ 1048576 →
  spec_l10Turn n p (k : Int) (j : Int) l = some (turnP k j l p n) ∧ (turnP k j l p n).sz ≤ n.sz + wt l
 | [], n, x, hp, hx, hj, hs => by
  simp only [nodeAt, Option.some.injEq] at hx
  subst hx
  have hk := kids_len (n := n)
  have hz := hs
  rw [GNode.sz_eq n] at hz
  have hw : wt (n.Kids.take k ++ l ++ n.Kids.drop j) ≤ wt n.Kids + wt l := wt_take_drop _ _ _ hkj l
  have hwk : wt n.Kids = n.Kids.length + szs GNode.sz n.Kids := rfl
  obtain ⟨m1, m2, m3⟩ := merge_both (n.Kids.take k ++ l ++ n.Kids.drop j) (by omega)
  have hll := wt_len l
  have hl1 : (n.Kids.take k).length ≤ n.Kids.length := by rw [List.length_take]; omega
  have hl2 : (n.Kids.drop j).length ≤ n.Kids.length := by rw [List.length_drop]; omega
  constructor
  ·rw [spec_l10Turn, eqI_t (show lenL ([] : List Int) = 0 from rfl), slL_to _ _ (by omega), slL_from _ _ hj]
   simp only [if_true, some_bnd, List.nil_append]
   rw [room_ok (by omega) (by omega) (by omega), room_ok (by omega) (by omega) (by omega), room_ok (by omega) (by omega) (by omega), m1]
   rfl
  ·have := withKids_sz n (mergeP (n.Kids.take k ++ l ++ n.Kids.drop j))
   have hm : wt (mergeP (n.Kids.take k ++ l ++ n.Kids.drop j)) = (mergeP (n.Kids.take k ++ l ++ n.Kids.drop j)).length + szs GNode.sz (mergeP (n.Kids.take k ++ l ++ n.Kids.drop j)) := rfl
   show (withKids n _).sz ≤ _
   omega
 | i :: p, n, x, hp, hx, hj, hs => by
  obtain ⟨y, h1, h2⟩ := Option.bind_eq_some_iff.1 hx
  obtain ⟨i0, i1, i2⟩ := getI_nat h1
  have hk := kids_len (n := n)
  have hy := kid_sz h1
  have hl : p.length ≤ 2000000 := by rw [List.length_cons] at hp; omega
  obtain ⟨g1, g2⟩ := turn_both k j hkj l p y x hl h2 hj (by omega)
  have e1 : slL (i :: p) 1 (lenL (i :: p)) = some p := slL_from (i :: p) 1 (by simp)
  have e2 : getI (i :: p) 0 = some i := rfl
  constructor
  ·rw [spec_l10Turn, eqI_f (by simp only [lenL, List.length_cons]; omega), room_ok (by omega) (by omega) (by omega), e1, e2]
   simp only [Bool.false_eq_true, if_false, some_bnd, h1, g1, List.nil_append, turnP]
   rfl
  ·have := withKids_sz n (n.Kids.set i.toNat (turnP k j l p y))
   have h3 := szs_set (y := turnP k j l p y) i2
   simp only [turnP, h1]
   rw [List.length_set] at this
   omega
theorem nodeAt_snoc : ∀ (p : List Int) {n y : GNode} {k : Int}, nodeAt n (p ++ [k]) = some y → ∃ x, nodeAt n p = some x ∧ getI x.Kids k = some y
 | [], n, y, k, h => by
  rw [List.nil_append] at h
  obtain ⟨z, h1, h2⟩ := Option.bind_eq_some_iff.1 h
  simp only [nodeAt, Option.some.injEq] at h2
  exact ⟨n, rfl, by rw [h1, h2]⟩
 | i :: p, n, y, k, h => by
  rw [List.cons_append] at h
  obtain ⟨z, h1, h2⟩ := Option.bind_eq_some_iff.1 h
  obtain ⟨x, h3, h4⟩ := nodeAt_snoc p h2
  exact ⟨x, by show (getI n.Kids i).bind _ = _; rw [h1]; exact h3, h4⟩
theorem turn_impl (k : Nat) (l : List GNode) : ∀ (p : List Int) (n x : GNode), p.length ≤ 2000000 → nodeAt n p = some x → k < x.Kids.length → n.sz + wt l ≤ 1048576 →
  impl_turnedAt_PutAt_1 n p (k : Int) l = some (turnP k (k + 1) l p n)
 | [], n, x, hp, hx, hj, hs => by
  simp only [nodeAt, Option.some.injEq] at hx
  subst hx
  have hk := kids_len (n := n)
  have hz := hs
  rw [GNode.sz_eq n] at hz
  have hw : wt (n.Kids.take k ++ l ++ n.Kids.drop (k + 1)) ≤ wt n.Kids + wt l := wt_take_drop _ _ _ (by omega) l
  have hwk : wt n.Kids = n.Kids.length + szs GNode.sz n.Kids := rfl
  obtain ⟨m1, m2, m3⟩ := merge_both (n.Kids.take k ++ l ++ n.Kids.drop (k + 1)) (by omega)
  have hll := wt_len l
  have hl1 : (n.Kids.take k).length ≤ n.Kids.length := by rw [List.length_take]; omega
  have hl2 : (n.Kids.drop (k + 1)).length ≤ n.Kids.length := by rw [List.length_drop]; omega
  have e1 : addI (k : Int) 1 = ((k + 1 : Nat) : Int) := by rw [addI_eq (by omega) (by omega)]; omega
  rw [impl_turnedAt_PutAt_1, copy_impl n (by omega), eqI_t (show lenL ([] : List Int) = 0 from rfl)]
  simp only [if_true, some_bnd]
  rw [impl_PutAt_1_PP', impl_spliced, e1, slL_to _ _ (by omega), slL_from _ _ (by omega)]
  simp only [some_bnd]
  rw [slices_Concat_Node]
  rw [if_pos ⟨by omega, by omega⟩]
  simp only [some_bnd, m2]
  rfl
 | i :: p, n, x, hp, hx, hj, hs => by
  obtain ⟨y, h1, h2⟩ := Option.bind_eq_some_iff.1 hx
  have hy := kid_sz h1
  have hl : p.length ≤ 2000000 := by rw [List.length_cons] at hp; omega
  have g1 := turn_impl k l p y x hl h2 hj (by omega)
  have e1 : slL (i :: p) 1 (lenL (i :: p)) = some p := slL_from (i :: p) 1 (by simp)
  have e2 : getI (i :: p) 0 = some i := rfl
  rw [impl_turnedAt_PutAt_1, copy_impl n (by omega), eqI_f (by simp only [lenL, List.length_cons]; omega), e1, e2]
  simp only [Bool.false_eq_true, if_false, some_bnd, h1, g1, turnP]
  rfl
theorem same_PutAt (n : GNode) (path : List Int) (l : List GNode) (hs : n.sz + wt l ≤ 1048576) (hp : path.length ≤ 1048576) : ∃ r, spec_PutAt n path l = some r ∧ impl_PutAt n path l = some r ∧ r.1.sz ≤ n.sz + wt l := by
 have c1 := copy_spec n (by omega)
 have c2 := copy_impl n (by omega)
 have a1 := nodeAt_spec n path (by omega) (by omega)
 have a2 := nodeAt_impl n path (by omega) (by omega)
 rw [spec_PutAt, impl_PutAt, a1, a2, c1, c2]
 rcases List.eq_nil_or_concat path with rfl | ⟨p, k, rfl⟩
 ·rw [eqI_t (show lenL ([] : List Int) = 0 from rfl)]
  refine ⟨(n, false), rfl, ?_, Nat.le_add_right _ _⟩
  rfl
 ·rw [List.concat_eq_append] at hp ⊢
  rw [List.length_append, List.length_singleton] at hp
  have e1 : subI (lenL (p ++ [k])) 1 = (p.length : Int) := by
   rw [subI_eq (by simp only [lenL, List.length_append, List.length_singleton]; omega) (by simp only [lenL, List.length_append, List.length_singleton]; omega)]
   simp only [lenL, List.length_append, List.length_singleton]; omega
  have e2 : getI (p ++ [k]) (p.length : Int) = some k := getI_at (show p ++ k :: [] = p ++ [k] from rfl)
  have e3 : slL (p ++ [k]) 0 (p.length : Int) = some p := by rw [slL_to _ _ (by simp)]; simp
  rw [eqI_f (by simp only [lenL, List.length_append, List.length_singleton]; omega), e1, e2, e3]
  simp only [Bool.false_eq_true, if_false, some_bnd]
  cases hn : nodeAt n (p ++ [k]) with
  | none =>
   simp only [nodeAtR, hn, Bool.false_eq_true, if_false]
   exact ⟨_, rfl, rfl, Nat.le_add_right _ _⟩
  | some y =>
   simp only [nodeAtR, hn, if_true]
   obtain ⟨x, h1, h2⟩ := nodeAt_snoc p hn
   obtain ⟨k0, k1, k2⟩ := getI_nat h2
   have hx := nodeAt_sz p h1
   have hxk := kids_len (n := x)
   have hk : k = ((k.toNat : Nat) : Int) := by omega
   have e4 : addI k 1 = ((k.toNat + 1 : Nat) : Int) := by rw [addI_eq (by omega) (by omega)]; omega
   obtain ⟨t1, t2⟩ := turn_both k.toNat (k.toNat + 1) (by omega) l p n x (by omega) h1 (by omega) hs
   have t3 := turn_impl k.toNat l p n x (by omega) h1 k1 hs
   rw [← hk, ← e4] at t1
   rw [← hk] at t3
   rw [t1, t3]
   simp only [some_bnd, copy_spec _ (Nat.le_trans t2 hs)]
   exact ⟨_, rfl, rfl, t2⟩
end TT
namespace TT
open Go
theorem copyWk (w : GWalk) (hs : w.sz ≤ 1048576) : spec_l22Copy w = some w ∧ impl_cloneWalk w = some w := by
 rw [GWalk.sz_eq] at hs
 constructor
 ·rw [spec_l22Copy, copy_spec _ (by omega), room_ok (by omega) (by omega) (by omega)]
  simp only [some_bnd, List.nil_append, eta_GWalk]
 ·rw [impl_cloneWalk, copy_impl _ (by omega), slices_Clone_int, room_ok (by omega) (by omega) (by omega)]
  simp only [some_bnd, eta_GWalk]
theorem same_Swap (w : GWalk) (n : GNode) (hs : w.sz + n.sz ≤ 1048576) : ∃ r, spec_Swap w n = some r ∧ impl_Swap w n = some r ∧ r.1.Tre.sz ≤ 1100000 ∧ r.1.Path.length ≤ 1048576 ∧ r.1.sz ≤ 1200000 := by
 obtain ⟨c1, c2⟩ := copyWk w (by omega)
 obtain ⟨w1, w2⟩ := walk_b w (by omega)
 obtain ⟨h, h1, h2, h3⟩ := same_Here w (by omega)
 obtain ⟨n1, n2⟩ := node_b n (by omega)
 have hz := hs
 rw [GWalk.sz_eq] at hz
 have triv : ∃ r, some (w, false) = some r ∧ some (w, false) = some r ∧ r.1.Tre.sz ≤ 1100000 ∧ r.1.Path.length ≤ 1048576 ∧ r.1.sz ≤ 1200000 := ⟨_, rfl, rfl, by show w.Tre.sz ≤ _; omega, by show w.Path.length ≤ _; omega, by show w.sz ≤ _; omega⟩
 rw [spec_Swap, impl_Swap, c1, c2, w1, w2, h1, h2, n1, n2]
 simp only [some_bnd]
 cases hw : walkB w with
 | false => exact triv
 | true =>
  simp only [if_true]
  by_cases h0 : w.Path.length = 0
  ·rw [eqI_t (show lenL w.Path = 0 by simp only [lenL]; omega)]; exact triv
  ·rw [eqI_f (show lenL w.Path ≠ 0 by simp only [lenL]; omega)]
   simp only [Bool.false_eq_true, if_false]
   have e : neI n.Kind h.Kind = neI h.Kind n.Kind := by simp only [neI]; exact bne_comm
   rw [e]
   cases neI h.Kind n.Kind with
   | true => exact triv
   | false =>
    simp only [Bool.false_eq_true, if_false]
    cases nodeB n with
    | false => exact triv
    | true =>
     simp only [if_true]
     have hwt : wt [n] = 1 + n.sz := by rw [wt_cons]; rfl
     obtain ⟨r, p1, p2, p3⟩ := same_PutAt w.Tre w.Path [n] (by omega) (by omega)
     obtain ⟨t1, t2⟩ := tree_b r.1 (by omega)
     rw [p1, p2]
     simp only [some_bnd, t1, t2]
     cases treeB r.1 with
     | false => exact triv
     | true =>
      refine ⟨_, rfl, rfl, by show r.1.sz ≤ _; omega, by show w.Path.length ≤ _; omega, ?_⟩
      rw [GWalk.sz_eq]
      show r.1.sz + w.Path.length ≤ _
      omega
end TT
