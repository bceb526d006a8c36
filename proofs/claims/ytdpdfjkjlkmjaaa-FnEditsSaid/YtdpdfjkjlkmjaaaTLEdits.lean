import Derived.Test.YtdpdfjkjlkmjaaaTP3Edits
set_option linter.unusedVariables false
set_option linter.unusedSimpArgs false
namespace TT
open Go
theorem edits_j22 (r4 : GNode × List Int × Int × List GNode) (r5 : GNode × Bool) (h1 : r4.1.sz ≤ 3000) (h2 : r4.2.1.length ≤ 3001) (h3 : wt r4.2.2.2 ≤ 2000) (hg : Good r4.1) (hs : r5.1.sz ≤ r4.1.sz + wt r4.2.2.2)
  (hr : r5.2 = true → ∃ (k : Nat) (x : GNode), r4.2.2.1 = (k : Int) ∧ nodeAt r4.1 r4.2.1 = some x ∧ k ≤ x.Kids.length ∧ r5 = (turnP k k r4.2.2.2 r4.2.1 r4.1, true)) : laws_FnEdits_j22 r4 r5.2 r5 = some true := by
 rw [laws_FnEdits_j22]
 by_cases hb : r5.2 = true
 case neg => simp only [hb, Bool.false_eq_true, if_false]
 simp only [hb, if_true]
 by_cases hn : neI (lenL r4.2.2.2) 1 = true
 ·simp only [hn, if_true]
 simp only [hn, Bool.false_eq_true, if_false]
 have hlen : r4.2.2.2.length = 1 := by
  have : neI (lenL r4.2.2.2) 1 = false := by simpa using hn
  simp only [neI, lenL, bne_eq_false_iff_eq] at this
  omega
 obtain ⟨y, hy⟩ : ∃ y, r4.2.2.2 = [y] := by
  match hm : r4.2.2.2, hlen with
  | [y], _ => exact ⟨y, rfl⟩
 have hy0 : getI r4.2.2.2 0 = some y := by rw [hy]; rfl
 rw [hy0, some_bnd]
 by_cases hk : y.Kind = 2
 ·rw [eqI_t hk]; rfl
 rw [eqI_f hk]
 simp only [Bool.false_eq_true, if_false]
 obtain ⟨k, x, e1, e2, e3, e4⟩ := hr hb
 have hwy : wt r4.2.2.2 = 1 + y.sz := by rw [hy, wt_cons]; rfl
 have hx := nodeAt_sz _ e2
 have hxk := kids_len (n := x)
 have hcl := (nodeAt_good _ hg e2).clean
 have hc1 : cleanL false (x.Kids.take k ++ [y] ++ x.Kids.drop k) = true := by
  rw [List.append_assoc]
  exact clean_put _ _ _ y hk (clean_take _ k _ hcl) (clean_drop _ k _ hcl)
 have hz : r5.1 = setK (x.Kids.take k ++ [y] ++ x.Kids.drop k) r4.2.1 r4.1 := by
  rw [e4]
  show turnP k k r4.2.2.2 r4.2.1 r4.1 = _
  rw [turn_setK k k r4.2.2.2 r4.2.1 r4.1 x e2, hy, mergeP_clean _ hc1]
 have hna : nodeAt r5.1 r4.2.1 = some (withKids x (x.Kids.take k ++ [y] ++ x.Kids.drop k)) := by rw [hz]; exact nodeAt_setK _ _ _ _ e2
 have hlt : (x.Kids.take k).length = k := by rw [List.length_take]; omega
 have hyk : (x.Kids.take k ++ [y] ++ x.Kids.drop k)[k]? = some y := by
  rw [List.append_assoc, List.getElem?_append_right (by omega), hlt, Nat.sub_self]; rfl
 have hpath : (([] ++ r4.2.1) ++ [r4.2.2.1]) = r4.2.1 ++ [(k : Int)] := by rw [List.nil_append, e1]
 have hpl : (r4.2.1 ++ [(k : Int)]).length ≤ 1048576 := by simp; omega
 have a1 : nodeAt r5.1 (r4.2.1 ++ [(k : Int)]) = some y := nodeAt_snoc' _ hna (getI_k hyk)
 have a2 : impl_NodeAt r5.1 (r4.2.1 ++ [(k : Int)]) = some (y, true) := by rw [nodeAt_impl _ _ (by omega) (by omega), nodeAtR, a1]
 obtain ⟨r, p1, p2, p3, p4, p5⟩ := put_all r5.1 (r4.2.1 ++ [(k : Int)]) [] (by show _ + 0 ≤ _; omega) hpl
 have p6 := p5 r4.2.1 k _ y rfl hna hyk
 have hback : r.1 = r4.1 := by
  rw [p6]
  show turnP k (k + 1) [] r4.2.1 r5.1 = _
  rw [turn_setK k (k + 1) [] r4.2.1 r5.1 _ hna]
  show setK (mergeP ((x.Kids.take k ++ [y] ++ x.Kids.drop k).take k ++ [] ++ (x.Kids.take k ++ [y] ++ x.Kids.drop k).drop (k + 1))) r4.2.1 r5.1 = _
  have t1 : (x.Kids.take k ++ [y] ++ x.Kids.drop k).take k = x.Kids.take k := by rw [List.append_assoc, List.take_append_of_le_length (by omega), List.take_of_length_le (by omega)]
  have t2 : (x.Kids.take k ++ [y] ++ x.Kids.drop k).drop (k + 1) = x.Kids.drop k := by
   rw [List.drop_append_of_le_length (by simp; omega), List.drop_of_length_le (by simp; omega), List.nil_append]
  rw [t1, t2, List.append_nil, List.take_append_drop, mergeP_clean _ hcl, hz, setK_setK _ _ _ _ _ e2, setK_self _ _ _ e2]
 have r1 := room_ok (n := 0 + r4.2.1.length) (byt := 8) (by omega) (by omega) (by omega)
 have r2 := room_ok (n := (0 + r4.2.1.length) + 1) (byt := 8) (by omega) (by omega) (by omega)
 have s1 : impl_SameNode y y = some true := sameNode_self y (by omega)
 have s2 : impl_SameNode r.1 r4.1 = some true := by rw [hback]; exact sameNode_self _ (by omega)
 rw [hpath]
 simp only [r1, r2, some_bnd, a2, p2, if_true, s1, s2, show r.2 = true by rw [p6]]
theorem law_FnEdits (code : List Int) (hl : code.length ≤ maxLen) (hc : ∀ y ∈ code, 0 ≤ y ∧ y < 256) : laws_FnEdits code = some true := by
 rw [laws_FnEdits, laws_big]
 by_cases hb : code.length ≤ 1048576
 case neg => rw [gtI_t (by simp only [lenL]; omega)]; rfl
 rw [gtI_f (by simp only [lenL]; omega)]
 obtain ⟨n, en, hn1, hn2, hn3⟩ := drawPutAt_tot code hb
 obtain ⟨t, et, ht1, ht2, ht3, ht4⟩ := drawInsertAt_tot code hb
 obtain ⟨r, a1, a2, a3, a4, _⟩ := put_all n.1 n.2.1 n.2.2 (by omega) (by omega)
 obtain ⟨q, b1, b2, b3, b4, b5⟩ := ins_all t.1 t.2.1 t.2.2.1 t.2.2.2 (by omega) (by omega)
 have s1 : impl_SameNode r.1 r.1 = some true := sameNode_self _ (by omega)
 have s2 : impl_SameNode q.1 q.1 = some true := sameNode_self _ (by omega)
 have j := edits_j22 t q ht1 ht2 ht3 ht4 b3 b5
 have s3 : r.2 = false → impl_SameNode r.1 n.1 = some true := fun h => by rw [a4 h]; exact sameNode_self _ (by omega)
 have s4 : q.2 = false → impl_SameNode q.1 t.1 = some true := fun h => by rw [b4 h]; exact sameNode_self _ (by omega)
 simp only [some_bnd, Bool.false_eq_true, if_false, en, et, a1, a2, b1, b2, neB_self, s1, s2, if_true]
 cases h1 : r.2 <;> cases h2 : q.2 <;> rw [h2] at j <;> simp only [if_true, Bool.false_eq_true, if_false, some_bnd, j]
 ·rw [s3 h1, s4 h2]; rfl
 ·rw [s3 h1]; rfl
 ·rw [s4 h2]; rfl
end TT
