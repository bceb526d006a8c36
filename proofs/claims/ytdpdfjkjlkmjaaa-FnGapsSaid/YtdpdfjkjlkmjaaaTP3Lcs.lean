import Derived.Test.YtdpdfjkjlkmjaaaTP3Same
set_option linter.unusedVariables false
set_option linter.unusedSimpArgs false
namespace TT
open Go
theorem all2_eq {α : Type} {p : α → α → Bool} (hp : ∀ x y, p x y = true → x = y) : ∀ {l m : List α}, all2 p l m = true → l = m
 | [], [], _ => rfl
 | x :: l, y :: m, h => by
  simp only [all2, Bool.and_eq_true] at h
  rw [hp x y h.1, all2_eq hp h.2]
 | [], _ :: _, h => by simp [all2] at h
 | _ :: _, [], h => by simp [all2] at h
theorem sameNode_eq : ∀ a : GNode, a.sz ≤ 1048576 → ∀ b : GNode, b.sz ≤ 1048576 → impl_SameNode a b = some true → a = b := by
 refine GNode.ind' fun a ih ha b hb h => ?_
 have hza := GNode.sz_eq a
 have hzb := GNode.sz_eq b
 rw [impl_SameNode] at h
 have hA : impl_sameAlone a b = some true ∧ slices_EqualFunc_Node_SameNode a.Kids b.Kids = some true := by
  cases e : impl_sameAlone a b with
  | none => rw [e] at h; cases h
  | some r =>
   rw [e] at h
   cases r with
   | false => cases h
   | true =>
    refine ⟨rfl, ?_⟩
    cases e2 : slices_EqualFunc_Node_SameNode a.Kids b.Kids with
    | none => simp only [some_bnd, if_true, e2] at h; cases h
    | some q => simp only [some_bnd, if_true, e2] at h; cases q <;> first | rfl | cases h
 obtain ⟨h1, h2⟩ := hA
 rw [impl_sameAlone] at h1
 by_cases e1 : eqI a.Kind b.Kind = true
 case neg => simp only [e1, Bool.false_eq_true, if_false] at h1; cases h1
 by_cases e2 : eqS a.Pre b.Pre = true
 case neg => simp only [e1, e2, if_true, Bool.false_eq_true, if_false] at h1; cases h1
 by_cases e3 : eqS a.Local b.Local = true
 case neg => simp only [e1, e2, e3, if_true, Bool.false_eq_true, if_false] at h1; cases h1
 by_cases e4 : eqS a.Uri b.Uri = true
 case neg => simp only [e1, e2, e3, e4, if_true, Bool.false_eq_true, if_false] at h1; cases h1
 by_cases e5 : eqS a.Text b.Text = true
 case neg => simp only [e1, e2, e3, e4, e5, if_true, Bool.false_eq_true, if_false] at h1; cases h1
 simp only [e1, e2, e3, e4, e5, if_true] at h1
 have d1 : a.Decls = b.Decls := by
  by_cases l1 : a.Decls.length = b.Decls.length
  ·rw [slices_Equal_Decl_eq _ _ (by rw [maxLen_eq]; omega) l1] at h1
   cases q : all2 (fun x y => eqS x.Pre y.Pre && eqS x.Uri y.Uri) a.Decls b.Decls with
   | false => rw [q] at h1; cases h1
   | true =>
    refine all2_eq (fun x y hxy => ?_) q
    simp only [Bool.and_eq_true] at hxy
    cases x; cases y
    simp only [GDecl.mk.injEq]
    exact ⟨eqS_iff.1 hxy.1, eqS_iff.1 hxy.2⟩
  ·rw [slices_Equal_Decl_ne _ _ l1] at h1; cases h1
 have a1 : a.Attrs = b.Attrs := by
  cases q0 : slices_Equal_Decl a.Decls b.Decls with
  | none => rw [q0] at h1; cases h1
  | some r0 =>
   rw [q0] at h1
   cases r0 with
   | false => cases h1
   | true =>
    by_cases l1 : a.Attrs.length = b.Attrs.length
    ·simp only [some_bnd, if_true] at h1
     rw [slices_Equal_Attr_eq _ _ (by rw [maxLen_eq]; omega) l1] at h1
     cases q : all2 (fun x y : GAttr => (eqS x.Pre y.Pre && (eqS x.Local y.Local && (eqS x.Uri y.Uri && eqS x.Val y.Val)))) a.Attrs b.Attrs with
     | false => rw [q] at h1; cases h1
     | true =>
      refine all2_eq (fun x y hxy => ?_) q
      simp only [Bool.and_eq_true] at hxy
      cases x; cases y
      simp only [GAttr.mk.injEq]
      exact ⟨eqS_iff.1 hxy.1, eqS_iff.1 hxy.2.1, eqS_iff.1 hxy.2.2.1, eqS_iff.1 hxy.2.2.2⟩
    ·simp only [some_bnd, if_true] at h1
     rw [slices_Equal_Attr_ne _ _ l1] at h1; cases h1
 have k1 : a.Kids = b.Kids := by
  rw [slices_EqualFunc_Node_SameNode] at h2
  by_cases l1 : a.Kids.length = b.Kids.length
  case neg => rw [neI_len l1] at h2; cases h2
  rw [neI_len' l1] at h2
  simp only [Bool.false_eq_true, if_false] at h2
  have key : ∀ (m k : Nat), a.Kids.length ≤ k + m → k ≤ a.Kids.length → slices_EqualFunc_Node_SameNode_l14 b.Kids a.Kids k = some true → a.Kids.drop k = b.Kids.drop k := by
   intro m
   induction m with
   | zero => intro k h1 h2 _; rw [List.drop_of_length_le (by omega), List.drop_of_length_le (by omega)]
   | succ m ihm =>
    intro k g1 g2 hF
    by_cases e : k = a.Kids.length
    ·rw [List.drop_of_length_le (by omega), List.drop_of_length_le (by omega)]
    ·have hk1 : k < a.Kids.length := by omega
     have hk2 : k < b.Kids.length := by omega
     have x1 := List.getElem?_eq_getElem hk1
     have x2 := List.getElem?_eq_getElem hk2
     have s1 := szs_mem GNode.sz (mem_k x1)
     have s2 := szs_mem GNode.sz (mem_k x2)
     rw [slices_EqualFunc_Node_SameNode_l14, lt_k x1, getI_k x1, getI_k x2, add_k (by omega)] at hF
     simp only [if_true, some_bnd] at hF
     cases q : impl_SameNode a.Kids[k] b.Kids[k] with
     | none => rw [q] at hF; cases hF
     | some r =>
      rw [q] at hF
      cases r with
      | false => cases hF
      | true =>
       have e1 := ih _ (mem_k x1) (by omega) _ (by omega) q
       rw [List.drop_eq_getElem_cons hk1, List.drop_eq_getElem_cons hk2, e1, ihm (k + 1) (by omega) (by omega) hF]
  exact key a.Kids.length 0 (by omega) (by omega) h2
 cases a; cases b
 simp only at e1 e2 e3 e4 e5 d1 a1 k1
 simp only [GNode.mk.injEq]
 exact ⟨eqI_iff.1 e1, eqS_iff.1 e2, eqS_iff.1 e3, eqS_iff.1 e4, d1, a1, k1, eqS_iff.1 e5⟩
theorem snB_self (a : GNode) (ha : a.sz ≤ 1048576) : snB a a = true := by
 have h1 := impl_node a a ha ha
 rw [sameNode_self a ha] at h1
 exact (Option.some.inj h1).symm
theorem snB_eq {a b : GNode} (ha : a.sz ≤ 1048576) (hb : b.sz ≤ 1048576) (h : snB a b = true) : a = b := sameNode_eq a ha b hb (by rw [impl_node a b ha hb, h])
end TT
