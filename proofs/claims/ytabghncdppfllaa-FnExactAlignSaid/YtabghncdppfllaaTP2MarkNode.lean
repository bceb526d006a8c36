import Derived.Test.YtabghncdppfllaaTP2AlignL
set_option linter.unusedVariables false
set_option linter.unusedSimpArgs false
namespace TT
open Go
theorem bnd_assoc {α β γ : Type} (o : Option α) (f : α → Option β) (g : β → Option γ) : ((o >>= f) >>= g) = (o >>= fun x => f x >>= g) := by cases o <;> rfl
theorem bnd_none2 {α β : Type} (o : Option α) : (o >>= fun _ => (none : Option β)) = none := by cases o <;> rfl
theorem get_set {α : Type} {l : List α} {i : Int} {x v : α} (h : getI l i = some x) : getI (l.set (Int.toNat i) v) i = some v := by
  unfold getI at *
  split at h
  · rename_i h0
    rw [if_pos h0]
    obtain ⟨h1, _⟩ := List.getElem?_eq_some_iff.1 h
    simp [List.getElem?_set, h1]
  · simp at h
def mB : Int := 100000000000
theorem markDeclS_ok (a : List GDecl) (hl : a.length ≤ maxLen) (k : Int) (h0 : 0 ≤ k) (h1 : k + szs (fun _ => 2) a ≤ mB) : ∃ r, laws_markDeclS a k = some r ∧ k ≤ r.1 ∧ r.1 ≤ k + szs (fun _ => 2) a ∧ r.2.length = a.length := by
  refine mark_loop laws_markDeclS_l6 (fun x k => laws_markText k >>= fun r2 => laws_markText (addI k 1) >>= fun r3 => some (addI (addI k 1) 1, GDecl.mk r2 r3)) (fun _ => 2) ?_ a hl mB ?_ k h0 h1
  · intro a k i
    rw [laws_markDeclS_l6]
    split
    · cases hx : getI a i with
      | none => simp only [none_bnd, bnd_none2]
      | some x => simp only [get_set hx, List.set_set, bnd_assoc, some_bnd]
    · rfl
  · intro x _ k h0 h1
    have : mB = 100000000000 := rfl
    rw [addI_eq (a := k) (by omega) (by omega), addI_eq (a := k + 1) (by omega) (by omega)]
    obtain ⟨s, e⟩ := markText_ok k (by omega) (by omega)
    obtain ⟨s', e'⟩ := markText_ok (k + 1) (by omega) (by omega)
    rw [e, e']
    exact ⟨_, rfl, by show k ≤ k + 1 + 1; omega, by show k + 1 + 1 ≤ k + (2 : Nat); omega⟩
theorem markAttrS_ok (a : List GAttr) (hl : a.length ≤ maxLen) (k : Int) (h0 : 0 ≤ k) (h1 : k + szs (fun _ => 4) a ≤ mB) : ∃ r, laws_markAttrS a k = some r ∧ k ≤ r.1 ∧ r.1 ≤ k + szs (fun _ => 4) a ∧ r.2.length = a.length := by
  refine mark_loop laws_markAttrS_l6 (fun x k => laws_markText k >>= fun r2 => laws_markText (addI k 1) >>= fun r3 => laws_markText (addI (addI k 1) 1) >>= fun r4 => laws_markText (addI (addI (addI k 1) 1) 1) >>= fun r5 => some (addI (addI (addI (addI k 1) 1) 1) 1, GAttr.mk r2 r3 r4 r5)) (fun _ => 4) ?_ a hl mB ?_ k h0 h1
  · intro a k i
    rw [laws_markAttrS_l6]
    split
    · cases hx : getI a i with
      | none => simp only [none_bnd, bnd_none2]
      | some x => simp only [get_set hx, List.set_set, bnd_assoc, some_bnd]
    · rfl
  · intro x _ k h0 h1
    have : mB = 100000000000 := rfl
    rw [addI_eq (a := k) (by omega) (by omega), addI_eq (a := k + 1) (by omega) (by omega), addI_eq (a := k + 1 + 1) (by omega) (by omega), addI_eq (a := k + 1 + 1 + 1) (by omega) (by omega)]
    obtain ⟨s, e⟩ := markText_ok k (by omega) (by omega)
    obtain ⟨s', e'⟩ := markText_ok (k + 1) (by omega) (by omega)
    obtain ⟨s2, e2⟩ := markText_ok (k + 1 + 1) (by omega) (by omega)
    obtain ⟨s3, e3⟩ := markText_ok (k + 1 + 1 + 1) (by omega) (by omega)
    rw [e, e', e2, e3]
    exact ⟨_, rfl, by show k ≤ k + 1 + 1 + 1 + 1; omega, by show k + 1 + 1 + 1 + 1 ≤ k + (4 : Nat); omega⟩
def cN (x : GNode) : Nat := 8 + 8 * x.sz
theorem szs_const {α : Type} (c : Nat) (l : List α) : szs (fun _ => c) l = c * l.length := by
  induction l with
  | nil => rfl
  | cons x l ih => rw [szs_cons, ih, List.length_cons, Nat.mul_add]; omega
theorem szs_cN (l : List GNode) : szs cN l = 8 * l.length + 8 * szs GNode.sz l := by
  induction l with
  | nil => rfl
  | cons x l ih => rw [szs_cons, ih, szs_cons, List.length_cons, cN]; omega
def markN (x : GNode) (k : Int) : Option (Int × GNode) :=
  laws_markText (addI k 1) >>= fun r7 => laws_markText (addI (addI k 1) 1) >>= fun r8 => laws_markText (addI (addI (addI k 1) 1) 1) >>= fun r9 =>
  laws_markDeclS x.Decls (addI (addI (addI (addI k 1) 1) 1) 1) >>= fun r10 => laws_markAttrS x.Attrs r10.1 >>= fun r11 => laws_markNodeS' x.Kids r11.1 >>= fun r12 => laws_markText r12.1 >>= fun r13 =>
  some (addI r12.1 1, GNode.mk k r7 r8 r9 r10.2 r11.2 r12.2 r13)
theorem markN_eq' (a : List GNode) (k i : Int) : laws_markNodeS'_l6 a k i = if ltI i (lenL a) then getI a i >>= fun x => markN x k >>= fun r => laws_markNodeS'_l6 (a.set i.toNat r.2) r.1 (addI i 1) else some (k, a) := by
  rw [laws_markNodeS'_l6]
  split
  · cases hx : getI a i with
    | none => rfl
    | some x => simp only [get_set hx, List.set_set, bnd_assoc, some_bnd, markN]
  · rfl
theorem markN_eq (a : List GNode) (k i : Int) : laws_markNodeS_l6 a k i = if ltI i (lenL a) then getI a i >>= fun x => markN x k >>= fun r => laws_markNodeS_l6 (a.set i.toNat r.2) r.1 (addI i 1) else some (k, a) := by
  rw [laws_markNodeS_l6]
  split
  · cases hx : getI a i with
    | none => rfl
    | some x => simp only [get_set hx, List.set_set, bnd_assoc, some_bnd, markN]
  · rfl
theorem markN_ok : ∀ x : GNode, x.sz ≤ 1048576 → ∀ k, 0 ≤ k → k + cN x ≤ mB → ∃ r, markN x k = some r ∧ k ≤ r.1 ∧ r.1 ≤ k + cN x := by
  refine GNode.ind' fun x ih hs k h0 h1 => ?_
  have e0 : mB = 100000000000 := rfl
  have em : maxLen = 9223372036854775807 := rfl
  have hz := GNode.sz_eq x
  have hc : cN x = 8 + 8 * x.sz := rfl
  unfold markN
  rw [addI_eq (a := k) (by omega) (by omega), addI_eq (a := k + 1) (by omega) (by omega), addI_eq (a := k + 1 + 1) (by omega) (by omega), addI_eq (a := k + 1 + 1 + 1) (by omega) (by omega)]
  obtain ⟨s1, e1⟩ := markText_ok (k + 1) (by omega) (by omega)
  obtain ⟨s2, e2⟩ := markText_ok (k + 1 + 1) (by omega) (by omega)
  obtain ⟨s3, e3⟩ := markText_ok (k + 1 + 1 + 1) (by omega) (by omega)
  obtain ⟨d, e4, d1, d2, _⟩ := markDeclS_ok x.Decls (by omega) (k + 1 + 1 + 1 + 1) (by omega) (by rw [szs_const]; omega)
  rw [szs_const] at d2
  obtain ⟨f, e5, f1, f2, _⟩ := markAttrS_ok x.Attrs (by omega) d.1 (by omega) (by rw [szs_const]; omega)
  rw [szs_const] at f2
  obtain ⟨g, e6, g1, g2, _⟩ := mark_loop laws_markNodeS'_l6 markN cN markN_eq' x.Kids (by omega) mB (fun y hy k h0 h1 => ih y hy (by have := szs_mem GNode.sz hy; omega) k h0 h1) f.1 (by omega) (by rw [szs_cN]; omega)
  rw [szs_cN] at g2
  have e6' : laws_markNodeS' x.Kids f.1 = some g := by rw [laws_markNodeS']; exact e6
  obtain ⟨s4, e7⟩ := markText_ok g.1 (by omega) (by omega)
  rw [e1, e2, e3]
  simp only [some_bnd, e4, e5, e6', e7]
  rw [addI_eq (a := g.1) (by omega) (by omega)]
  exact ⟨_, rfl, by show k ≤ g.1 + 1; omega, by show g.1 + 1 ≤ _; omega⟩
theorem markNodeS_ok (a : List GNode) (k : Int) (hs : a.length + szs GNode.sz a ≤ 1048576) (h0 : 0 ≤ k) (h1 : k ≤ 1000000000) : ∃ r, laws_markNodeS a k = some r ∧ k ≤ r.1 ∧ r.1 ≤ k + 10000000 ∧ r.2.length = a.length := by
  have e0 : mB = 100000000000 := rfl
  have em : maxLen = 9223372036854775807 := rfl
  obtain ⟨r, e, r1, r2, r3⟩ := mark_loop laws_markNodeS_l6 markN cN markN_eq a (by omega) mB (fun y hy k h0 h1 => markN_ok y (by have := szs_mem GNode.sz hy; omega) k h0 h1) k h0 (by rw [szs_cN]; omega)
  rw [szs_cN] at r2
  exact ⟨r, by rw [laws_markNodeS]; exact e, r1, by omega, r3⟩
end TT
