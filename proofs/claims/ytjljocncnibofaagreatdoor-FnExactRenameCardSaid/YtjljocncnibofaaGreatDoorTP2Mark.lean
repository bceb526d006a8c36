import Derived.Test.YtjljocncnibofaaGreatDoorTP0
import Derived.Test.YtjljocncnibofaaGreatDoorTP1
set_option linter.unusedVariables false
set_option linter.unusedSimpArgs false
namespace TT
open Go
theorem markText_ok (k : Int) (h0 : 0 ≤ k) (h1 : k < 1000000000000000000) : ∃ s, laws_markText k = some s := by
 rw [laws_markText]
 by_cases g : k ≤ 0
 ·rw [leI_t g]; exact ⟨_, rfl⟩
 ·rw [leI_f g]
  exact markText_loop laws_markText_l14 (fun k out => by rw [laws_markText_l14]) k h0 h1
def mkDecl (x : GDecl) (k : Int) : Option (Int × GDecl) := laws_markText k >>= fun v0 => laws_markText (addI k 1) >>= fun v1 => some (addI (addI k 1) 1, GDecl.mk v0 v1)
def hdDecl (x : GDecl) (k : Int) (C : Int → Option Int) : Option Int := laws_markText k >>= fun v0 => if neS x.Pre v0 then some (-1) else laws_markText (addI k 1) >>= fun v1 => if neS x.Uri v1 then some (-1) else C (addI (addI k 1) 1)
theorem hdDecl_eq (a : List GDecl) (k i : Int) : laws_heldDeclS_l6 a k i = if ltI i (lenL a) then getI a i >>= fun x => hdDecl x k (fun k => laws_heldDeclS_l6 a k (addI i 1)) else some k := by
 rw [laws_heldDeclS_l6]
 split
 ·cases hx : getI a i with
  | none => first | rfl | simp only [none_bnd, bnd_none2]
  | some x => simp only [some_bnd, hdDecl]
 ·rfl
theorem mkDecl_eq (a : List GDecl) (k i : Int) : laws_markDeclS_l6 a k i = if ltI i (lenL a) then getI a i >>= fun x => mkDecl x k >>= fun r => laws_markDeclS_l6 (a.set i.toNat r.2) r.1 (addI i 1) else some (k, a) := by
 rw [laws_markDeclS_l6]
 split
 ·cases hx : getI a i with
  | none => first | rfl | simp only [none_bnd, bnd_none2]
  | some x => simp only [get_set hx, List.set_set, bnd_assoc, some_bnd, mkDecl]
 ·rfl
theorem stDecl_ok (x : GDecl) (hs : x.sz ≤ 1200000) (k : Int) (h0 : 0 ≤ k) (h1 : k + (8 + 8 * (GDecl.sz x : Nat) : Nat) ≤ mB) : ∃ r, mkDecl x k = some r ∧ k ≤ r.1 ∧ r.1 ≤ k + (8 + 8 * (GDecl.sz x : Nat) : Nat) ∧ ∀ C, hdDecl r.2 k C = C r.1 := by
 have e0 : mB = 100000000000 := rfl
 have em : maxLen = 9223372036854775807 := rfl
 have hz := GDecl.sz_eq x
 obtain ⟨t0, u0⟩ := markText_ok (k) (by omega) (by omega)
 have w0 : addI (k) 1 = k + 1 := addI_eq (by omega) (by omega)
 obtain ⟨t1, u1⟩ := markText_ok (k + 1) (by omega) (by omega)
 have w1 : addI (k + 1) 1 = k + 1 + 1 := addI_eq (by omega) (by omega)
 refine ⟨(k + 1 + 1, GDecl.mk t0 t1), ?_, ?_, ?_, fun C => ?_⟩
 ·simp only [mkDecl, some_bnd, u0, w0, u1, w1]
 ·show k ≤ k + 1 + 1; omega
 ·show k + 1 + 1 ≤ _; omega
 ·simp only [hdDecl, some_bnd, neS_self, neI_self, neB_self, Bool.false_eq_true, if_false, u0, w0, u1, w1]
theorem holdDeclS_ok (a : List GDecl) (hl : a.length + szs GDecl.sz a ≤ 1200000) (k : Int) (h0 : 0 ≤ k) (h1 : k + (8 * a.length + 8 * szs GDecl.sz a : Nat) ≤ mB) : ∃ r, laws_markDeclS a k = some r ∧ k ≤ r.1 ∧ r.1 ≤ k + (8 * a.length + 8 * szs GDecl.sz a : Nat) ∧ r.2.length = a.length ∧ laws_heldDeclS r.2 k = some r.1 := by
 have em : maxLen = 9223372036854775807 := rfl
 obtain ⟨r, r1, r2, r3, r4, r5⟩ := held_loop laws_markDeclS_l6 mkDecl (fun x => 8 + 8 * GDecl.sz x) laws_heldDeclS_l6 hdDecl mkDecl_eq hdDecl_eq a (by omega) mB (fun y hy k h0 h1 => stDecl_ok y (by have := szs_mem GDecl.sz hy; omega) k h0 h1) k h0 (by rw [szs_c8]; exact h1)
 rw [szs_c8] at r3
 exact ⟨r, by rw [laws_markDeclS]; exact r1, r2, r3, r4, by rw [laws_heldDeclS]; exact r5⟩
def mkAttr (x : GAttr) (k : Int) : Option (Int × GAttr) := laws_markText k >>= fun v0 => laws_markText (addI k 1) >>= fun v1 => laws_markText (addI (addI k 1) 1) >>= fun v2 => laws_markText (addI (addI (addI k 1) 1) 1) >>= fun v3 => some (addI (addI (addI (addI k 1) 1) 1) 1, GAttr.mk v0 v1 v2 v3)
def hdAttr (x : GAttr) (k : Int) (C : Int → Option Int) : Option Int := laws_markText k >>= fun v0 => if neS x.Pre v0 then some (-1) else laws_markText (addI k 1) >>= fun v1 => if neS x.Local v1 then some (-1) else laws_markText (addI (addI k 1) 1) >>= fun v2 => if neS x.Uri v2 then some (-1) else laws_markText (addI (addI (addI k 1) 1) 1) >>= fun v3 => if neS x.Val v3 then some (-1) else C (addI (addI (addI (addI k 1) 1) 1) 1)
theorem hdAttr_eq (a : List GAttr) (k i : Int) : laws_heldAttrS_l6 a k i = if ltI i (lenL a) then getI a i >>= fun x => hdAttr x k (fun k => laws_heldAttrS_l6 a k (addI i 1)) else some k := by
 rw [laws_heldAttrS_l6]
 split
 ·cases hx : getI a i with
  | none => first | rfl | simp only [none_bnd, bnd_none2]
  | some x => simp only [some_bnd, hdAttr]
 ·rfl
theorem mkAttr_eq (a : List GAttr) (k i : Int) : laws_markAttrS_l6 a k i = if ltI i (lenL a) then getI a i >>= fun x => mkAttr x k >>= fun r => laws_markAttrS_l6 (a.set i.toNat r.2) r.1 (addI i 1) else some (k, a) := by
 rw [laws_markAttrS_l6]
 split
 ·cases hx : getI a i with
  | none => first | rfl | simp only [none_bnd, bnd_none2]
  | some x => simp only [get_set hx, List.set_set, bnd_assoc, some_bnd, mkAttr]
 ·rfl
theorem stAttr_ok (x : GAttr) (hs : x.sz ≤ 1200000) (k : Int) (h0 : 0 ≤ k) (h1 : k + (8 + 8 * (GAttr.sz x : Nat) : Nat) ≤ mB) : ∃ r, mkAttr x k = some r ∧ k ≤ r.1 ∧ r.1 ≤ k + (8 + 8 * (GAttr.sz x : Nat) : Nat) ∧ ∀ C, hdAttr r.2 k C = C r.1 := by
 have e0 : mB = 100000000000 := rfl
 have em : maxLen = 9223372036854775807 := rfl
 have hz := GAttr.sz_eq x
 obtain ⟨t0, u0⟩ := markText_ok (k) (by omega) (by omega)
 have w0 : addI (k) 1 = k + 1 := addI_eq (by omega) (by omega)
 obtain ⟨t1, u1⟩ := markText_ok (k + 1) (by omega) (by omega)
 have w1 : addI (k + 1) 1 = k + 1 + 1 := addI_eq (by omega) (by omega)
 obtain ⟨t2, u2⟩ := markText_ok (k + 1 + 1) (by omega) (by omega)
 have w2 : addI (k + 1 + 1) 1 = k + 1 + 1 + 1 := addI_eq (by omega) (by omega)
 obtain ⟨t3, u3⟩ := markText_ok (k + 1 + 1 + 1) (by omega) (by omega)
 have w3 : addI (k + 1 + 1 + 1) 1 = k + 1 + 1 + 1 + 1 := addI_eq (by omega) (by omega)
 refine ⟨(k + 1 + 1 + 1 + 1, GAttr.mk t0 t1 t2 t3), ?_, ?_, ?_, fun C => ?_⟩
 ·simp only [mkAttr, some_bnd, u0, w0, u1, w1, u2, w2, u3, w3]
 ·show k ≤ k + 1 + 1 + 1 + 1; omega
 ·show k + 1 + 1 + 1 + 1 ≤ _; omega
 ·simp only [hdAttr, some_bnd, neS_self, neI_self, neB_self, Bool.false_eq_true, if_false, u0, w0, u1, w1, u2, w2, u3, w3]
theorem holdAttrS_ok (a : List GAttr) (hl : a.length + szs GAttr.sz a ≤ 1200000) (k : Int) (h0 : 0 ≤ k) (h1 : k + (8 * a.length + 8 * szs GAttr.sz a : Nat) ≤ mB) : ∃ r, laws_markAttrS a k = some r ∧ k ≤ r.1 ∧ r.1 ≤ k + (8 * a.length + 8 * szs GAttr.sz a : Nat) ∧ r.2.length = a.length ∧ laws_heldAttrS r.2 k = some r.1 := by
 have em : maxLen = 9223372036854775807 := rfl
 obtain ⟨r, r1, r2, r3, r4, r5⟩ := held_loop laws_markAttrS_l6 mkAttr (fun x => 8 + 8 * GAttr.sz x) laws_heldAttrS_l6 hdAttr mkAttr_eq hdAttr_eq a (by omega) mB (fun y hy k h0 h1 => stAttr_ok y (by have := szs_mem GAttr.sz hy; omega) k h0 h1) k h0 (by rw [szs_c8]; exact h1)
 rw [szs_c8] at r3
 exact ⟨r, by rw [laws_markAttrS]; exact r1, r2, r3, r4, by rw [laws_heldAttrS]; exact r5⟩
def mkNode (x : GNode) (k : Int) : Option (Int × GNode) := laws_markText (addI k 1) >>= fun v1 => laws_markText (addI (addI k 1) 1) >>= fun v2 => laws_markText (addI (addI (addI k 1) 1) 1) >>= fun v3 => laws_markDeclS x.Decls (addI (addI (addI (addI k 1) 1) 1) 1) >>= fun v4 => laws_markAttrS x.Attrs v4.1 >>= fun v5 => laws_markNodeS x.Kids v5.1 >>= fun v6 => laws_markText v6.1 >>= fun v7 => some (addI v6.1 1, GNode.mk k v1 v2 v3 v4.2 v5.2 v6.2 v7)
def hdNode (x : GNode) (k : Int) (C : Int → Option Int) : Option Int := if neI x.Kind k then some (-1) else laws_markText (addI k 1) >>= fun v1 => if neS x.Pre v1 then some (-1) else laws_markText (addI (addI k 1) 1) >>= fun v2 => if neS x.Local v2 then some (-1) else laws_markText (addI (addI (addI k 1) 1) 1) >>= fun v3 => if neS x.Uri v3 then some (-1) else laws_heldDeclS x.Decls (addI (addI (addI (addI k 1) 1) 1) 1) >>= fun v4 => if ltI v4 0 then some (-1) else laws_heldAttrS x.Attrs v4 >>= fun v5 => if ltI v5 0 then some (-1) else laws_heldNodeS x.Kids v5 >>= fun v6 => if ltI v6 0 then some (-1) else laws_markText v6 >>= fun v7 => if neS x.Text v7 then some (-1) else C (addI v6 1)
theorem hdNode_eq (a : List GNode) (k i : Int) : laws_heldNodeS_l6 a k i = if ltI i (lenL a) then getI a i >>= fun x => hdNode x k (fun k => laws_heldNodeS_l6 a k (addI i 1)) else some k := by
 rw [laws_heldNodeS_l6]
 split
 ·cases hx : getI a i with
  | none => first | rfl | simp only [none_bnd, bnd_none2]
  | some x => simp only [some_bnd, hdNode]
 ·rfl
theorem mkNode_eq (a : List GNode) (k i : Int) : laws_markNodeS_l6 a k i = if ltI i (lenL a) then getI a i >>= fun x => mkNode x k >>= fun r => laws_markNodeS_l6 (a.set i.toNat r.2) r.1 (addI i 1) else some (k, a) := by
 rw [laws_markNodeS_l6]
 split
 ·cases hx : getI a i with
  | none => first | rfl | simp only [none_bnd, bnd_none2]
  | some x => simp only [get_set hx, List.set_set, bnd_assoc, some_bnd, mkNode]
 ·rfl
theorem stNode_ok : ∀ x : GNode, x.sz ≤ 1200000 → ∀ k : Int, 0 ≤ k → k + (8 + 8 * (GNode.sz x : Nat) : Nat) ≤ mB → ∃ r, mkNode x k = some r ∧ k ≤ r.1 ∧ r.1 ≤ k + (8 + 8 * (GNode.sz x : Nat) : Nat) ∧ ∀ C, hdNode r.2 k C = C r.1 := by
 refine GNode.ind' fun x ih hs k h0 h1 => ?_
 have e0 : mB = 100000000000 := rfl
 have em : maxLen = 9223372036854775807 := rfl
 have hz := GNode.sz_eq x
 have w0 : addI (k) 1 = k + 1 := addI_eq (by omega) (by omega)
 obtain ⟨t1, u1⟩ := markText_ok (k + 1) (by omega) (by omega)
 have w1 : addI (k + 1) 1 = k + 1 + 1 := addI_eq (by omega) (by omega)
 obtain ⟨t2, u2⟩ := markText_ok (k + 1 + 1) (by omega) (by omega)
 have w2 : addI (k + 1 + 1) 1 = k + 1 + 1 + 1 := addI_eq (by omega) (by omega)
 obtain ⟨t3, u3⟩ := markText_ok (k + 1 + 1 + 1) (by omega) (by omega)
 have w3 : addI (k + 1 + 1 + 1) 1 = k + 1 + 1 + 1 + 1 := addI_eq (by omega) (by omega)
 obtain ⟨q4, u4, x4, y4, n4, z4⟩ := holdDeclS_ok x.Decls (by omega) (k + 1 + 1 + 1 + 1) (by omega) (by omega)
 have g4 : ltI q4.1 0 = false := ltI_f (by omega)
 obtain ⟨q5, u5, x5, y5, n5, z5⟩ := holdAttrS_ok x.Attrs (by omega) (q4.1) (by omega) (by omega)
 have g5 : ltI q5.1 0 = false := ltI_f (by omega)
 obtain ⟨q6, u6, x6, y6, n6, z6⟩ := held_loop laws_markNodeS_l6 mkNode (fun x => 8 + 8 * GNode.sz x) laws_heldNodeS_l6 hdNode mkNode_eq hdNode_eq x.Kids (by omega) mB (fun y hy k h0 h1 => ih y hy (by have := szs_mem GNode.sz hy; omega) k h0 h1) (q5.1) (by omega) (by rw [szs_c8]; omega)
 rw [szs_c8] at y6
 have u6' : laws_markNodeS x.Kids (q5.1) = some q6 := by rw [laws_markNodeS]; exact u6
 have z6' : laws_heldNodeS q6.2 (q5.1) = some q6.1 := by rw [laws_heldNodeS]; exact z6
 have g6 : ltI q6.1 0 = false := ltI_f (by omega)
 obtain ⟨t7, u7⟩ := markText_ok (q6.1) (by omega) (by omega)
 have w7 : addI (q6.1) 1 = q6.1 + 1 := addI_eq (by omega) (by omega)
 refine ⟨(q6.1 + 1, GNode.mk (k) t1 t2 t3 q4.2 q5.2 q6.2 t7), ?_, ?_, ?_, fun C => ?_⟩
 ·simp only [mkNode, some_bnd, w0, u1, w1, u2, w2, u3, w3, u4, z4, g4, u5, z5, g5, u6', z6', g6, u7, w7]
 ·show k ≤ q6.1 + 1; omega
 ·show q6.1 + 1 ≤ _; omega
 ·simp only [hdNode, some_bnd, neS_self, neI_self, neB_self, Bool.false_eq_true, if_false, w0, u1, w1, u2, w2, u3, w3, u4, z4, g4, u5, z5, g5, u6', z6', g6, u7, w7]
theorem holdNodeS_ok (a : List GNode) (hl : a.length + szs GNode.sz a ≤ 1200000) (k : Int) (h0 : 0 ≤ k) (h1 : k + (8 * a.length + 8 * szs GNode.sz a : Nat) ≤ mB) : ∃ r, laws_markNodeS a k = some r ∧ k ≤ r.1 ∧ r.1 ≤ k + (8 * a.length + 8 * szs GNode.sz a : Nat) ∧ r.2.length = a.length ∧ laws_heldNodeS r.2 k = some r.1 := by
 have em : maxLen = 9223372036854775807 := rfl
 obtain ⟨r, r1, r2, r3, r4, r5⟩ := held_loop laws_markNodeS_l6 mkNode (fun x => 8 + 8 * GNode.sz x) laws_heldNodeS_l6 hdNode mkNode_eq hdNode_eq a (by omega) mB (fun y hy k h0 h1 => stNode_ok y (by have := szs_mem GNode.sz hy; omega) k h0 h1) k h0 (by rw [szs_c8]; exact h1)
 rw [szs_c8] at r3
 exact ⟨r, by rw [laws_markNodeS]; exact r1, r2, r3, r4, by rw [laws_heldNodeS]; exact r5⟩
theorem holdNode_ok (a : GNode) (hs : a.sz ≤ 1200000) (k : Int) (h0 : 0 ≤ k) (h1 : k ≤ 10000000000) : ∃ r, laws_markNode a k = some r ∧ k ≤ r.1 ∧ r.1 ≤ k + 10000000 ∧ r.2.1.length = a.Decls.length ∧ r.2.2.1.length = a.Attrs.length ∧ r.2.2.2.length = a.Kids.length ∧ laws_heldNode (GNode.mk a.Kind a.Pre a.Local a.Uri r.2.1 r.2.2.1 r.2.2.2 a.Text) k = some r.1 := by
 have e0 : mB = 100000000000 := rfl
 have hz := GNode.sz_eq a
 obtain ⟨q0, u0, x0, y0, n0, z0⟩ := holdDeclS_ok a.Decls (by omega) (k) (by omega) (by omega)
 have g0 : ltI q0.1 0 = false := ltI_f (by omega)
 have s0 : sameL q0.2 a.Decls = some () := if_pos n0
 obtain ⟨q1, u1, x1, y1, n1, z1⟩ := holdAttrS_ok a.Attrs (by omega) (q0.1) (by omega) (by omega)
 have g1 : ltI q1.1 0 = false := ltI_f (by omega)
 have s1 : sameL q1.2 a.Attrs = some () := if_pos n1
 obtain ⟨q2, u2, x2, y2, n2, z2⟩ := holdNodeS_ok a.Kids (by omega) (q1.1) (by omega) (by omega)
 have g2 : ltI q2.1 0 = false := ltI_f (by omega)
 have s2 : sameL q2.2 a.Kids = some () := if_pos n2
 refine ⟨(q2.1, q0.2, q1.2, q2.2), by simp only [laws_markNode, some_bnd, u0, g0, s0, z0, u1, g1, s1, z1, u2, g2, s2, z2], by show k ≤ q2.1; omega, by show q2.1 ≤ _; omega, n0, n1, n2, ?_⟩
 simp only [laws_heldNode, some_bnd, Bool.false_eq_true, if_false, u0, g0, s0, z0, u1, g1, s1, z1, u2, g2, s2, z2]
end TT
