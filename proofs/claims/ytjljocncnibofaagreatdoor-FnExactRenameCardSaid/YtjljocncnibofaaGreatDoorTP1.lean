import Derived.Test.YtjljocncnibofaaGreatDoorTP0
import Derived.Test.YtjljocncnibofaaGreatDoorTDefs
set_option linter.unusedVariables false
set_option linter.unusedSimpArgs false
namespace TT
open Go
def GDecl.sz (x : GDecl) : Nat := x.Pre.size + (x.Uri.size)
theorem GDecl.sz_eq (x : GDecl) : x.sz = x.Pre.size + (x.Uri.size) := rfl
def GDecl.ok (x : GDecl) : Prop := x.Pre.size ≤ maxLen ∧ x.Uri.size ≤ maxLen
theorem GDecl.ok_iff (x : GDecl) : x.ok ↔ x.Pre.size ≤ maxLen ∧ x.Uri.size ≤ maxLen := Iff.rfl
theorem sz_GDecl (a : GDecl) (ha : a.ok) (l : Int) (h0 : 0 ≤ l) (h1 : l ≤ 1048576) : laws_szDecl a l = some (szr l a.sz) := by
 obtain ⟨H0, H1⟩ := (GDecl.ok_iff a).1 ha
 rw [laws_szDecl, GDecl.sz_eq]
 exact szK a.Pre.size (fun l => if ltI (subI l (lenS a.Uri)) 0 then some (-1) else some (subI l (lenS a.Uri))) (a.Uri.size) h0 h1 H0 (fun l h0 h1 => by
  exact szE a.Uri.size h0 h1 H1)
theorem sz_GDeclS (a : List GDecl) (hl : a.length ≤ maxLen) (ha : ∀ y ∈ a, GDecl.ok y) (l : Int) (h0 : 0 ≤ l) (h1 : l ≤ 1048576) : laws_szDeclS a l = some (szr l (a.length + szs GDecl.sz a)) :=
 sz_list laws_szDeclS laws_szDeclS_l16 laws_szDecl GDecl.sz (fun a l => by rw [laws_szDeclS]) (fun a l i => by rw [laws_szDeclS_l16]) a hl (fun x hx => sz_GDecl x (ha x hx)) h0 h1
theorem to_GDecl (a : GDecl) (hs : a.sz ≤ 1048576) : laws_toDecl a = some a := by
 rw [GDecl.sz_eq] at hs
 simp [laws_toDecl, eta_GDecl]
theorem eq_GDecl (a : GDecl) (hs : a.sz ≤ 1200000) : laws_eqDecl a a = some true := by
 rw [GDecl.sz_eq] at hs
 simp [laws_eqDecl, neS_self, neI_self, neB_self]
theorem to_GDeclS (a : List GDecl) (hl : a.length ≤ 1048576) (ha : ∀ y ∈ a, GDecl.sz y ≤ 1048576) : laws_toDeclS a = some a := by
 have := to_list laws_toDeclS laws_toDeclS_l8 laws_toDecl id _ 32 (fun a => by rw [laws_toDeclS]) (fun a out i => by rw [laws_toDeclS_l8]) (by decide) (by decide) a hl (fun x hx => to_GDecl x (ha x hx))
 simpa using this
theorem eq_GDeclS (a : List GDecl) (hl : a.length ≤ 1200000) (ha : ∀ y ∈ a, GDecl.sz y ≤ 1200000) : laws_eqDeclS a a = some true :=
 eq_list laws_eqDeclS laws_eqDeclS_l14 laws_eqDecl (fun a b => by rw [laws_eqDeclS]) (fun a b i => by rw [laws_eqDeclS_l14]) a (Nat.le_trans hl (by decide)) (fun x hx => eq_GDecl x (ha x hx))
def GAttr.sz (x : GAttr) : Nat := x.Pre.size + (x.Local.size + (x.Uri.size + (x.Val.size)))
theorem GAttr.sz_eq (x : GAttr) : x.sz = x.Pre.size + (x.Local.size + (x.Uri.size + (x.Val.size))) := rfl
def GAttr.ok (x : GAttr) : Prop := x.Pre.size ≤ maxLen ∧ x.Local.size ≤ maxLen ∧ x.Uri.size ≤ maxLen ∧ x.Val.size ≤ maxLen
theorem GAttr.ok_iff (x : GAttr) : x.ok ↔ x.Pre.size ≤ maxLen ∧ x.Local.size ≤ maxLen ∧ x.Uri.size ≤ maxLen ∧ x.Val.size ≤ maxLen := Iff.rfl
theorem sz_GAttr (a : GAttr) (ha : a.ok) (l : Int) (h0 : 0 ≤ l) (h1 : l ≤ 1048576) : laws_szAttr a l = some (szr l a.sz) := by
 obtain ⟨H0, H1, H2, H3⟩ := (GAttr.ok_iff a).1 ha
 rw [laws_szAttr, GAttr.sz_eq]
 exact szK a.Pre.size (fun l => if ltI (subI l (lenS a.Local)) 0 then some (-1) else if ltI (subI (subI l (lenS a.Local)) (lenS a.Uri)) 0 then some (-1) else if ltI (subI (subI (subI l (lenS a.Local)) (lenS a.Uri)) (lenS a.Val)) 0 then some (-1) else some (subI (subI (subI l (lenS a.Local)) (lenS a.Uri)) (lenS a.Val))) (a.Local.size + (a.Uri.size + (a.Val.size))) h0 h1 H0 (fun l h0 h1 => by
  exact szK a.Local.size (fun l => if ltI (subI l (lenS a.Uri)) 0 then some (-1) else if ltI (subI (subI l (lenS a.Uri)) (lenS a.Val)) 0 then some (-1) else some (subI (subI l (lenS a.Uri)) (lenS a.Val))) (a.Uri.size + (a.Val.size)) h0 h1 H1 (fun l h0 h1 => by
   exact szK a.Uri.size (fun l => if ltI (subI l (lenS a.Val)) 0 then some (-1) else some (subI l (lenS a.Val))) (a.Val.size) h0 h1 H2 (fun l h0 h1 => by
    exact szE a.Val.size h0 h1 H3)))
theorem sz_GAttrS (a : List GAttr) (hl : a.length ≤ maxLen) (ha : ∀ y ∈ a, GAttr.ok y) (l : Int) (h0 : 0 ≤ l) (h1 : l ≤ 1048576) : laws_szAttrS a l = some (szr l (a.length + szs GAttr.sz a)) :=
 sz_list laws_szAttrS laws_szAttrS_l16 laws_szAttr GAttr.sz (fun a l => by rw [laws_szAttrS]) (fun a l i => by rw [laws_szAttrS_l16]) a hl (fun x hx => sz_GAttr x (ha x hx)) h0 h1
theorem to_GAttr (a : GAttr) (hs : a.sz ≤ 1048576) : laws_toAttr a = some a := by
 rw [GAttr.sz_eq] at hs
 simp [laws_toAttr, eta_GAttr]
theorem eq_GAttr (a : GAttr) (hs : a.sz ≤ 1200000) : laws_eqAttr a a = some true := by
 rw [GAttr.sz_eq] at hs
 simp [laws_eqAttr, neS_self, neI_self, neB_self]
theorem to_GAttrS (a : List GAttr) (hl : a.length ≤ 1048576) (ha : ∀ y ∈ a, GAttr.sz y ≤ 1048576) : laws_toAttrS a = some a := by
 have := to_list laws_toAttrS laws_toAttrS_l8 laws_toAttr id _ 64 (fun a => by rw [laws_toAttrS]) (fun a out i => by rw [laws_toAttrS_l8]) (by decide) (by decide) a hl (fun x hx => to_GAttr x (ha x hx))
 simpa using this
theorem eq_GAttrS (a : List GAttr) (hl : a.length ≤ 1200000) (ha : ∀ y ∈ a, GAttr.sz y ≤ 1200000) : laws_eqAttrS a a = some true :=
 eq_list laws_eqAttrS laws_eqAttrS_l14 laws_eqAttr (fun a b => by rw [laws_eqAttrS]) (fun a b i => by rw [laws_eqAttrS_l14]) a (Nat.le_trans hl (by decide)) (fun x hx => eq_GAttr x (ha x hx))
mutual
def GNode.sz : GNode → Nat
 | ⟨kind', pre', local', uri', decls', attrs', kids', text'⟩ => pre'.size + (local'.size + (uri'.size + ((decls'.length + szs GDecl.sz decls') + ((attrs'.length + szs GAttr.sz attrs') + ((kids'.length + GNode.szL kids') + (text'.size))))))
def GNode.szL : List GNode → Nat
 | [] => 0
 | x :: l => GNode.sz x + GNode.szL l
end
theorem GNode.szL_eq (l : List GNode) : GNode.szL l = szs GNode.sz l := by
 induction l with
 | nil => rfl
 | cons x l ih => rw [GNode.szL, szs_cons, ih]
theorem GNode.sz_eq (x : GNode) : x.sz = x.Pre.size + (x.Local.size + (x.Uri.size + ((x.Decls.length + szs GDecl.sz x.Decls) + ((x.Attrs.length + szs GAttr.sz x.Attrs) + ((x.Kids.length + szs GNode.sz x.Kids) + (x.Text.size)))))) := by cases x; rw [GNode.sz, GNode.szL_eq]
mutual
def GNode.ok : GNode → Prop
 | ⟨kind', pre', local', uri', decls', attrs', kids', text'⟩ => (-9223372036854775808 ≤ kind' ∧ kind' < 9223372036854775808) ∧ pre'.size ≤ maxLen ∧ local'.size ≤ maxLen ∧ uri'.size ≤ maxLen ∧ (decls'.length ≤ maxLen ∧ ∀ y ∈ decls', GDecl.ok y) ∧ (attrs'.length ≤ maxLen ∧ ∀ y ∈ attrs', GAttr.ok y) ∧ (kids'.length ≤ maxLen ∧ GNode.okL kids') ∧ text'.size ≤ maxLen
def GNode.okL : List GNode → Prop
 | [] => True
 | x :: l => GNode.ok x ∧ GNode.okL l
end
theorem GNode.okL_iff (l : List GNode) : GNode.okL l ↔ ∀ y ∈ l, GNode.ok y := by
 induction l with
 | nil => simp [GNode.okL]
 | cons x l ih => simp [GNode.okL, ih]
theorem GNode.ok_iff (x : GNode) : x.ok ↔ (-9223372036854775808 ≤ x.Kind ∧ x.Kind < 9223372036854775808) ∧ x.Pre.size ≤ maxLen ∧ x.Local.size ≤ maxLen ∧ x.Uri.size ≤ maxLen ∧ (x.Decls.length ≤ maxLen ∧ ∀ y ∈ x.Decls, GDecl.ok y) ∧ (x.Attrs.length ≤ maxLen ∧ ∀ y ∈ x.Attrs, GAttr.ok y) ∧ (x.Kids.length ≤ maxLen ∧ ∀ y ∈ x.Kids, GNode.ok y) ∧ x.Text.size ≤ maxLen := by cases x; rw [GNode.ok, GNode.okL_iff]
mutual
theorem GNode.ind' {p : GNode → Prop} (h : ∀ x, (∀ k ∈ x.Kids, p k) → p x) : ∀ x, p x
 | ⟨kind', pre', local', uri', decls', attrs', kids', text'⟩ => h _ (GNode.indL' h kids')
theorem GNode.indL' {p : GNode → Prop} (h : ∀ x, (∀ k ∈ x.Kids, p k) → p x) : ∀ l : List GNode, ∀ k ∈ l, p k
 | [], k, hk => by cases hk
 | y :: l, k, hk => by
  rcases List.mem_cons.1 hk with e | e
  ·rw [e]; exact GNode.ind' h y
  ·exact GNode.indL' h l k e
end
theorem sz_GNode : ∀ (a : GNode), a.ok → ∀ (l : Int), 0 ≤ l → l ≤ 1048576 → laws_szNode a l = some (szr l a.sz) := by
 refine GNode.ind' fun a ih => ?_
 intro ha l h0 h1
 obtain ⟨H0, H1, H2, H3, H4, H5, H6, H7⟩ := (GNode.ok_iff a).1 ha
 have HS : ∀ l, 0 ≤ l → l ≤ 1048576 → laws_szNodeS a.Kids l = some (szr l (a.Kids.length + szs GNode.sz a.Kids)) := fun l h0 h1 => sz_list laws_szNodeS laws_szNodeS_l16 laws_szNode GNode.sz (fun a l => by rw [laws_szNodeS]) (fun a l i => by rw [laws_szNodeS_l16]) a.Kids H6.1 (fun x hx => ih x hx (H6.2 x hx)) h0 h1
 rw [laws_szNode, GNode.sz_eq]
 exact szK a.Pre.size (fun l => if ltI (subI l (lenS a.Local)) 0 then some (-1) else if ltI (subI (subI l (lenS a.Local)) (lenS a.Uri)) 0 then some (-1) else laws_szDeclS a.Decls (subI (subI l (lenS a.Local)) (lenS a.Uri)) >>= fun r3 => if ltI r3 0 then some (-1) else laws_szAttrS a.Attrs r3 >>= fun r4 => if ltI r4 0 then some (-1) else laws_szNodeS a.Kids r4 >>= fun r5 => if ltI r5 0 then some (-1) else if ltI (subI r5 (lenS a.Text)) 0 then some (-1) else some (subI r5 (lenS a.Text))) (a.Local.size + (a.Uri.size + ((a.Decls.length + szs GDecl.sz a.Decls) + ((a.Attrs.length + szs GAttr.sz a.Attrs) + ((a.Kids.length + szs GNode.sz a.Kids) + (a.Text.size)))))) h0 h1 H1 (fun l h0 h1 => by
  exact szK a.Local.size (fun l => if ltI (subI l (lenS a.Uri)) 0 then some (-1) else laws_szDeclS a.Decls (subI l (lenS a.Uri)) >>= fun r3 => if ltI r3 0 then some (-1) else laws_szAttrS a.Attrs r3 >>= fun r4 => if ltI r4 0 then some (-1) else laws_szNodeS a.Kids r4 >>= fun r5 => if ltI r5 0 then some (-1) else if ltI (subI r5 (lenS a.Text)) 0 then some (-1) else some (subI r5 (lenS a.Text))) (a.Uri.size + ((a.Decls.length + szs GDecl.sz a.Decls) + ((a.Attrs.length + szs GAttr.sz a.Attrs) + ((a.Kids.length + szs GNode.sz a.Kids) + (a.Text.size))))) h0 h1 H2 (fun l h0 h1 => by
   exact szK a.Uri.size (fun l => laws_szDeclS a.Decls l >>= fun r3 => if ltI r3 0 then some (-1) else laws_szAttrS a.Attrs r3 >>= fun r4 => if ltI r4 0 then some (-1) else laws_szNodeS a.Kids r4 >>= fun r5 => if ltI r5 0 then some (-1) else if ltI (subI r5 (lenS a.Text)) 0 then some (-1) else some (subI r5 (lenS a.Text))) ((a.Decls.length + szs GDecl.sz a.Decls) + ((a.Attrs.length + szs GAttr.sz a.Attrs) + ((a.Kids.length + szs GNode.sz a.Kids) + (a.Text.size)))) h0 h1 H3 (fun l h0 h1 => by
    exact szB (fun l => laws_szDeclS a.Decls l) ((a.Decls.length + szs GDecl.sz a.Decls)) (fun l => laws_szAttrS a.Attrs l >>= fun r4 => if ltI r4 0 then some (-1) else laws_szNodeS a.Kids r4 >>= fun r5 => if ltI r5 0 then some (-1) else if ltI (subI r5 (lenS a.Text)) 0 then some (-1) else some (subI r5 (lenS a.Text))) ((a.Attrs.length + szs GAttr.sz a.Attrs) + ((a.Kids.length + szs GNode.sz a.Kids) + (a.Text.size))) h0 h1 (sz_GDeclS a.Decls H4.1 H4.2 l h0 h1) (fun l h0 h1 => by
     exact szB (fun l => laws_szAttrS a.Attrs l) ((a.Attrs.length + szs GAttr.sz a.Attrs)) (fun l => laws_szNodeS a.Kids l >>= fun r5 => if ltI r5 0 then some (-1) else if ltI (subI r5 (lenS a.Text)) 0 then some (-1) else some (subI r5 (lenS a.Text))) ((a.Kids.length + szs GNode.sz a.Kids) + (a.Text.size)) h0 h1 (sz_GAttrS a.Attrs H5.1 H5.2 l h0 h1) (fun l h0 h1 => by
      exact szB (fun l => laws_szNodeS a.Kids l) ((a.Kids.length + szs GNode.sz a.Kids)) (fun l => if ltI (subI l (lenS a.Text)) 0 then some (-1) else some (subI l (lenS a.Text))) (a.Text.size) h0 h1 (HS l h0 h1) (fun l h0 h1 => by
       exact szE a.Text.size h0 h1 H7))))))
theorem to_GNode : ∀ (a : GNode), a.sz ≤ 1048576 → laws_toNode a = some a := by
 refine GNode.ind' fun a ih => ?_
 intro hs
 rw [GNode.sz_eq] at hs
 have L3 := to_GDeclS a.Decls (by omega) (fun x hx => by have := szs_mem GDecl.sz hx; omega)
 have L4 := to_GAttrS a.Attrs (by omega) (fun x hx => by have := szs_mem GAttr.sz hx; omega)
 have L5 : laws_toNodeS a.Kids = some a.Kids := by
  have := to_list laws_toNodeS laws_toNodeS_l8 laws_toNode id _ 144 (fun a => by rw [laws_toNodeS]) (fun a out i => by rw [laws_toNodeS_l8]) (by decide) (by decide) a.Kids (by omega) (fun x hx => ih x hx (by have := szs_mem GNode.sz hx; omega))
  simpa using this
 rw [laws_toNode]
 simp [L3, L4, L5, eta_GNode]
theorem eq_GNode : ∀ (a : GNode), a.sz ≤ 1200000 → laws_eqNode a a = some true := by
 refine GNode.ind' fun a ih => ?_
 intro hs
 rw [GNode.sz_eq] at hs
 have L3 := eq_GDeclS a.Decls (by omega) (fun x hx => by have := szs_mem GDecl.sz hx; omega)
 have L4 := eq_GAttrS a.Attrs (by omega) (fun x hx => by have := szs_mem GAttr.sz hx; omega)
 have L5 : laws_eqNodeS a.Kids a.Kids = some true := eq_list laws_eqNodeS laws_eqNodeS_l14 laws_eqNode (fun a b => by rw [laws_eqNodeS]) (fun a b i => by rw [laws_eqNodeS_l14]) a.Kids (Nat.le_trans (m := 1200000) (by omega) (by decide)) (fun x hx => ih x hx (by have := szs_mem GNode.sz hx; omega))
 rw [laws_eqNode]
 simp [L3, L4, L5, neS_self, neI_self, neB_self]
end TT
