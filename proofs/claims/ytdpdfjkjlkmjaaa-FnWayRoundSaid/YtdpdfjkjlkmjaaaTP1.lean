import Derived.Test.YtdpdfjkjlkmjaaaTP0
import Derived.Test.YtdpdfjkjlkmjaaaTDefs
set_option linter.unusedVariables false
set_option linter.unusedSimpArgs false
namespace TT
open Go
def GDecl.sz (x : GDecl) : Nat := x.Pre.size + (x.Uri.size)
theorem GDecl.sz_eq (x : GDecl) : x.sz = x.Pre.size + (x.Uri.size) := rfl
def GDecl.ok (x : GDecl) : Prop := x.Pre.size ≤ maxLen ∧ x.Uri.size ≤ maxLen
def GAttr.sz (x : GAttr) : Nat := x.Pre.size + (x.Local.size + (x.Uri.size + (x.Val.size)))
theorem GAttr.sz_eq (x : GAttr) : x.sz = x.Pre.size + (x.Local.size + (x.Uri.size + (x.Val.size))) := rfl
def GAttr.ok (x : GAttr) : Prop := x.Pre.size ≤ maxLen ∧ x.Local.size ≤ maxLen ∧ x.Uri.size ≤ maxLen ∧ x.Val.size ≤ maxLen
mutual
def GNode.sz : GNode → Nat
 | ⟨kind', pre', local', uri', decls', attrs', kids', text'⟩ => pre'.size + (local'.size + (uri'.size + ((decls'.length + szs GDecl.sz decls') + ((attrs'.length + szs GAttr.sz attrs') + ((kids'.length + GNode.szL kids') + (text'.size))))))
def GNode.szL : List GNode → Nat
 | [] => 0
 | x :: l => GNode.sz x + GNode.szL l
end
theorem GNode.szL_eq (l : List GNode) : GNode.szL l = szs GNode.sz l := by
 induction l with
 | nil => rfl
 | cons x l ih => rw [GNode.szL, szs_cons, ih]
theorem GNode.sz_eq (x : GNode) : x.sz = x.Pre.size + (x.Local.size + (x.Uri.size + ((x.Decls.length + szs GDecl.sz x.Decls) + ((x.Attrs.length + szs GAttr.sz x.Attrs) + ((x.Kids.length + szs GNode.sz x.Kids) + (x.Text.size)))))) := by cases x; rw [GNode.sz, GNode.szL_eq]
mutual
def GNode.ok : GNode → Prop
 | ⟨kind', pre', local', uri', decls', attrs', kids', text'⟩ => (-9223372036854775808 ≤ kind' ∧ kind' < 9223372036854775808) ∧ pre'.size ≤ maxLen ∧ local'.size ≤ maxLen ∧ uri'.size ≤ maxLen ∧ (decls'.length ≤ maxLen ∧ ∀ y ∈ decls', GDecl.ok y) ∧ (attrs'.length ≤ maxLen ∧ ∀ y ∈ attrs', GAttr.ok y) ∧ (kids'.length ≤ maxLen ∧ GNode.okL kids') ∧ text'.size ≤ maxLen
def GNode.okL : List GNode → Prop
 | [] => True
 | x :: l => GNode.ok x ∧ GNode.okL l
end
mutual
theorem GNode.ind' {p : GNode → Prop} (h : ∀ x, (∀ k ∈ x.Kids, p k) → p x) : ∀ x, p x
 | ⟨kind', pre', local', uri', decls', attrs', kids', text'⟩ => h _ (GNode.indL' h kids')
theorem GNode.indL' {p : GNode → Prop} (h : ∀ x, (∀ k ∈ x.Kids, p k) → p x) : ∀ l : List GNode, ∀ k ∈ l, p k
 | [], k, hk => by cases hk
 | y :: l, k, hk => by
  rcases List.mem_cons.1 hk with e | e
  ·rw [e]; exact GNode.ind' h y
  ·exact GNode.indL' h l k e
end
end TT
