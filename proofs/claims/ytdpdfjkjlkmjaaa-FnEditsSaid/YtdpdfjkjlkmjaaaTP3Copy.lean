import Derived.Test.YtdpdfjkjlkmjaaaTP0
import Derived.Test.YtdpdfjkjlkmjaaaTP1
set_option linter.unusedVariables false
set_option linter.unusedSimpArgs false
namespace TT
open Go
theorem copy_spec : ∀ n : GNode, n.sz ≤ 1048576 → spec_l5Copy n = some n := by
 refine GNode.ind' fun n ih hs => ?_
 rw [GNode.sz_eq] at hs
 have h := copy_loop (fun out i => spec_l5All_l8 n.Kids out i) n.Kids spec_l5Copy 144 (fun out i => by rw [spec_l5All_l8]) (by omega) (by omega) (by omega) (fun x hx => ih x hx (by have := szs_mem GNode.sz hx; omega))
 rw [spec_l5Copy, spec_l5All, h, room_ok (by omega) (by omega) (by omega), room_ok (by omega) (by omega) (by omega)]
 simp only [some_bnd, List.nil_append, eta_GNode]
end TT
namespace TT
open Go
theorem copy_impl : ∀ n : GNode, n.sz ≤ 1048576 → impl_cloneNode n = some n := by
 refine GNode.ind' fun n ih hs => ?_
 rw [GNode.sz_eq] at hs
 have h := copy_loop (fun out i => impl_cloneNodes_l8 out n.Kids i) n.Kids impl_cloneNode 144 (fun out i => by rw [impl_cloneNodes_l8]) (by omega) (by omega) (by omega) (fun x hx => ih x hx (by have := szs_mem GNode.sz hx; omega))
 rw [impl_cloneNode, slices_Clone_Decl, slices_Clone_Attr, impl_cloneNodes, h, room_ok (by omega) (by omega) (by omega), room_ok (by omega) (by omega) (by omega)]
 simp only [some_bnd, eta_GNode]
end TT
namespace TT
open Go
def nodeAt : GNode → List Int → Option GNode
 | n, [] => some n
 | n, i :: p => (getI n.Kids i).bind fun k => nodeAt k p
theorem getI_mem {α : Type} {l : List α} {i : Int} {x : α} (h : getI l i = some x) : x ∈ l := by
 unfold getI at h
 split at h
 ·exact List.mem_of_getElem? h
 ·cases h
theorem kid_sz {n k : GNode} {i : Int} (h : getI n.Kids i = some k) : k.sz ≤ n.sz := by
 rw [GNode.sz_eq n]
 have := szs_mem GNode.sz (getI_mem h)
 omega
theorem nodeAt_sz : ∀ (p : List Int) {n x : GNode}, nodeAt n p = some x → x.sz ≤ n.sz
 | [], n, x, h => by simp only [nodeAt, Option.some.injEq] at h; rw [h]; exact Nat.le_refl _
 | i :: p, n, x, h => by
  obtain ⟨k, h1, h2⟩ := Option.bind_eq_some_iff.1 h
  exact Nat.le_trans (nodeAt_sz p h2) (kid_sz h1)
theorem kids_len {n : GNode} : n.Kids.length ≤ n.sz := by
 rw [GNode.sz_eq n]; omega
theorem getI_some {α : Type} {l : List α} {i : Int} (h : l.length ≤ 4000000) : (if geI i 0 then some (leI i (subI (lenL l) 1)) else some false) = some (getI l i).isSome := by
 have e : subI (lenL l) 1 = (l.length : Int) - 1 := subI_eq (by simp only [lenL]; omega) (by simp only [lenL]; omega)
 rw [e]
 unfold getI
 by_cases h0 : 0 ≤ i
 ·rw [geI_t h0, if_pos rfl, if_pos h0]
  by_cases h1 : i ≤ (l.length : Int) - 1
  ·rw [leI_t h1]
   have : i.toNat < l.length := by omega
   simp [this]
  ·rw [leI_f h1]
   have : l[i.toNat]? = none := List.getElem?_eq_none (by omega)
   rw [this]; rfl
 ·rw [geI_f h0, if_neg h0]; rfl
theorem in_spec {α : Type} {l : List α} {i : Int} (h : l.length ≤ 4000000) : spec_l1In i 0 (subI (lenL l) 1) = some (getI l i).isSome := by
 rw [spec_l1In]; exact getI_some h
theorem in_impl {α : Type} {l : List α} {i : Int} (h : l.length ≤ 4000000) : impl_in i 0 (subI (lenL l) 1) = some (getI l i).isSome := by
 rw [impl_in]; exact getI_some h
def noNode : GNode := GNode.mk 0 (⟨#[]⟩) (⟨#[]⟩) (⟨#[]⟩) [] [] [] (⟨#[]⟩)
def nodeAtR (n : GNode) (p : List Int) : GNode × Bool := match nodeAt n p with
 | some x => (x, true)
 | none => (noNode, false)
theorem NodeAt_spec (path : List Int) (hl : path.length ≤ 2000000) : ∀ (rest pre : List Int) (n : GNode), pre ++ rest = path → n.sz ≤ 1048576 → spec_NodeAt_l8 path pre.length n = some (nodeAtR n rest)
 | [], pre, n, hp, hs => by rw [spec_NodeAt_l8, end_at hp, copy_spec n hs]; rfl
 | i :: rest, pre, n, hp, hs => by
  have hk := kids_len (n := n)
  rw [spec_NodeAt_l8, more_at hp, getI_at hp, next_at hp (by rw [maxLen_eq]; omega)]
  simp only [if_true, some_bnd, in_spec (show n.Kids.length ≤ 4000000 by omega)]
  cases hg : getI n.Kids i with
  | none => simp only [Option.isSome_none, Bool.false_eq_true, if_false, nodeAtR, nodeAt, hg, Option.bind_none, noNode]
  | some k =>
   have := NodeAt_spec path hl rest (pre ++ [i]) k (step_at hp) (Nat.le_trans (kid_sz hg) hs)
   simp only [Option.isSome_some, if_true, some_bnd, this, nodeAtR, nodeAt, hg, Option.bind_some]
theorem NodeAt_impl (path : List Int) (hl : path.length ≤ 2000000) : ∀ (rest pre : List Int) (n : GNode), pre ++ rest = path → n.sz ≤ 1048576 → impl_NodeAt_l6 path pre.length n = some (nodeAtR n rest)
 | [], pre, n, hp, hs => by rw [impl_NodeAt_l6, end_at hp, copy_impl n hs]; rfl
 | i :: rest, pre, n, hp, hs => by
  have hk := kids_len (n := n)
  rw [impl_NodeAt_l6, more_at hp, getI_at hp, next_at hp (by rw [maxLen_eq]; omega)]
  simp only [if_true, some_bnd, in_impl (show n.Kids.length ≤ 4000000 by omega)]
  cases hg : getI n.Kids i with
  | none => simp only [Option.isSome_none, Bool.false_eq_true, if_false, nodeAtR, nodeAt, hg, Option.bind_none, noNode]
  | some k =>
   have := NodeAt_impl path hl rest (pre ++ [i]) k (step_at hp) (Nat.le_trans (kid_sz hg) hs)
   simp only [Option.isSome_some, if_true, some_bnd, this, nodeAtR, nodeAt, hg, Option.bind_some]
theorem nodeAt_spec (n : GNode) (path : List Int) (hs : n.sz ≤ 1048576) (hl : path.length ≤ 2000000) : spec_NodeAt n path = some (nodeAtR n path) := by
 rw [spec_NodeAt]; exact NodeAt_spec path hl path [] n rfl hs
theorem nodeAt_impl (n : GNode) (path : List Int) (hs : n.sz ≤ 1048576) (hl : path.length ≤ 2000000) : impl_NodeAt n path = some (nodeAtR n path) := by
 rw [impl_NodeAt]; exact NodeAt_impl path hl path [] n rfl hs
end TT
