import Derived.Test.YtabghncdppfllaaTP2NodeAt
set_option linter.unusedVariables false
set_option linter.unusedSimpArgs false
namespace TT
open Go
/-- What stands ahead, on the way down. -/
def declsOn : GNode → List Int → List GDecl
  | n, [] => n.Decls
  | n, i :: p => n.Decls ++ (match getI n.Kids i with
    | some k => declsOn k p
    | none => [])
theorem szs_app {α : Type} (sz : α → Nat) (a b : List α) : szs sz (a ++ b) = szs sz a + szs sz b := by simp [szs]
theorem declsOn_sz : ∀ (p : List Int) (n : GNode), (declsOn n p).length + szs GDecl.sz (declsOn n p) ≤ n.sz
  | [], n => by rw [declsOn, GNode.sz_eq n]; omega
  | i :: p, n => by
    rw [declsOn, GNode.sz_eq n]
    cases hg : getI n.Kids i with
    | none => simp only [List.append_nil]; omega
    | some k =>
      have h1 := declsOn_sz p k
      have h2 := szs_mem GNode.sz (getI_mem hg)
      simp only [List.length_append, szs_app]
      omega
theorem Holds_spec (path : List Int) (hl : path.length ≤ 1048576) : ∀ (rest pre : List Int) (n : GNode) (out : List GDecl), pre ++ rest = path → (∃ x, nodeAt n rest = some x) → out.length + (declsOn n rest).length ≤ 2000000 → spec_Holds_l20 path out pre.length n = some (out ++ declsOn n rest)
  | [], pre, n, out, hp, hx, hs => by
    simp only [declsOn] at hs
    have e1 : leI (pre.length : Int) (lenL path) = true := leI_t (by rw [← hp]; simp [lenL])
    have e2 : addI (pre.length : Int) 1 = pre.length + 1 := addI_eq (by omega) (by rw [← hp] at hl; simp at hl; omega)
    have e3 : leI ((pre.length : Int) + 1) (lenL path) = false := leI_f (by rw [← hp]; simp [lenL]; omega)
    rw [spec_Holds_l20, e1, end_at hp, spec_Inner, room_ok (by omega) (by omega) (by omega), room_ok (by omega) (by omega) (by omega), e2]
    simp only [if_true, some_bnd, List.nil_append, Bool.false_eq_true, if_false, declsOn]
    rw [spec_Holds_l20, e3]; rfl
  | i :: rest, pre, n, out, hp, hx, hs => by
    obtain ⟨x, hx⟩ := hx
    obtain ⟨k, h1, h2⟩ := Option.bind_eq_some_iff.1 hx
    simp only [declsOn, h1, List.length_append] at hs
    have e1 : leI (pre.length : Int) (lenL path) = true := leI_t (by rw [← hp]; simp only [lenL, List.length_append, List.length_cons]; omega)
    rw [spec_Holds_l20, e1, more_at hp, getI_at hp, next_at hp (by rw [maxLen_eq]; omega), spec_Inner, room_ok (by omega) (by omega) (by omega), room_ok (by omega) (by omega) (by omega)]
    have := Holds_spec path hl rest (pre ++ [i]) k (out ++ n.Decls) (step_at hp) ⟨x, h2⟩ (by simp only [List.length_append]; omega)
    simp only [if_true, some_bnd, List.nil_append, h1, this, declsOn, List.append_assoc]
theorem Holds_impl (path : List Int) (hl : path.length ≤ 1048576) : ∀ (rest pre : List Int) (n : GNode) (out : List GDecl), pre ++ rest = path → (∃ x, nodeAt n rest = some x) → out.length + (declsOn n rest).length ≤ 2000000 → impl_Holds_l18 (out ++ n.Decls) path pre.length n = some (out ++ declsOn n rest)
  | [], pre, n, out, hp, hx, hs => by rw [impl_Holds_l18, end_at hp]; rfl
  | i :: rest, pre, n, out, hp, hx, hs => by
    obtain ⟨x, hx⟩ := hx
    obtain ⟨k, h1, h2⟩ := Option.bind_eq_some_iff.1 hx
    simp only [declsOn, h1, List.length_append] at hs
    have hk : k.Decls.length ≤ (declsOn k rest).length := by cases rest <;> simp [declsOn]
    rw [impl_Holds_l18, more_at hp, getI_at hp, next_at hp (by rw [maxLen_eq]; omega)]
    have := Holds_impl path hl rest (pre ++ [i]) k (out ++ n.Decls) (step_at hp) ⟨x, h2⟩ (by simp only [List.length_append]; omega)
    simp only [List.append_assoc] at this
    simp only [if_true, some_bnd, h1, room_ok (show (out ++ n.Decls).length + k.Decls.length ≤ 4000000 by simp only [List.length_append]; omega) (show 0 < 32 by omega) (show 32 ≤ 1000 by omega), this, declsOn, List.append_assoc]
theorem same_Holds (n : GNode) (p : List Int) (hn : n.ok) (lp : p.length ≤ 1048576) (hs : n.sz ≤ 1048576) : ∃ r : List GDecl, spec_Holds n p = some r ∧ impl_Holds n p = some r ∧ r.length + szs GDecl.sz r ≤ 1048576 := by
  rw [spec_Holds, impl_Holds, nodeAt_spec n p hs lp, nodeAt_impl n p hs lp]
  cases h : nodeAt n p with
  | none => exact ⟨[], by simp only [nodeAtR, h, some_bnd]; rfl, by simp only [nodeAtR, h, some_bnd]; rfl, by simp [szs]⟩
  | some x =>
    have hz := declsOn_sz p n
    have hd : n.Decls.length ≤ n.sz := by rw [GNode.sz_eq n]; omega
    refine ⟨declsOn n p, ?_, ?_, by omega⟩
    · have := Holds_spec p lp p [] n [] rfl ⟨x, h⟩ (by simp; omega)
      simp only [nodeAtR, h, some_bnd, if_true]
      simpa using this
    · have := Holds_impl p lp p [] n [] rfl ⟨x, h⟩ (by simp; omega)
      simp only [nodeAtR, h, some_bnd, if_true, slices_Clone_Decl, room_ok (show n.Decls.length ≤ 4000000 by omega) (show 0 < 32 by omega) (show 32 ≤ 1000 by omega)]
      simpa using this
end TT
