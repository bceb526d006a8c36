import Derived.Test.YtklpgdogfofneaaDoorTP0
import Derived.Test.YtklpgdogfofneaaDoorTP1
set_option linter.unusedVariables false
set_option linter.unusedSimpArgs false
namespace TT
open Go
theorem copy_spec : ∀ n : GNode, n.sz ≤ 1048576 → spec_l5Copy n = some n := by
  refine GNode.ind' fun n ih hs => ?_
  rw [GNode.sz_eq] at hs
  have h := copy_loop (fun out i => spec_l5All_l8 n.Kids out i) n.Kids spec_l5Copy 144 (fun out i => by rw [spec_l5All_l8]) (by omega) (by omega) (by omega) (fun x hx => ih x hx (by have := szs_mem GNode.sz hx; omega))
  rw [spec_l5Copy, spec_l5All, h, room_ok (by omega) (by omega) (by omega), room_ok (by omega) (by omega) (by omega)]
  simp only [some_bnd, List.nil_append, eta_GNode]
theorem copy_impl : ∀ n : GNode, n.sz ≤ 1048576 → impl_cloneNode n = some n := by
  refine GNode.ind' fun n ih hs => ?_
  rw [GNode.sz_eq] at hs
  have h := copy_loop (fun out i => impl_cloneNodes_l8 out n.Kids i) n.Kids impl_cloneNode 144 (fun out i => by rw [impl_cloneNodes_l8]) (by omega) (by omega) (by omega) (fun x hx => ih x hx (by have := szs_mem GNode.sz hx; omega))
  rw [impl_cloneNode, slices_Clone_Decl, slices_Clone_Attr, impl_cloneNodes, h, room_ok (by omega) (by omega) (by omega), room_ok (by omega) (by omega) (by omega)]
  simp only [some_bnd, eta_GNode]
end TT
set_option linter.unusedVariables false
set_option linter.unusedSimpArgs false
namespace TT
open Go
/-- Where a path leads. -/
def nodeAt : GNode → List Int → Option GNode
  | n, [] => some n
  | n, i :: p => (getI n.Kids i).bind fun k => nodeAt k p
theorem getI_mem {α : Type} {l : List α} {i : Int} {x : α} (h : getI l i = some x) : x ∈ l := by
  unfold getI at h
  split at h
  · exact List.mem_of_getElem? h
  · cases h
theorem kid_sz {n k : GNode} {i : Int} (h : getI n.Kids i = some k) : k.sz ≤ n.sz := by
  rw [GNode.sz_eq n]
  have := szs_mem GNode.sz (getI_mem h)
  omega
theorem nodeAt_sz : ∀ (p : List Int) {n x : GNode}, nodeAt n p = some x → x.sz ≤ n.sz
  | [], n, x, h => by simp only [nodeAt, Option.some.injEq] at h; rw [h]; exact Nat.le_refl _
  | i :: p, n, x, h => by
    obtain ⟨k, h1, h2⟩ := Option.bind_eq_some_iff.1 h
    exact Nat.le_trans (nodeAt_sz p h2) (kid_sz h1)
theorem kids_len {n : GNode} : n.Kids.length ≤ n.sz := by
  rw [GNode.sz_eq n]; omega
theorem getI_some {α : Type} {l : List α} {i : Int} (h : l.length ≤ 4000000) : (if geI i 0 then some (leI i (subI (lenL l) 1)) else some false) = some (getI l i).isSome := by
  have e : subI (lenL l) 1 = (l.length : Int) - 1 := subI_eq (by simp only [lenL]; omega) (by simp only [lenL]; omega)
  rw [e]
  unfold getI
  by_cases h0 : 0 ≤ i
  · rw [geI_t h0, if_pos rfl, if_pos h0]
    by_cases h1 : i ≤ (l.length : Int) - 1
    · rw [leI_t h1]
      have : i.toNat < l.length := by omega
      simp [this]
    · rw [leI_f h1]
      have : l[i.toNat]? = none := List.getElem?_eq_none (by omega)
      rw [this]; rfl
  · rw [geI_f h0, if_neg h0]; rfl
theorem in_spec {α : Type} {l : List α} {i : Int} (h : l.length ≤ 4000000) : spec_l1In i 0 (subI (lenL l) 1) = some (getI l i).isSome := by
  rw [spec_l1In]; exact getI_some h
theorem in_impl {α : Type} {l : List α} {i : Int} (h : l.length ≤ 4000000) : impl_in i 0 (subI (lenL l) 1) = some (getI l i).isSome := by
  rw [impl_in]; exact getI_some h
def noNode : GNode := GNode.mk 0 (⟨#[]⟩) (⟨#[]⟩) (⟨#[]⟩) [] [] [] (⟨#[]⟩)
def nodeAtR (n : GNode) (p : List Int) : GNode × Bool := match nodeAt n p with
  | some x => (x, true)
  | none => (noNode, false)
theorem NodeAt_spec (path : List Int) (hl : path.length ≤ 1048576) : ∀ (rest pre : List Int) (n : GNode), pre ++ rest = path → n.sz ≤ 1048576 → spec_NodeAt_l8 path pre.length n = some (nodeAtR n rest)
  | [], pre, n, hp, hs => by rw [spec_NodeAt_l8, end_at hp, copy_spec n hs]; rfl
  | i :: rest, pre, n, hp, hs => by
    have hk := kids_len (n := n)
    rw [spec_NodeAt_l8, more_at hp, getI_at hp, next_at hp (by rw [maxLen_eq]; omega)]
    simp only [if_true, some_bnd, in_spec (show n.Kids.length ≤ 4000000 by omega)]
    cases hg : getI n.Kids i with
    | none => simp only [Option.isSome_none, Bool.false_eq_true, if_false, nodeAtR, nodeAt, hg, Option.bind_none, noNode]
    | some k =>
      have := NodeAt_spec path hl rest (pre ++ [i]) k (step_at hp) (Nat.le_trans (kid_sz hg) hs)
      simp only [Option.isSome_some, if_true, some_bnd, this, nodeAtR, nodeAt, hg, Option.bind_some]
theorem NodeAt_impl (path : List Int) (hl : path.length ≤ 1048576) : ∀ (rest pre : List Int) (n : GNode), pre ++ rest = path → n.sz ≤ 1048576 → impl_NodeAt_l6 path pre.length n = some (nodeAtR n rest)
  | [], pre, n, hp, hs => by rw [impl_NodeAt_l6, end_at hp, copy_impl n hs]; rfl
  | i :: rest, pre, n, hp, hs => by
    have hk := kids_len (n := n)
    rw [impl_NodeAt_l6, more_at hp, getI_at hp, next_at hp (by rw [maxLen_eq]; omega)]
    simp only [if_true, some_bnd, in_impl (show n.Kids.length ≤ 4000000 by omega)]
    cases hg : getI n.Kids i with
    | none => simp only [Option.isSome_none, Bool.false_eq_true, if_false, nodeAtR, nodeAt, hg, Option.bind_none, noNode]
    | some k =>
      have := NodeAt_impl path hl rest (pre ++ [i]) k (step_at hp) (Nat.le_trans (kid_sz hg) hs)
      simp only [Option.isSome_some, if_true, some_bnd, this, nodeAtR, nodeAt, hg, Option.bind_some]
theorem nodeAt_spec (n : GNode) (path : List Int) (hs : n.sz ≤ 1048576) (hl : path.length ≤ 1048576) : spec_NodeAt n path = some (nodeAtR n path) := by
  rw [spec_NodeAt]; exact NodeAt_spec path hl path [] n rfl hs
theorem nodeAt_impl (n : GNode) (path : List Int) (hs : n.sz ≤ 1048576) (hl : path.length ≤ 1048576) : impl_NodeAt n path = some (nodeAtR n path) := by
  rw [impl_NodeAt]; exact NodeAt_impl path hl path [] n rfl hs
end TT
set_option linter.unusedVariables false
set_option linter.unusedSimpArgs false
namespace TT
open Go
/-- How many are of a kind. -/
def ofK (kind : Int) : List GNode → Nat
  | [] => 0
  | x :: l => (if eqI x.Kind kind then 1 else 0) + ofK kind l
theorem ofK_le (kind : Int) : ∀ l : List GNode, ofK kind l ≤ l.length
  | [] => Nat.le_refl _
  | x :: l => by
    have := ofK_le kind l
    simp only [ofK, List.length_cons]
    split <;> omega
def skK (kind : Int) : Int := if eqI kind 2 then 3 else if eqI kind 3 then 4 else if eqI kind 4 then 5 else 2
def stK (kind nth : Int) : GStp := GStp.mk false (skK kind) (⟨#[]⟩) (⟨#[]⟩) [GPred.mk 1 nth (⟨#[]⟩) (⟨#[]⟩) (⟨#[]⟩)]
theorem stepKind_ok (kind : Int) : impl_stepKind kind = some (skK kind) := by
  rw [impl_stepKind, skK]
  split
  · rfl
  · split
    · rfl
    · split <;> rfl
theorem ofKind_loop (kind : Int) (l : List GNode) (hl : l.length ≤ 1048576) : ∀ (rest pre : List GNode) (n : Int), pre ++ rest = l → 0 ≤ n → n ≤ pre.length → impl_ofKind_l8 kind n l pre.length = some (n + ofK kind rest)
  | [], pre, n, hp, h0, h1 => by rw [impl_ofKind_l8, end_at hp]; simp [ofK]
  | x :: rest, pre, n, hp, h0, h1 => by
    have hlen : pre.length + 1 ≤ l.length := by rw [← hp]; simp
    rw [impl_ofKind_l8, more_at hp, getI_at hp, next_at hp (by rw [maxLen_eq]; omega), addI_eq (by omega) (by omega)]
    have i1 := ofKind_loop kind l hl rest (pre ++ [x]) (n + 1) (step_at hp) (by omega) (by simp; omega)
    have i2 := ofKind_loop kind l hl rest (pre ++ [x]) n (step_at hp) h0 (by simp; omega)
    simp only [if_true, some_bnd, i1, i2, ofK]
    split
    · congr 1; simp; omega
    · congr 1; simp
theorem ofKind_ok (kind : Int) (l : List GNode) (hl : l.length ≤ 1048576) : impl_ofKind l kind = some ((ofK kind l : Nat) : Int) := by
  rw [impl_ofKind, show impl_ofKind_l8 kind 0 l 0 = some (0 + ((ofK kind l : Nat) : Int)) from ofKind_loop kind l hl l [] 0 rfl (by omega) (by simp)]
  simp
theorem step_loop (up x : GNode) (i : Nat) (hl : up.Kids.length ≤ 1048576) : ∀ (rest pre : List GNode) (nth : Int), pre ++ rest = up.Kids → 0 ≤ nth → nth ≤ pre.length → spec_l19Step_l10 i nth pre.length up x = some (stK x.Kind (nth + ofK x.Kind (rest.take (i + 1 - pre.length))))
  | [], pre, nth, hp, h0, h1 => by
    rw [spec_l19Step_l10, end_at hp]
    simp only [Bool.false_eq_true, if_false, List.take_nil, ofK, stK, skK]
    split
    · simp
    · split
      · simp
      · split <;> simp
  | y :: rest, pre, nth, hp, h0, h1 => by
    have hlen : pre.length + 1 ≤ up.Kids.length := by rw [← hp]; simp
    rw [spec_l19Step_l10, more_at hp, getI_at hp, next_at hp (by rw [maxLen_eq]; omega), addI_eq (by omega) (by omega)]
    have i1 := step_loop up x i hl rest (pre ++ [y]) (nth + 1) (step_at hp) (by omega) (by simp; omega)
    have i2 := step_loop up x i hl rest (pre ++ [y]) nth (step_at hp) h0 (by simp; omega)
    simp only [if_true, some_bnd, i1, i2]
    by_cases hle : pre.length ≤ i
    · have e1 : leI (pre.length : Int) i = true := leI_t (by omega)
      have e2 : i + 1 - pre.length = (i + 1 - (pre ++ [y]).length) + 1 := by simp; omega
      rw [e1, e2, List.take_succ_cons, ofK]
      simp only [if_true]
      split
      · congr 2; simp; omega
      · congr 2; simp
    · have e1 : leI (pre.length : Int) i = false := leI_f (by omega)
      have e2 : i + 1 - pre.length = 0 := by omega
      have e3 : i + 1 - (pre ++ [y]).length = 0 := by simp; omega
      rw [e1, e2, e3]
      simp only [List.take_zero, ofK, Bool.false_eq_true, if_false, ite_self]
theorem getI_lt {α : Type} {l : List α} {i : Int} {x : α} (h : getI l i = some x) : 0 ≤ i ∧ i.toNat < l.length := by
  unfold getI at h
  split at h
  · rename_i h0
    exact ⟨h0, (List.getElem?_eq_some_iff.1 h).1⟩
  · cases h
def stepOf (n : GNode) (i : Int) (k : GNode) : GStp := stK k.Kind (ofK k.Kind (n.Kids.take (i.toNat + 1)) : Nat)
theorem step_ok (n k : GNode) (i : Int) (hl : n.Kids.length ≤ 1048576) (h : getI n.Kids i = some k) : spec_l19Step n i = some (stepOf n i k) := by
  obtain ⟨h0, h1⟩ := getI_lt h
  have := step_loop n k i.toNat hl n.Kids [] 0 rfl (by omega) (by simp)
  rw [show ((i.toNat : Nat) : Int) = i by omega] at this
  rw [spec_l19Step, h]
  simp only [some_bnd]
  rw [show spec_l19Step_l10 i 0 0 n k = spec_l19Step_l10 i 0 (([] : List GNode).length : Int) n k from rfl, this]
  simp [stepOf]
theorem slice_ok (n k : GNode) (i : Int) (hl : n.Kids.length ≤ 1048576) (h : getI n.Kids i = some k) : slL n.Kids 0 (addI i 1) = some (n.Kids.take (i.toNat + 1)) := by
  obtain ⟨h0, h1⟩ := getI_lt h
  rw [addI_eq (by omega) (by omega), slL, if_pos ⟨by omega, by omega, by omega⟩]
  simp only [Int.toNat_zero, List.drop_zero]
  congr 2
  omega
def stepsOn : GNode → List Int → List GStp
  | n, [] => []
  | n, i :: p => match getI n.Kids i with
    | some k => stepOf n i k :: stepsOn k p
    | none => []
theorem stepsOn_len : ∀ (p : List Int) (n : GNode), (stepsOn n p).length ≤ p.length
  | [], n => Nat.le_refl _
  | i :: p, n => by
    rw [stepsOn]
    cases getI n.Kids i with
    | none => simp
    | some k => have := stepsOn_len p k; simp; omega
theorem stepsOn_sz : ∀ (p : List Int) (n : GNode), szs GStp.sz (stepsOn n p) ≤ p.length
  | [], n => Nat.le_refl _
  | i :: p, n => by
    rw [stepsOn]
    cases getI n.Kids i with
    | none => simp [szs]
    | some k =>
      have := stepsOn_sz p k
      have e : GStp.sz (stepOf n i k) = 1 := rfl
      simp only [szs_cons, e, List.length_cons]
      omega
def emS : ByteArray := ⟨#[]⟩
theorem SelFor_spec (path : List Int) (hl : path.length ≤ 8) : ∀ (rest pre : List Int) (n : GNode) (out : List GStp), pre ++ rest = path → (∃ x, nodeAt n rest = some x) → n.sz ≤ 1048576 → out.length = pre.length → spec_SelFor_l20 path pre.length out n = some (GSel.mk emS (out ++ stepsOn n rest), true)
  | [], pre, n, out, hp, hx, hs, ho => by rw [spec_SelFor_l20, end_at hp]; simp [stepsOn, emS]
  | i :: rest, pre, n, out, hp, hx, hs, ho => by
    obtain ⟨x, hx⟩ := hx
    obtain ⟨k, h1, h2⟩ := Option.bind_eq_some_iff.1 hx
    have hk := kids_len (n := n)
    have hlen : pre.length + 1 ≤ path.length := by rw [← hp]; simp
    rw [spec_SelFor_l20, more_at hp, getI_at hp, next_at hp (by rw [maxLen_eq]; omega)]
    have := SelFor_spec path hl rest (pre ++ [i]) k (out ++ [stepOf n i k]) (step_at hp) ⟨x, h2⟩ (Nat.le_trans (kid_sz h1) hs) (by simp [ho])
    simp only [if_true, some_bnd, step_ok n k i (by omega) h1, room_ok (show out.length + 1 ≤ 4000000 by omega) (show 0 < 72 by omega) (show 72 ≤ 1000 by omega), h1, this, stepsOn, List.append_assoc, List.singleton_append]
theorem SelFor_impl (path : List Int) (hl : path.length ≤ 8) : ∀ (rest pre : List Int) (n : GNode) (out : List GStp), pre ++ rest = path → (∃ x, nodeAt n rest = some x) → n.sz ≤ 1048576 → out.length = pre.length → impl_SelFor_l18 path pre.length n out = some (GSel.mk emS (out ++ stepsOn n rest), true)
  | [], pre, n, out, hp, hx, hs, ho => by rw [impl_SelFor_l18, end_at hp]; simp [stepsOn, emS]
  | i :: rest, pre, n, out, hp, hx, hs, ho => by
    obtain ⟨x, hx⟩ := hx
    obtain ⟨k, h1, h2⟩ := Option.bind_eq_some_iff.1 hx
    have hk := kids_len (n := n)
    have hlen : pre.length + 1 ≤ path.length := by rw [← hp]; simp
    rw [impl_SelFor_l18, more_at hp, getI_at hp, next_at hp (by rw [maxLen_eq]; omega)]
    have := SelFor_impl path hl rest (pre ++ [i]) k (out ++ [stepOf n i k]) (step_at hp) ⟨x, h2⟩ (Nat.le_trans (kid_sz h1) hs) (by simp [ho])
    simp only [if_true, some_bnd, h1, slice_ok n k i (by omega) h1, ofKind_ok k.Kind (n.Kids.take (i.toNat + 1)) (by simp; omega), stepKind_ok, room_ok (show out.length + 1 ≤ 4000000 by omega) (show 0 < 72 by omega) (show 72 ≤ 1000 by omega), stepsOn]
    simp only [stepOf, stK, List.append_assoc, List.singleton_append] at this ⊢
    exact this
theorem all_SelFor (n : GNode) (p : List Int) (lp : p.length ≤ 1048576) (hs : n.sz ≤ 1048576) : ∃ r : GSel × Bool, spec_SelFor n p = some r ∧ impl_SelFor n p = some r ∧ r.1.sz ≤ 16 := by
  have he : GSel.sz (GSel.mk (⟨#[]⟩) []) ≤ 16 := by decide
  have hin : spec_l1In (lenL p) 1 8 = some (decide (1 ≤ p.length ∧ p.length ≤ 8)) := by
    rw [spec_l1In]
    by_cases h1 : 1 ≤ p.length
    · by_cases h2 : p.length ≤ 8
      · rw [geI_t (by simp only [lenL]; omega), leI_t (by simp only [lenL]; omega)]; simp [h1, h2]
      · rw [geI_t (by simp only [lenL]; omega), leI_f (by simp only [lenL]; omega)]; simp [h2]
    · rw [geI_f (by simp only [lenL]; omega)]; simp [h1]
  have hin' : impl_in (lenL p) 1 8 = some (decide (1 ≤ p.length ∧ p.length ≤ 8)) := by
    rw [← hin, spec_l1In, impl_in]
  rw [spec_SelFor, impl_SelFor, nodeAt_spec n p hs lp, nodeAt_impl n p hs lp]
  cases h : nodeAt n p with
  | none => exact ⟨_, by simp only [nodeAtR, h, some_bnd]; rfl, by simp only [nodeAtR, h, some_bnd]; rfl, he⟩
  | some x =>
    by_cases hc : 1 ≤ p.length ∧ p.length ≤ 8
    · have h1 := SelFor_spec p hc.2 p [] n [] rfl ⟨x, h⟩ hs rfl
      have h2 := SelFor_impl p hc.2 p [] n [] rfl ⟨x, h⟩ hs rfl
      refine ⟨(GSel.mk emS ([] ++ stepsOn n p), true), ?_, ?_, ?_⟩
      · simp only [nodeAtR, h, some_bnd, if_true, hin, hc, and_self, decide_true]
        exact h1
      · simp only [nodeAtR, h, some_bnd, if_true, hin', hc, and_self, decide_true]
        exact h2
      · have e1 := stepsOn_len p n
        have e2 := stepsOn_sz p n
        have e3 : emS.size = 0 := rfl
        rw [GSel.sz_eq]
        simp only [List.nil_append, e3]
        omega
    · exact ⟨(GSel.mk (⟨#[]⟩) [], false), by simp [nodeAtR, h, some_bnd, hin, hc], by simp [nodeAtR, h, some_bnd, hin', hc], he⟩
theorem same_SelFor (n : GNode) (p : List Int) (lp : p.length ≤ 1048576) (hs : n.sz ≤ 1048576) : ∃ r : GSel × Bool, spec_SelFor n p = some r ∧ impl_SelFor n p = some r ∧ r.1.sz ≤ 1048576 := by
  obtain ⟨r, h1, h2, h3⟩ := all_SelFor n p lp hs
  exact ⟨r, h1, h2, by omega⟩
end TT
set_option linter.unusedVariables false
set_option linter.unusedSimpArgs false
namespace TT
open Go
theorem markText_ok (k : Int) (h0 : 0 ≤ k) (h1 : k < 1000000000000000000) : ∃ s, laws_markText k = some s := by
  rw [laws_markText]
  by_cases g : k ≤ 0
  · rw [leI_t g]; exact ⟨_, rfl⟩
  · rw [leI_f g]
    exact markText_loop laws_markText_l14 (fun k out => by rw [laws_markText_l14]) k h0 h1
theorem to_IntS (a : List Int) (hl : a.length ≤ 1048576) : laws_toIntS a = some a := by
  have := to_list laws_toIntS laws_toIntS_l8 some id 0 8 (fun a => by rw [laws_toIntS]) (fun a out i => by
    rw [laws_toIntS_l8]
    split
    · cases getI a i <;> rfl
    · rfl) (by decide) (by decide) a hl (fun x _ => rfl)
  simpa using this
theorem eq_IntS (a : List Int) (hl : a.length ≤ 1048576) : laws_eqIntS a a = some true :=
  eq_list laws_eqIntS laws_eqIntS_l14 (fun x y => some (eqI x y)) (fun a b => by rw [laws_eqIntS]) (fun a b i => by
    rw [laws_eqIntS_l14]
    simp only [neI_eq, some_bnd]
    congr 1; congr 1; funext x; congr 1; funext y
    by_cases hq : eqI x y = true <;> simp [hq]) a (Nat.le_trans hl (by decide)) (fun x _ => by rw [eqI_self])
theorem holdIntS_ok (a : List Int) (hl : a.length ≤ 1048576) (k : Int) (h0 : 0 ≤ k) (h1 : k ≤ 10000000000) : ∃ r, laws_markIntS a k = some r ∧ k ≤ r.1 ∧ r.1 ≤ k + 10000000 ∧ r.2.length = a.length := by
  have em : maxLen = 9223372036854775807 := rfl
  have e0 : mB = 100000000000 := rfl
  obtain ⟨r, r1, r2, r3, r4⟩ := mark_loop laws_markIntS_l6 (fun x k => some (addI k 1, k)) (fun _ => 1)
    (fun a k i => by
      rw [laws_markIntS_l6]
      split
      · cases hx : getI a i with
        | none => rfl
        | some x => rfl
      · rfl) a (by omega) mB (fun x _ k h0 h1 => by
      rw [addI_eq (by omega) (by omega)]
      exact ⟨_, rfl, by show k ≤ k + 1; omega, by show k + 1 ≤ k + (1 : Nat); omega⟩) k h0 (by rw [szs_const]; omega)
  rw [szs_const] at r3
  exact ⟨r, by rw [laws_markIntS]; exact r1, r2, by omega, r4⟩
def mkDecl (x : GDecl) (k : Int) : Option (Int × GDecl) := laws_markText k >>= fun v0 => laws_markText (addI k 1) >>= fun v1 => some (addI (addI k 1) 1, GDecl.mk v0 v1)
theorem mkDecl_eq (a : List GDecl) (k i : Int) : laws_markDeclS_l6 a k i = if ltI i (lenL a) then getI a i >>= fun x => mkDecl x k >>= fun r => laws_markDeclS_l6 (a.set i.toNat r.2) r.1 (addI i 1) else some (k, a) := by
  rw [laws_markDeclS_l6]
  split
  · cases hx : getI a i with
    | none => first | rfl | simp only [none_bnd, bnd_none2]
    | some x => simp only [get_set hx, List.set_set, bnd_assoc, some_bnd, mkDecl]
  · rfl
theorem stDecl_ok (x : GDecl) (hs : x.sz ≤ 1200000) (k : Int) (h0 : 0 ≤ k) (h1 : k + (8 + 8 * (GDecl.sz x : Nat) : Nat) ≤ mB) : ∃ r, mkDecl x k = some r ∧ k ≤ r.1 ∧ r.1 ≤ k + (8 + 8 * (GDecl.sz x : Nat) : Nat) := by
  have e0 : mB = 100000000000 := rfl
  have em : maxLen = 9223372036854775807 := rfl
  have hz := GDecl.sz_eq x
  obtain ⟨t0, u0⟩ := markText_ok (k) (by omega) (by omega)
  have w0 : addI (k) 1 = k + 1 := addI_eq (by omega) (by omega)
  obtain ⟨t1, u1⟩ := markText_ok (k + 1) (by omega) (by omega)
  have w1 : addI (k + 1) 1 = k + 1 + 1 := addI_eq (by omega) (by omega)
  refine ⟨(k + 1 + 1, GDecl.mk t0 t1), ?_, ?_, ?_⟩
  · simp only [mkDecl, some_bnd, u0, w0, u1, w1]
  · show k ≤ k + 1 + 1; omega
  · show k + 1 + 1 ≤ _; omega
theorem holdDeclS_ok (a : List GDecl) (hl : a.length + szs GDecl.sz a ≤ 1200000) (k : Int) (h0 : 0 ≤ k) (h1 : k + (8 * a.length + 8 * szs GDecl.sz a : Nat) ≤ mB) : ∃ r, laws_markDeclS a k = some r ∧ k ≤ r.1 ∧ r.1 ≤ k + (8 * a.length + 8 * szs GDecl.sz a : Nat) ∧ r.2.length = a.length := by
  have em : maxLen = 9223372036854775807 := rfl
  obtain ⟨r, r1, r2, r3, r4⟩ := mark_loop laws_markDeclS_l6 mkDecl (fun x => 8 + 8 * GDecl.sz x) mkDecl_eq a (by omega) mB (fun y hy k h0 h1 => stDecl_ok y (by have := szs_mem GDecl.sz hy; omega) k h0 h1) k h0 (by rw [szs_c8]; exact h1)
  rw [szs_c8] at r3
  exact ⟨r, by rw [laws_markDeclS]; exact r1, r2, r3, r4⟩
def mkAttr (x : GAttr) (k : Int) : Option (Int × GAttr) := laws_markText k >>= fun v0 => laws_markText (addI k 1) >>= fun v1 => laws_markText (addI (addI k 1) 1) >>= fun v2 => laws_markText (addI (addI (addI k 1) 1) 1) >>= fun v3 => some (addI (addI (addI (addI k 1) 1) 1) 1, GAttr.mk v0 v1 v2 v3)
theorem mkAttr_eq (a : List GAttr) (k i : Int) : laws_markAttrS_l6 a k i = if ltI i (lenL a) then getI a i >>= fun x => mkAttr x k >>= fun r => laws_markAttrS_l6 (a.set i.toNat r.2) r.1 (addI i 1) else some (k, a) := by
  rw [laws_markAttrS_l6]
  split
  · cases hx : getI a i with
    | none => first | rfl | simp only [none_bnd, bnd_none2]
    | some x => simp only [get_set hx, List.set_set, bnd_assoc, some_bnd, mkAttr]
  · rfl
theorem stAttr_ok (x : GAttr) (hs : x.sz ≤ 1200000) (k : Int) (h0 : 0 ≤ k) (h1 : k + (8 + 8 * (GAttr.sz x : Nat) : Nat) ≤ mB) : ∃ r, mkAttr x k = some r ∧ k ≤ r.1 ∧ r.1 ≤ k + (8 + 8 * (GAttr.sz x : Nat) : Nat) := by
  have e0 : mB = 100000000000 := rfl
  have em : maxLen = 9223372036854775807 := rfl
  have hz := GAttr.sz_eq x
  obtain ⟨t0, u0⟩ := markText_ok (k) (by omega) (by omega)
  have w0 : addI (k) 1 = k + 1 := addI_eq (by omega) (by omega)
  obtain ⟨t1, u1⟩ := markText_ok (k + 1) (by omega) (by omega)
  have w1 : addI (k + 1) 1 = k + 1 + 1 := addI_eq (by omega) (by omega)
  obtain ⟨t2, u2⟩ := markText_ok (k + 1 + 1) (by omega) (by omega)
  have w2 : addI (k + 1 + 1) 1 = k + 1 + 1 + 1 := addI_eq (by omega) (by omega)
  obtain ⟨t3, u3⟩ := markText_ok (k + 1 + 1 + 1) (by omega) (by omega)
  have w3 : addI (k + 1 + 1 + 1) 1 = k + 1 + 1 + 1 + 1 := addI_eq (by omega) (by omega)
  refine ⟨(k + 1 + 1 + 1 + 1, GAttr.mk t0 t1 t2 t3), ?_, ?_, ?_⟩
  · simp only [mkAttr, some_bnd, u0, w0, u1, w1, u2, w2, u3, w3]
  · show k ≤ k + 1 + 1 + 1 + 1; omega
  · show k + 1 + 1 + 1 + 1 ≤ _; omega
theorem holdAttrS_ok (a : List GAttr) (hl : a.length + szs GAttr.sz a ≤ 1200000) (k : Int) (h0 : 0 ≤ k) (h1 : k + (8 * a.length + 8 * szs GAttr.sz a : Nat) ≤ mB) : ∃ r, laws_markAttrS a k = some r ∧ k ≤ r.1 ∧ r.1 ≤ k + (8 * a.length + 8 * szs GAttr.sz a : Nat) ∧ r.2.length = a.length := by
  have em : maxLen = 9223372036854775807 := rfl
  obtain ⟨r, r1, r2, r3, r4⟩ := mark_loop laws_markAttrS_l6 mkAttr (fun x => 8 + 8 * GAttr.sz x) mkAttr_eq a (by omega) mB (fun y hy k h0 h1 => stAttr_ok y (by have := szs_mem GAttr.sz hy; omega) k h0 h1) k h0 (by rw [szs_c8]; exact h1)
  rw [szs_c8] at r3
  exact ⟨r, by rw [laws_markAttrS]; exact r1, r2, r3, r4⟩
def mkNode (x : GNode) (k : Int) : Option (Int × GNode) := laws_markText (addI k 1) >>= fun v1 => laws_markText (addI (addI k 1) 1) >>= fun v2 => laws_markText (addI (addI (addI k 1) 1) 1) >>= fun v3 => laws_markDeclS x.Decls (addI (addI (addI (addI k 1) 1) 1) 1) >>= fun v4 => laws_markAttrS x.Attrs v4.1 >>= fun v5 => laws_markNodeS x.Kids v5.1 >>= fun v6 => laws_markText v6.1 >>= fun v7 => some (addI v6.1 1, GNode.mk k v1 v2 v3 v4.2 v5.2 v6.2 v7)
theorem mkNode_eq (a : List GNode) (k i : Int) : laws_markNodeS_l6 a k i = if ltI i (lenL a) then getI a i >>= fun x => mkNode x k >>= fun r => laws_markNodeS_l6 (a.set i.toNat r.2) r.1 (addI i 1) else some (k, a) := by
  rw [laws_markNodeS_l6]
  split
  · cases hx : getI a i with
    | none => first | rfl | simp only [none_bnd, bnd_none2]
    | some x => simp only [get_set hx, List.set_set, bnd_assoc, some_bnd, mkNode]
  · rfl
theorem stNode_ok : ∀ x : GNode, x.sz ≤ 1200000 → ∀ k : Int, 0 ≤ k → k + (8 + 8 * (GNode.sz x : Nat) : Nat) ≤ mB → ∃ r, mkNode x k = some r ∧ k ≤ r.1 ∧ r.1 ≤ k + (8 + 8 * (GNode.sz x : Nat) : Nat) := by
  refine GNode.ind' fun x ih hs k h0 h1 => ?_
  have e0 : mB = 100000000000 := rfl
  have em : maxLen = 9223372036854775807 := rfl
  have hz := GNode.sz_eq x
  have w0 : addI (k) 1 = k + 1 := addI_eq (by omega) (by omega)
  obtain ⟨t1, u1⟩ := markText_ok (k + 1) (by omega) (by omega)
  have w1 : addI (k + 1) 1 = k + 1 + 1 := addI_eq (by omega) (by omega)
  obtain ⟨t2, u2⟩ := markText_ok (k + 1 + 1) (by omega) (by omega)
  have w2 : addI (k + 1 + 1) 1 = k + 1 + 1 + 1 := addI_eq (by omega) (by omega)
  obtain ⟨t3, u3⟩ := markText_ok (k + 1 + 1 + 1) (by omega) (by omega)
  have w3 : addI (k + 1 + 1 + 1) 1 = k + 1 + 1 + 1 + 1 := addI_eq (by omega) (by omega)
  obtain ⟨q4, u4, x4, y4, n4⟩ := holdDeclS_ok x.Decls (by omega) (k + 1 + 1 + 1 + 1) (by omega) (by omega)
  have g4 : ltI q4.1 0 = false := ltI_f (by omega)
  obtain ⟨q5, u5, x5, y5, n5⟩ := holdAttrS_ok x.Attrs (by omega) (q4.1) (by omega) (by omega)
  have g5 : ltI q5.1 0 = false := ltI_f (by omega)
  obtain ⟨q6, u6, x6, y6, n6⟩ := mark_loop laws_markNodeS_l6 mkNode (fun x => 8 + 8 * GNode.sz x) mkNode_eq x.Kids (by omega) mB (fun y hy k h0 h1 => ih y hy (by have := szs_mem GNode.sz hy; omega) k h0 h1) (q5.1) (by omega) (by rw [szs_c8]; omega)
  rw [szs_c8] at y6
  have u6' : laws_markNodeS x.Kids (q5.1) = some q6 := by rw [laws_markNodeS]; exact u6
  have g6 : ltI q6.1 0 = false := ltI_f (by omega)
  obtain ⟨t7, u7⟩ := markText_ok (q6.1) (by omega) (by omega)
  have w7 : addI (q6.1) 1 = q6.1 + 1 := addI_eq (by omega) (by omega)
  refine ⟨(q6.1 + 1, GNode.mk (k) t1 t2 t3 q4.2 q5.2 q6.2 t7), ?_, ?_, ?_⟩
  · simp only [mkNode, some_bnd, w0, u1, w1, u2, w2, u3, w3, u4, g4, u5, g5, u6', g6, u7, w7]
  · show k ≤ q6.1 + 1; omega
  · show q6.1 + 1 ≤ _; omega
theorem holdNodeS_ok (a : List GNode) (hl : a.length + szs GNode.sz a ≤ 1200000) (k : Int) (h0 : 0 ≤ k) (h1 : k + (8 * a.length + 8 * szs GNode.sz a : Nat) ≤ mB) : ∃ r, laws_markNodeS a k = some r ∧ k ≤ r.1 ∧ r.1 ≤ k + (8 * a.length + 8 * szs GNode.sz a : Nat) ∧ r.2.length = a.length := by
  have em : maxLen = 9223372036854775807 := rfl
  obtain ⟨r, r1, r2, r3, r4⟩ := mark_loop laws_markNodeS_l6 mkNode (fun x => 8 + 8 * GNode.sz x) mkNode_eq a (by omega) mB (fun y hy k h0 h1 => stNode_ok y (by have := szs_mem GNode.sz hy; omega) k h0 h1) k h0 (by rw [szs_c8]; exact h1)
  rw [szs_c8] at r3
  exact ⟨r, by rw [laws_markNodeS]; exact r1, r2, r3, r4⟩
theorem holdNode_ok (a : GNode) (hs : a.sz ≤ 1200000) (k : Int) (h0 : 0 ≤ k) (h1 : k ≤ 10000000000) : ∃ r, laws_markNode a k = some r ∧ k ≤ r.1 ∧ r.1 ≤ k + 10000000 ∧ r.2.1.length = a.Decls.length ∧ r.2.2.1.length = a.Attrs.length ∧ r.2.2.2.length = a.Kids.length := by
  have e0 : mB = 100000000000 := rfl
  have hz := GNode.sz_eq a
  obtain ⟨q0, u0, x0, y0, n0⟩ := holdDeclS_ok a.Decls (by omega) (k) (by omega) (by omega)
  have g0 : ltI q0.1 0 = false := ltI_f (by omega)
  have s0 : sameL q0.2 a.Decls = some () := if_pos n0
  obtain ⟨q1, u1, x1, y1, n1⟩ := holdAttrS_ok a.Attrs (by omega) (q0.1) (by omega) (by omega)
  have g1 : ltI q1.1 0 = false := ltI_f (by omega)
  have s1 : sameL q1.2 a.Attrs = some () := if_pos n1
  obtain ⟨q2, u2, x2, y2, n2⟩ := holdNodeS_ok a.Kids (by omega) (q1.1) (by omega) (by omega)
  have g2 : ltI q2.1 0 = false := ltI_f (by omega)
  have s2 : sameL q2.2 a.Kids = some () := if_pos n2
  refine ⟨(q2.1, q0.2, q1.2, q2.2), by simp only [laws_markNode, some_bnd, u0, g0, s0, u1, g1, s1, u2, g2, s2], by show k ≤ q2.1; omega, by show q2.1 ≤ _; omega, n0, n1, n2⟩
def mkPred (x : GPred) (k : Int) : Option (Int × GPred) := laws_markText (addI (addI k 1) 1) >>= fun v2 => laws_markText (addI (addI (addI k 1) 1) 1) >>= fun v3 => laws_markText (addI (addI (addI (addI k 1) 1) 1) 1) >>= fun v4 => some (addI (addI (addI (addI (addI k 1) 1) 1) 1) 1, GPred.mk k (addI k 1) v2 v3 v4)
def hdPred (x : GPred) (k : Int) (C : Int → Option Int) : Option Int := if neI x.Kind k then some (-1) else if neI x.N (addI k 1) then some (-1) else laws_markText (addI (addI k 1) 1) >>= fun v2 => if neS x.Pre v2 then some (-1) else laws_markText (addI (addI (addI k 1) 1) 1) >>= fun v3 => if neS x.Local v3 then some (-1) else laws_markText (addI (addI (addI (addI k 1) 1) 1) 1) >>= fun v4 => if neS x.Val v4 then some (-1) else C (addI (addI (addI (addI (addI k 1) 1) 1) 1) 1)
theorem hdPred_eq (a : List GPred) (k i : Int) : laws_heldPredS_l6 a k i = if ltI i (lenL a) then getI a i >>= fun x => hdPred x k (fun k => laws_heldPredS_l6 a k (addI i 1)) else some k := by
  rw [laws_heldPredS_l6]
  split
  · cases hx : getI a i with
    | none => first | rfl | simp only [none_bnd, bnd_none2]
    | some x => simp only [some_bnd, hdPred]
  · rfl
theorem mkPred_eq (a : List GPred) (k i : Int) : laws_markPredS_l6 a k i = if ltI i (lenL a) then getI a i >>= fun x => mkPred x k >>= fun r => laws_markPredS_l6 (a.set i.toNat r.2) r.1 (addI i 1) else some (k, a) := by
  rw [laws_markPredS_l6]
  split
  · cases hx : getI a i with
    | none => first | rfl | simp only [none_bnd, bnd_none2]
    | some x => simp only [get_set hx, List.set_set, bnd_assoc, some_bnd, mkPred]
  · rfl
theorem stPred_ok (x : GPred) (hs : x.sz ≤ 1200000) (k : Int) (h0 : 0 ≤ k) (h1 : k + (8 + 8 * (GPred.sz x : Nat) : Nat) ≤ mB) : ∃ r, mkPred x k = some r ∧ k ≤ r.1 ∧ r.1 ≤ k + (8 + 8 * (GPred.sz x : Nat) : Nat) ∧ ∀ C, hdPred r.2 k C = C r.1 := by
  have e0 : mB = 100000000000 := rfl
  have em : maxLen = 9223372036854775807 := rfl
  have hz := GPred.sz_eq x
  have w0 : addI (k) 1 = k + 1 := addI_eq (by omega) (by omega)
  have w1 : addI (k + 1) 1 = k + 1 + 1 := addI_eq (by omega) (by omega)
  obtain ⟨t2, u2⟩ := markText_ok (k + 1 + 1) (by omega) (by omega)
  have w2 : addI (k + 1 + 1) 1 = k + 1 + 1 + 1 := addI_eq (by omega) (by omega)
  obtain ⟨t3, u3⟩ := markText_ok (k + 1 + 1 + 1) (by omega) (by omega)
  have w3 : addI (k + 1 + 1 + 1) 1 = k + 1 + 1 + 1 + 1 := addI_eq (by omega) (by omega)
  obtain ⟨t4, u4⟩ := markText_ok (k + 1 + 1 + 1 + 1) (by omega) (by omega)
  have w4 : addI (k + 1 + 1 + 1 + 1) 1 = k + 1 + 1 + 1 + 1 + 1 := addI_eq (by omega) (by omega)
  refine ⟨(k + 1 + 1 + 1 + 1 + 1, GPred.mk (k) (k + 1) t2 t3 t4), ?_, ?_, ?_, fun C => ?_⟩
  · simp only [mkPred, some_bnd, w0, w1, u2, w2, u3, w3, u4, w4]
  · show k ≤ k + 1 + 1 + 1 + 1 + 1; omega
  · show k + 1 + 1 + 1 + 1 + 1 ≤ _; omega
  · simp only [hdPred, some_bnd, neS_self, neI_self, neB_self, Bool.false_eq_true, if_false, w0, w1, u2, w2, u3, w3, u4, w4]
theorem holdPredS_ok (a : List GPred) (hl : a.length + szs GPred.sz a ≤ 1200000) (k : Int) (h0 : 0 ≤ k) (h1 : k + (8 * a.length + 8 * szs GPred.sz a : Nat) ≤ mB) : ∃ r, laws_markPredS a k = some r ∧ k ≤ r.1 ∧ r.1 ≤ k + (8 * a.length + 8 * szs GPred.sz a : Nat) ∧ r.2.length = a.length ∧ laws_heldPredS r.2 k = some r.1 := by
  have em : maxLen = 9223372036854775807 := rfl
  obtain ⟨r, r1, r2, r3, r4, r5⟩ := held_loop laws_markPredS_l6 mkPred (fun x => 8 + 8 * GPred.sz x) laws_heldPredS_l6 hdPred mkPred_eq hdPred_eq a (by omega) mB (fun y hy k h0 h1 => stPred_ok y (by have := szs_mem GPred.sz hy; omega) k h0 h1) k h0 (by rw [szs_c8]; exact h1)
  rw [szs_c8] at r3
  exact ⟨r, by rw [laws_markPredS]; exact r1, r2, r3, r4, by rw [laws_heldPredS]; exact r5⟩
def mkStep (x : GStp) (k : Int) : Option (Int × GStp) := remI k 3 >>= fun v0 => laws_markText (addI (addI k 1) 1) >>= fun v2 => laws_markText (addI (addI (addI k 1) 1) 1) >>= fun v3 => laws_markPredS x.Preds (addI (addI (addI (addI k 1) 1) 1) 1) >>= fun v4 => some (v4.1, GStp.mk (eqI v0 0) (addI k 1) v2 v3 v4.2)
def hdStep (x : GStp) (k : Int) (C : Int → Option Int) : Option Int := remI k 3 >>= fun v0 => if neB x.Deep (eqI v0 0) then some (-1) else if neI x.Kind (addI k 1) then some (-1) else laws_markText (addI (addI k 1) 1) >>= fun v2 => if neS x.Pre v2 then some (-1) else laws_markText (addI (addI (addI k 1) 1) 1) >>= fun v3 => if neS x.Local v3 then some (-1) else laws_heldPredS x.Preds (addI (addI (addI (addI k 1) 1) 1) 1) >>= fun v4 => if ltI v4 0 then some (-1) else C v4
theorem hdStep_eq (a : List GStp) (k i : Int) : laws_heldStepS_l6 a k i = if ltI i (lenL a) then getI a i >>= fun x => hdStep x k (fun k => laws_heldStepS_l6 a k (addI i 1)) else some k := by
  rw [laws_heldStepS_l6]
  split
  · cases hx : getI a i with
    | none => first | rfl | simp only [none_bnd, bnd_none2]
    | some x => simp only [some_bnd, hdStep]
  · rfl
theorem mkStep_eq (a : List GStp) (k i : Int) : laws_markStepS_l6 a k i = if ltI i (lenL a) then getI a i >>= fun x => mkStep x k >>= fun r => laws_markStepS_l6 (a.set i.toNat r.2) r.1 (addI i 1) else some (k, a) := by
  rw [laws_markStepS_l6]
  split
  · cases hx : getI a i with
    | none => first | rfl | simp only [none_bnd, bnd_none2]
    | some x => simp only [get_set hx, List.set_set, bnd_assoc, some_bnd, mkStep]
  · rfl
theorem stStep_ok (x : GStp) (hs : x.sz ≤ 1200000) (k : Int) (h0 : 0 ≤ k) (h1 : k + (8 + 8 * (GStp.sz x : Nat) : Nat) ≤ mB) : ∃ r, mkStep x k = some r ∧ k ≤ r.1 ∧ r.1 ≤ k + (8 + 8 * (GStp.sz x : Nat) : Nat) ∧ ∀ C, hdStep r.2 k C = C r.1 := by
  have e0 : mB = 100000000000 := rfl
  have em : maxLen = 9223372036854775807 := rfl
  have hz := GStp.sz_eq x
  have u0 : remI (k) 3 = some ((k).tmod 3) := if_neg (by omega)
  have w0 : addI (k) 1 = k + 1 := addI_eq (by omega) (by omega)
  have w1 : addI (k + 1) 1 = k + 1 + 1 := addI_eq (by omega) (by omega)
  obtain ⟨t2, u2⟩ := markText_ok (k + 1 + 1) (by omega) (by omega)
  have w2 : addI (k + 1 + 1) 1 = k + 1 + 1 + 1 := addI_eq (by omega) (by omega)
  obtain ⟨t3, u3⟩ := markText_ok (k + 1 + 1 + 1) (by omega) (by omega)
  have w3 : addI (k + 1 + 1 + 1) 1 = k + 1 + 1 + 1 + 1 := addI_eq (by omega) (by omega)
  obtain ⟨q4, u4, x4, y4, n4, z4⟩ := holdPredS_ok x.Preds (by omega) (k + 1 + 1 + 1 + 1) (by omega) (by omega)
  have g4 : ltI q4.1 0 = false := ltI_f (by omega)
  refine ⟨(q4.1, GStp.mk (eqI ((k).tmod 3) 0) (k + 1) t2 t3 q4.2), ?_, ?_, ?_, fun C => ?_⟩
  · simp only [mkStep, some_bnd, u0, w0, w1, u2, w2, u3, w3, u4, z4, g4]
  · show k ≤ q4.1; omega
  · show q4.1 ≤ _; omega
  · simp only [hdStep, some_bnd, neS_self, neI_self, neB_self, Bool.false_eq_true, if_false, u0, w0, w1, u2, w2, u3, w3, u4, z4, g4]
theorem holdStepS_ok (a : List GStp) (hl : a.length + szs GStp.sz a ≤ 1200000) (k : Int) (h0 : 0 ≤ k) (h1 : k + (8 * a.length + 8 * szs GStp.sz a : Nat) ≤ mB) : ∃ r, laws_markStepS a k = some r ∧ k ≤ r.1 ∧ r.1 ≤ k + (8 * a.length + 8 * szs GStp.sz a : Nat) ∧ r.2.length = a.length ∧ laws_heldStepS r.2 k = some r.1 := by
  have em : maxLen = 9223372036854775807 := rfl
  obtain ⟨r, r1, r2, r3, r4, r5⟩ := held_loop laws_markStepS_l6 mkStep (fun x => 8 + 8 * GStp.sz x) laws_heldStepS_l6 hdStep mkStep_eq hdStep_eq a (by omega) mB (fun y hy k h0 h1 => stStep_ok y (by have := szs_mem GStp.sz hy; omega) k h0 h1) k h0 (by rw [szs_c8]; exact h1)
  rw [szs_c8] at r3
  exact ⟨r, by rw [laws_markStepS]; exact r1, r2, r3, r4, by rw [laws_heldStepS]; exact r5⟩
theorem holdSel_ok (a : GSel) (hs : a.sz ≤ 1200000) (k : Int) (h0 : 0 ≤ k) (h1 : k ≤ 10000000000) : ∃ r, laws_markSel a k = some r ∧ k ≤ r.1 ∧ r.1 ≤ k + 10000000 ∧ r.2.length = a.Steps.length ∧ laws_heldSel (GSel.mk a.Id r.2) k = some r.1 := by
  have e0 : mB = 100000000000 := rfl
  have hz := GSel.sz_eq a
  obtain ⟨q0, u0, x0, y0, n0, z0⟩ := holdStepS_ok a.Steps (by omega) (k) (by omega) (by omega)
  have g0 : ltI q0.1 0 = false := ltI_f (by omega)
  have s0 : sameL q0.2 a.Steps = some () := if_pos n0
  refine ⟨(q0.1, q0.2), by simp only [laws_markSel, some_bnd, u0, g0, s0, z0], by show k ≤ q0.1; omega, by show q0.1 ≤ _; omega, n0, ?_⟩
  simp only [laws_heldSel, some_bnd, Bool.false_eq_true, if_false, u0, g0, s0, z0]
end TT
