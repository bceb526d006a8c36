import Derived.Test.YtdpdfjkjlkmjaaaTP2NodeAt
set_option linter.unusedVariables false
set_option linter.unusedSimpArgs false
namespace TT
open Go
/-- How many are of a kind. -/
def ofK (kind : Int) : List GNode → Nat
  | [] => 0
  | x :: l => (if eqI x.Kind kind then 1 else 0) + ofK kind l
theorem ofK_le (kind : Int) : ∀ l : List GNode, ofK kind l ≤ l.length
  | [] => Nat.le_refl _
  | x :: l => by
    have := ofK_le kind l
    simp only [ofK, List.length_cons]
    split <;> omega
def skK (kind : Int) : Int := if eqI kind 2 then 3 else if eqI kind 3 then 4 else if eqI kind 4 then 5 else 2
def stK (kind nth : Int) : GStp := GStp.mk false (skK kind) (⟨#[]⟩) (⟨#[]⟩) [GPred.mk 1 nth (⟨#[]⟩) (⟨#[]⟩) (⟨#[]⟩)]
theorem stepKind_ok (kind : Int) : impl_stepKind kind = some (skK kind) := by
  rw [impl_stepKind, skK]
  split
  · rfl
  · split
    · rfl
    · split <;> rfl
theorem ofKind_loop (kind : Int) (l : List GNode) (hl : l.length ≤ 1048576) : ∀ (rest pre : List GNode) (n : Int), pre ++ rest = l → 0 ≤ n → n ≤ pre.length → impl_ofKind_l8 kind n l pre.length = some (n + ofK kind rest)
  | [], pre, n, hp, h0, h1 => by rw [impl_ofKind_l8, end_at hp]; simp [ofK]
  | x :: rest, pre, n, hp, h0, h1 => by
    have hlen : pre.length + 1 ≤ l.length := by rw [← hp]; simp
    rw [impl_ofKind_l8, more_at hp, getI_at hp, next_at hp (by rw [maxLen_eq]; omega), addI_eq (by omega) (by omega)]
    have i1 := ofKind_loop kind l hl rest (pre ++ [x]) (n + 1) (step_at hp) (by omega) (by simp; omega)
    have i2 := ofKind_loop kind l hl rest (pre ++ [x]) n (step_at hp) h0 (by simp; omega)
    simp only [if_true, some_bnd, i1, i2, ofK]
    split
    · congr 1; simp; omega
    · congr 1; simp
theorem ofKind_ok (kind : Int) (l : List GNode) (hl : l.length ≤ 1048576) : impl_ofKind l kind = some ((ofK kind l : Nat) : Int) := by
  rw [impl_ofKind, show impl_ofKind_l8 kind 0 l 0 = some (0 + ((ofK kind l : Nat) : Int)) from ofKind_loop kind l hl l [] 0 rfl (by omega) (by simp)]
  simp
theorem step_loop (up x : GNode) (i : Nat) (hl : up.Kids.length ≤ 1048576) : ∀ (rest pre : List GNode) (nth : Int), pre ++ rest = up.Kids → 0 ≤ nth → nth ≤ pre.length → spec_l19Step_l10 i nth pre.length up x = some (stK x.Kind (nth + ofK x.Kind (rest.take (i + 1 - pre.length))))
  | [], pre, nth, hp, h0, h1 => by
    rw [spec_l19Step_l10, end_at hp]
    simp only [Bool.false_eq_true, if_false, List.take_nil, ofK, stK, skK]
    split
    · simp
    · split
      · simp
      · split <;> simp
  | y :: rest, pre, nth, hp, h0, h1 => by
    have hlen : pre.length + 1 ≤ up.Kids.length := by rw [← hp]; simp
    rw [spec_l19Step_l10, more_at hp, getI_at hp, next_at hp (by rw [maxLen_eq]; omega), addI_eq (by omega) (by omega)]
    have i1 := step_loop up x i hl rest (pre ++ [y]) (nth + 1) (step_at hp) (by omega) (by simp; omega)
    have i2 := step_loop up x i hl rest (pre ++ [y]) nth (step_at hp) h0 (by simp; omega)
    simp only [if_true, some_bnd, i1, i2]
    by_cases hle : pre.length ≤ i
    · have e1 : leI (pre.length : Int) i = true := leI_t (by omega)
      have e2 : i + 1 - pre.length = (i + 1 - (pre ++ [y]).length) + 1 := by simp; omega
      rw [e1, e2, List.take_succ_cons, ofK]
      simp only [if_true]
      split
      · congr 2; simp; omega
      · congr 2; simp
    · have e1 : leI (pre.length : Int) i = false := leI_f (by omega)
      have e2 : i + 1 - pre.length = 0 := by omega
      have e3 : i + 1 - (pre ++ [y]).length = 0 := by simp; omega
      rw [e1, e2, e3]
      simp only [List.take_zero, ofK, Bool.false_eq_true, if_false, ite_self]
theorem getI_lt {α : Type} {l : List α} {i : Int} {x : α} (h : getI l i = some x) : 0 ≤ i ∧ i.toNat < l.length := by
  unfold getI at h
  split at h
  · rename_i h0
    exact ⟨h0, (List.getElem?_eq_some_iff.1 h).1⟩
  · cases h
def stepOf (n : GNode) (i : Int) (k : GNode) : GStp := stK k.Kind (ofK k.Kind (n.Kids.take (i.toNat + 1)) : Nat)
theorem step_ok (n k : GNode) (i : Int) (hl : n.Kids.length ≤ 1048576) (h : getI n.Kids i = some k) : spec_l19Step n i = some (stepOf n i k) := by
  obtain ⟨h0, h1⟩ := getI_lt h
  have := step_loop n k i.toNat hl n.Kids [] 0 rfl (by omega) (by simp)
  rw [show ((i.toNat : Nat) : Int) = i by omega] at this
  rw [spec_l19Step, h]
  simp only [some_bnd]
  rw [show spec_l19Step_l10 i 0 0 n k = spec_l19Step_l10 i 0 (([] : List GNode).length : Int) n k from rfl, this]
  simp [stepOf]
theorem slice_ok (n k : GNode) (i : Int) (hl : n.Kids.length ≤ 1048576) (h : getI n.Kids i = some k) : slL n.Kids 0 (addI i 1) = some (n.Kids.take (i.toNat + 1)) := by
  obtain ⟨h0, h1⟩ := getI_lt h
  rw [addI_eq (by omega) (by omega), slL, if_pos ⟨by omega, by omega, by omega⟩]
  simp only [Int.toNat_zero, List.drop_zero]
  congr 2
  omega
def stepsOn : GNode → List Int → List GStp
  | n, [] => []
  | n, i :: p => match getI n.Kids i with
    | some k => stepOf n i k :: stepsOn k p
    | none => []
theorem stepsOn_len : ∀ (p : List Int) (n : GNode), (stepsOn n p).length ≤ p.length
  | [], n => Nat.le_refl _
  | i :: p, n => by
    rw [stepsOn]
    cases getI n.Kids i with
    | none => simp
    | some k => have := stepsOn_len p k; simp; omega
theorem stepsOn_sz : ∀ (p : List Int) (n : GNode), szs GStp.sz (stepsOn n p) ≤ p.length
  | [], n => Nat.le_refl _
  | i :: p, n => by
    rw [stepsOn]
    cases getI n.Kids i with
    | none => simp [szs]
    | some k =>
      have := stepsOn_sz p k
      have e : GStp.sz (stepOf n i k) = 1 := rfl
      simp only [szs_cons, e, List.length_cons]
      omega
def emS : ByteArray := ⟨#[]⟩
theorem SelFor_spec (path : List Int) (hl : path.length ≤ 8) : ∀ (rest pre : List Int) (n : GNode) (out : List GStp), pre ++ rest = path → (∃ x, nodeAt n rest = some x) → n.sz ≤ 1048576 → out.length = pre.length → spec_SelFor_l20 path pre.length out n = some (GSel.mk emS (out ++ stepsOn n rest), true)
  | [], pre, n, out, hp, hx, hs, ho => by rw [spec_SelFor_l20, end_at hp]; simp [stepsOn, emS]
  | i :: rest, pre, n, out, hp, hx, hs, ho => by
    obtain ⟨x, hx⟩ := hx
    obtain ⟨k, h1, h2⟩ := Option.bind_eq_some_iff.1 hx
    have hk := kids_len (n := n)
    have hlen : pre.length + 1 ≤ path.length := by rw [← hp]; simp
    rw [spec_SelFor_l20, more_at hp, getI_at hp, next_at hp (by rw [maxLen_eq]; omega)]
    have := SelFor_spec path hl rest (pre ++ [i]) k (out ++ [stepOf n i k]) (step_at hp) ⟨x, h2⟩ (Nat.le_trans (kid_sz h1) hs) (by simp [ho])
    simp only [if_true, some_bnd, step_ok n k i (by omega) h1, room_ok (show out.length + 1 ≤ 4000000 by omega) (show 0 < 72 by omega) (show 72 ≤ 1000 by omega), h1, this, stepsOn, List.append_assoc, List.singleton_append]
theorem SelFor_impl (path : List Int) (hl : path.length ≤ 8) : ∀ (rest pre : List Int) (n : GNode) (out : List GStp), pre ++ rest = path → (∃ x, nodeAt n rest = some x) → n.sz ≤ 1048576 → out.length = pre.length → impl_SelFor_l18 path pre.length n out = some (GSel.mk emS (out ++ stepsOn n rest), true)
  | [], pre, n, out, hp, hx, hs, ho => by rw [impl_SelFor_l18, end_at hp]; simp [stepsOn, emS]
  | i :: rest, pre, n, out, hp, hx, hs, ho => by
    obtain ⟨x, hx⟩ := hx
    obtain ⟨k, h1, h2⟩ := Option.bind_eq_some_iff.1 hx
    have hk := kids_len (n := n)
    have hlen : pre.length + 1 ≤ path.length := by rw [← hp]; simp
    rw [impl_SelFor_l18, more_at hp, getI_at hp, next_at hp (by rw [maxLen_eq]; omega)]
    have := SelFor_impl path hl rest (pre ++ [i]) k (out ++ [stepOf n i k]) (step_at hp) ⟨x, h2⟩ (Nat.le_trans (kid_sz h1) hs) (by simp [ho])
    simp only [if_true, some_bnd, h1, slice_ok n k i (by omega) h1, ofKind_ok k.Kind (n.Kids.take (i.toNat + 1)) (by simp; omega), stepKind_ok, room_ok (show out.length + 1 ≤ 4000000 by omega) (show 0 < 72 by omega) (show 72 ≤ 1000 by omega), stepsOn]
    simp only [stepOf, stK, List.append_assoc, List.singleton_append] at this ⊢
    exact this
theorem same_SelFor (n : GNode) (p : List Int) (lp : p.length ≤ 1048576) (hs : n.sz ≤ 1048576) : ∃ r : GSel × Bool, spec_SelFor n p = some r ∧ impl_SelFor n p = some r ∧ r.1.sz ≤ 1048576 := by
  have he : GSel.sz (GSel.mk (⟨#[]⟩) []) ≤ 1048576 := by decide
  have hin : spec_l1In (lenL p) 1 8 = some (decide (1 ≤ p.length ∧ p.length ≤ 8)) := by
    rw [spec_l1In]
    by_cases h1 : 1 ≤ p.length
    · by_cases h2 : p.length ≤ 8
      · rw [geI_t (by simp only [lenL]; omega), leI_t (by simp only [lenL]; omega)]; simp [h1, h2]
      · rw [geI_t (by simp only [lenL]; omega), leI_f (by simp only [lenL]; omega)]; simp [h2]
    · rw [geI_f (by simp only [lenL]; omega)]; simp [h1]
  have hin' : impl_in (lenL p) 1 8 = some (decide (1 ≤ p.length ∧ p.length ≤ 8)) := by
    rw [← hin, spec_l1In, impl_in]
  rw [spec_SelFor, impl_SelFor, nodeAt_spec n p hs lp, nodeAt_impl n p hs lp]
  cases h : nodeAt n p with
  | none => exact ⟨_, by simp only [nodeAtR, h, some_bnd]; rfl, by simp only [nodeAtR, h, some_bnd]; rfl, he⟩
  | some x =>
    by_cases hc : 1 ≤ p.length ∧ p.length ≤ 8
    · have h1 := SelFor_spec p hc.2 p [] n [] rfl ⟨x, h⟩ hs rfl
      have h2 := SelFor_impl p hc.2 p [] n [] rfl ⟨x, h⟩ hs rfl
      refine ⟨(GSel.mk emS ([] ++ stepsOn n p), true), ?_, ?_, ?_⟩
      · simp only [nodeAtR, h, some_bnd, if_true, hin, hc, and_self, decide_true]
        exact h1
      · simp only [nodeAtR, h, some_bnd, if_true, hin', hc, and_self, decide_true]
        exact h2
      · have e1 := stepsOn_len p n
        have e2 := stepsOn_sz p n
        have e3 : emS.size = 0 := rfl
        rw [GSel.sz_eq]
        simp only [List.nil_append, e3]
        omega
    · exact ⟨(GSel.mk (⟨#[]⟩) [], false), by simp [nodeAtR, h, some_bnd, hin, hc], by simp [nodeAtR, h, some_bnd, hin', hc], he⟩
end TT
