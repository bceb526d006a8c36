import Derived.Test.YticbpehiglfibaaDoorTP2Sign
set_option linter.unusedVariables false
set_option linter.unusedSimpArgs false
namespace TT
open Go

/-! ### Ranges -/
def isR (n : Int) (l : List (Int × Int)) : Bool := l.any fun p => decide (p.1 ≤ n ∧ n ≤ p.2)
def flat2 : List (Int × Int) → List Int
  | [] => []
  | p :: l => p.1 :: p.2 :: flat2 l
theorem flat2_len (l : List (Int × Int)) : (flat2 l).length = 2 * l.length := by
  induction l with
  | nil => rfl
  | cons p l ih => simp [flat2, ih]; omega
theorem ranges_spec (n : Int) (L : List Int) (hL : L.length ≤ 4000000) : ∀ (rest : List (Int × Int)) (pre : List Int), pre ++ flat2 rest = L → spec_l1Ranges_l6 n L pre.length = some (isR n rest)
  | [], pre, hp => by
    have hl : pre.length = L.length := by rw [← hp]; simp [flat2]
    rw [spec_l1Ranges_l6, addI_eq (by omega) (by omega), ltI_f (by simp only [lenL]; omega)]; rfl
  | p :: rest, pre, hp => by
    have hl : pre.length + 2 ≤ L.length := by rw [← hp]; simp [flat2]
    have e1 : getI L (pre.length : Int) = some p.1 := getI_at (rest := p.2 :: flat2 rest) hp
    have e2 : getI L ((pre.length : Int) + 1) = some p.2 := by
      have := getI_at (pre := pre ++ [p.1]) (rest := flat2 rest) (x := p.2) (l := L) (by rw [← hp]; simp [flat2])
      simpa using this
    have ih := ranges_spec n L hL rest (pre ++ [p.1, p.2]) (by rw [← hp]; simp [flat2])
    rw [spec_l1Ranges_l6, addI_eq (a := (pre.length : Int)) (b := 1) (by omega) (by omega), ltI_t (by simp only [lenL]; omega), addI_eq (a := (pre.length : Int)) (b := 2) (by omega) (by omega)]
    simp only [if_true, e1, e2, some_bnd, l1In_eq]
    have e3 : ((pre.length : Int) + 2) = (((pre ++ [p.1, p.2]).length : Nat) : Int) := by simp
    rw [e3, ih]
    simp only [isR, List.any_cons]
    cases decide (p.1 ≤ n ∧ n ≤ p.2) <;> simp
theorem ranges_impl (n : Int) (L : List GArr2Int) (hL : L.length ≤ 4000000) : ∀ (rest : List (Int × Int)) (pre : List GArr2Int), pre ++ rest.map (fun p => GArr2Int.mk p.1 p.2) = L → ∃ k, slices_IndexFunc_A2int_inAny_1_l6 L pre.length n = some (k, n) ∧ geI k 0 = isR n rest
  | [], pre, hp => by
    refine ⟨-1, ?_, rfl⟩
    rw [slices_IndexFunc_A2int_inAny_1_l6, end_at (by simpa using hp)]; rfl
  | p :: rest, pre, hp => by
    obtain ⟨k, h1, h2⟩ := ranges_impl n L hL rest (pre ++ [GArr2Int.mk p.1 p.2]) (by rw [← hp]; simp)
    have hp' : pre ++ GArr2Int.mk p.1 p.2 :: rest.map (fun p => GArr2Int.mk p.1 p.2) = L := by rw [← hp]; rfl
    rw [slices_IndexFunc_A2int_inAny_1_l6, more_at hp', getI_at hp', next_at hp' (by rw [maxLen_eq]; omega)]
    simp only [if_true, some_bnd, impl_inAny_1, in_eq, isR, List.any_cons]
    cases hd : decide (p.1 ≤ n ∧ n ≤ p.2) with
    | true => exact ⟨pre.length, by simp, by rw [geI_t (by omega)]; rfl⟩
    | false => exact ⟨k, by simpa using h1, by rw [h2]; rfl⟩
theorem inAny_eq (n : Int) (l : List (Int × Int)) (hl : l.length ≤ 1000) : impl_inAny n (l.map fun p => GArr2Int.mk p.1 p.2) = some (isR n l) := by
  obtain ⟨k, h1, h2⟩ := ranges_impl n _ (by simp; omega) l [] rfl
  rw [impl_inAny, slices_ContainsFunc_A2int_inAny_1, slices_IndexFunc_A2int_inAny_1]
  have h1' : slices_IndexFunc_A2int_inAny_1_l6 (l.map fun p => GArr2Int.mk p.1 p.2) 0 n = some (k, n) := h1
  rw [h1']
  simp only [some_bnd, h2]
theorem ranges_eq (n : Int) (l : List (Int × Int)) (hl : l.length ≤ 1000) : spec_l1Ranges n (flat2 l) = some (isR n l) := by
  rw [spec_l1Ranges]
  exact ranges_spec n _ (by rw [flat2_len]; omega) l [] rfl
def startL : List (Int × Int) := [(65, 90), (95, 95), (97, 122), (192, 214), (216, 246), (248, 767), (880, 893), (895, 8191), (8204, 8205), (8304, 8591), (11264, 12271), (12289, 55295), (63744, 64975), (65008, 65533), (65536, 983039)]
def partL : List (Int × Int) := [(45, 46), (48, 57), (183, 183), (768, 879), (8255, 8256)]
def signL : List (Int × Int) := [(9, 10), (13, 13), (32, 55295), (57344, 65533), (65536, 1114111)]
def startB (n : Int) : Bool := isR n startL
def partB (n : Int) : Bool := startB n || isR n partL
theorem start_spec (n : Int) : spec_IsStart n = some (startB n) := by
  have e := ranges_eq n startL (by decide)
  simp only [startL, flat2] at e
  rw [spec_IsStart, e]; rfl
theorem start_impl (n : Int) : impl_IsStart n = some (startB n) := by
  have e := inAny_eq n startL (by decide)
  simp only [startL, List.map_cons, List.map_nil] at e
  rw [impl_IsStart, e]; rfl
theorem part_spec (n : Int) : spec_IsPart n = some (partB n) := by
  have e := ranges_eq n partL (by decide)
  simp only [partL, flat2] at e
  rw [spec_IsPart, start_spec, e]
  simp only [some_bnd, partB]
  cases startB n <;> rfl
theorem part_impl (n : Int) : impl_IsPart n = some (partB n) := by
  have e := inAny_eq n partL (by decide)
  simp only [partL, List.map_cons, List.map_nil] at e
  rw [impl_IsPart, start_impl, e]
  simp only [some_bnd, partB]
  cases startB n <;> rfl
def signB (n : Int) : Bool := isR n signL
theorem sign_impl (n : Int) : impl_IsSign n = some (signB n) := by
  have e := inAny_eq n signL (by decide)
  simp only [signL, List.map_cons, List.map_nil] at e
  rw [impl_IsSign, e]; rfl
theorem sign_spec (n : Int) : spec_IsSign n = some (signB n) := by
  have hb : signB n = (decide (n = 9) || (decide (n = 10) || (decide (n = 13) || (decide (32 ≤ n ∧ n ≤ 55295) || (decide (57344 ≤ n ∧ n ≤ 65533) || decide (65536 ≤ n ∧ n ≤ 1114111)))))) := by
    rw [Bool.eq_iff_iff]
    simp [signB, isR, signL]
    omega
  have e (m : Int) : eqI n m = decide (n = m) := by
    by_cases h : n = m
    · rw [eqI_t h]; simp [h]
    · rw [eqI_f h]; simp [h]
  rw [spec_IsSign, hb]
  simp only [e, l1In_eq, some_bnd]
  cases decide (n = 9) <;> cases decide (n = 10) <;> cases decide (n = 13) <;> cases decide (32 ≤ n ∧ n ≤ 55295) <;> cases decide (57344 ≤ n ∧ n ≤ 65533) <;> simp

/-! ### Plain names -/
theorem sg_ok {s : ByteArray} {i : Nat} (h : i < s.size) : (sg s i).2.2 = true → ∃ k, (sg s i).2.1 = ((i + k : Nat) : Int) ∧ 1 ≤ k ∧ i + k ≤ s.size ∧ ((k = 1 ∧ (sg s i).1 = by' s i) ∨ ∀ j, i ≤ j → j < i + k → 128 ≤ by' s j) := by
  obtain ⟨b1, b2, b3⟩ := decode_bnd h
  unfold sg
  split
  · intro h; cases h
  · intro _
    refine ⟨(Utf8.decode s i).2, rfl, b2, b3, ?_⟩
    rename_i hne
    have h0 := by_lt s i
    simp only
    rw [Lib.decode_at] at hne ⊢
    simp only [show (s.get! i).toNat = by' s i from rfl, show (s.get! (i + 1)).toNat = by' s (i + 1) from rfl, show (s.get! (i + 2)).toNat = by' s (i + 2) from rfl, show (s.get! (i + 3)).toNat = by' s (i + 3) from rfl] at hne ⊢
    revert hne
    unfold Lib.decodeN
    by_cases c0 : by' s i < 128
    · simp only [if_pos c0]; intro _; left; simp
    · simp only [if_neg c0]
      have hj : ∀ j, j = i ∨ j = i + 1 ∨ j = i + 2 ∨ j = i + 3 → (j = i + 1 → 128 ≤ by' s (i + 1)) → (j = i + 2 → 128 ≤ by' s (i + 2)) → (j = i + 3 → 128 ≤ by' s (i + 3)) → 128 ≤ by' s j := by
        rintro j (rfl | rfl | rfl | rfl) a b c
        · omega
        · exact a rfl
        · exact b rfl
        · exact c rfl
      repeat' split
      all_goals intro hne
      all_goals first
        | (exfalso; exact hne ⟨rfl, Nat.le_refl _⟩)
        | (refine .inr fun j h1 h2 => hj j (by omega) (fun _ => by omega) (fun _ => by omega) (fun _ => by omega))
def lenB (s : ByteArray) : Bool := decide ((1 : Int) ≤ lenS s ∧ lenS s ≤ 16)
theorem plain_loop (s : ByteArray) (hs : s.size ≤ 4000000) : ∀ (m i : Nat), i ≤ s.size → s.size - i ≤ m → ∃ b, spec_PlainOk_l14 s i = some b ∧ impl_PlainOk_l6 s i = some (b && lenB s) ∧ (b = true → ∀ j, i ≤ j → j < s.size → by' s j ≠ 58)
  | 0, i, h, hm => ⟨true, by rw [spec_PlainOk_l14, ltI_f (by simp only [lenS]; omega)]; rfl, by rw [impl_PlainOk_l6, ltI_f (by simp only [lenS]; omega), in_eq]; rfl, fun _ j h1 h2 => by omega⟩
  | m + 1, i, h, hm => by
    by_cases hi : i < s.size
    · rw [spec_PlainOk_l14, impl_PlainOk_l6, ltI_t (by simp only [lenS]; omega), sg_spec hi hs, sg_impl hi hs]
      simp only [if_true, some_bnd, start_spec, start_impl, part_spec, part_impl]
      cases hok : (sg s i).2.2 with
      | false => exact ⟨false, by simp, by simp, by simp⟩
      | true =>
        obtain ⟨k, e1, e2, e3, e4⟩ := sg_ok hi hok
        obtain ⟨b, f1, f2, f3⟩ := plain_loop s hs m (i + k) e3 (by omega)
        rw [e1]
        simp only [if_true, f1, f2]
        by_cases hp : partB (sg s i).1 = true
        · have hc : b = true → ∀ j, i ≤ j → j < s.size → by' s j ≠ 58 := fun hb j h1 h2 h3 => by
            by_cases hj : j < i + k
            · rcases e4 with ⟨r1, r2⟩ | r
              · have : j = i := by omega
                subst this
                rw [r2, h3] at hp
                revert hp; decide
              · have := r j h1 hj; omega
            · exact f3 hb j (by omega) h2 h3
          by_cases h0 : eqI (i : Int) 0 = true
          · by_cases hst : startB (sg s i).1 = true
            · exact ⟨b, by simp [h0, hst, hp], by simp [h0, hst, hp], hc⟩
            · exact ⟨false, by simp [h0, hst], by simp [h0, hst], by simp⟩
          · exact ⟨b, by simp [h0, hp], by simp [h0, hp], hc⟩
        · refine ⟨false, ?_, ?_, by simp⟩
          · by_cases h0 : eqI (i : Int) 0 = true <;> by_cases hst : startB (sg s i).1 = true <;> simp [h0, hst, hp]
          · by_cases h0 : eqI (i : Int) 0 = true <;> by_cases hst : startB (sg s i).1 = true <;> simp [h0, hst, hp]
    · exact ⟨true, by rw [spec_PlainOk_l14, ltI_f (by simp only [lenS]; omega)]; rfl, by rw [impl_PlainOk_l6, ltI_f (by simp only [lenS]; omega), in_eq]; rfl, fun _ j h1 h2 => by omega⟩
def plainB (s : ByteArray) : Bool := (spec_PlainOk s).getD false
theorem plain_all (s : ByteArray) (hs : s.size ≤ 4000000) : spec_PlainOk s = some (plainB s) ∧ impl_PlainOk s = some (plainB s) ∧ (plainB s = true → 1 ≤ s.size ∧ ∀ j, j < s.size → by' s j ≠ 58) := by
  obtain ⟨b, h1, h2, h3⟩ := plain_loop s hs s.size 0 (Nat.zero_le _) (by omega)
  have e1 : spec_PlainOk s = some (b && lenB s) := by
    rw [spec_PlainOk, l1In_eq]
    simp only [some_bnd]
    have h1' : spec_PlainOk_l14 s 0 = some b := h1
    have : lenB s = decide ((1 : Int) ≤ lenS s ∧ lenS s ≤ 16) := rfl
    rw [← this, h1']
    cases lenB s <;> cases b <;> rfl
  have e2 : plainB s = (b && lenB s) := by rw [plainB, e1]; rfl
  refine ⟨by rw [e1, e2], by rw [impl_PlainOk, e2]; exact h2, fun h => ?_⟩
  rw [e2, Bool.and_eq_true] at h
  refine ⟨?_, fun j hj => h3 h.1 j (Nat.zero_le _) hj⟩
  obtain ⟨t1, _⟩ := of_decide_eq_true h.2
  simp only [lenS] at t1
  omega

/-! ### Texts -/
theorem signs_loop (s : ByteArray) (hs : s.size ≤ 1500) : ∀ (m i : Nat), i ≤ s.size → s.size - i ≤ m → ∃ b, spec_l1Signs_l6 s i = some b ∧ impl_signsOk_l6 s i = some b
  | 0, i, h, hm => ⟨true, by rw [spec_l1Signs_l6, ltI_f (by simp only [lenS]; omega), leI_t (by simp only [lenS]; omega)]; rfl, by rw [impl_signsOk_l6, ltI_f (by simp only [lenS]; omega)]; rfl⟩
  | m + 1, i, h, hm => by
    by_cases hi : i < s.size
    · rw [spec_l1Signs_l6, impl_signsOk_l6, ltI_t (by simp only [lenS]; omega), sg_spec hi (by omega), sg_impl hi (by omega)]
      simp only [if_true, some_bnd, sign_spec, sign_impl]
      cases hok : (sg s i).2.2 with
      | false => exact ⟨false, by simp, by simp⟩
      | true =>
        obtain ⟨k, e1, e2, e3, e4⟩ := sg_ok hi hok
        obtain ⟨b, f1, f2⟩ := signs_loop s hs m (i + k) e3 (by omega)
        rw [e1]
        simp only [if_true, f1, f2]
        cases signB (sg s i).1
        · exact ⟨false, by simp, by simp⟩
        · exact ⟨b, by simp, by simp⟩
    · exact ⟨true, by rw [spec_l1Signs_l6, ltI_f (by simp only [lenS]; omega), leI_t (by simp only [lenS]; omega)]; rfl, by rw [impl_signsOk_l6, ltI_f (by simp only [lenS]; omega)]; rfl⟩
theorem text_all (s : ByteArray) (hs : s.size ≤ 4000000) : ∃ b, spec_TextOk s = some b ∧ impl_TextOk s = some b := by
  rw [spec_TextOk, impl_TextOk]
  by_cases h : s.size ≤ 600
  · obtain ⟨b, h1, h2⟩ := signs_loop s (by omega) s.size 0 (Nat.zero_le _) (by omega)
    have h1' : spec_l1Signs s = some b := by rw [spec_l1Signs]; exact h1
    have h2' : impl_signsOk s = some b := by rw [impl_signsOk]; exact h2
    rw [leI_t (by simp only [lenS]; omega)]
    exact ⟨b, by simp [h1', some_bnd], by simp [h2', some_bnd]⟩
  · rw [leI_f (by simp only [lenS]; omega)]
    exact ⟨false, rfl, rfl⟩
theorem has_loop (s : ByteArray) (c : UInt8) (hs : s.size ≤ 4000000) : ∀ (m i : Nat), i ≤ s.size → s.size - i ≤ m → spec_l5Has_l6 s ⟨#[c]⟩ i = some ((s.data.toList.drop i).contains c)
  | 0, i, h, hm => by
    have h1 : lenS (⟨#[c]⟩ : ByteArray) = 1 := rfl
    rw [spec_l5Has_l6, h1, addI_eq (by omega) (by omega), leI_f (by simp only [lenS]; omega)]
    have : s.data.toList.drop i = [] := List.drop_eq_nil_of_le (by have : s.data.toList.length = s.size := Array.length_toList; omega)
    rw [this]; rfl
  | m + 1, i, h, hm => by
    have h1 : lenS (⟨#[c]⟩ : ByteArray) = 1 := rfl
    have hlen : s.data.toList.length = s.size := Array.length_toList
    by_cases hi : i < s.size
    · have ih := has_loop s c hs m (i + 1) (by omega) (by omega)
      have hd : s.data.toList.drop i = s.data.toList[i]'(by omega) :: s.data.toList.drop (i + 1) := List.drop_eq_getElem_cons (by omega)
      have hsub : subS s i ((i : Int) + 1) = some (s.extract i (i + 1)) := by
        unfold subS
        rw [if_pos ⟨by omega, by omega, by omega⟩]
        congr 1
      have hex : (s.extract i (i + 1)).toList = [s.data.toList[i]'(by omega)] := by
        rw [Lib.toList_data, Lib.extract_data, hd]
        simp
      rw [spec_l5Has_l6, h1, addI_eq (by omega) (by omega), leI_t (by simp only [lenS]; omega)]
      simp only [if_true, hsub, some_bnd, eqS, hex]
      have h2 : (⟨#[c]⟩ : ByteArray).toList = [c] := by rw [Lib.toList_data]
      rw [h2, hd, List.contains_cons]
      have e : (((i : Int) + 1)) = ((i + 1 : Nat) : Int) := by omega
      rw [e, ih]
      by_cases hc : s.data.toList[i]'(by omega) = c
      · have a : ([s.data.toList[i]'(by omega)] == [c]) = true := by rw [hc]; exact beq_self_eq_true _
        have b : (c == s.data.toList[i]'(by omega)) = true := by rw [hc]; exact beq_self_eq_true _
        rw [if_pos a, b]; rfl
      · have a : ([s.data.toList[i]'(by omega)] == [c]) = false := by
          rw [Bool.eq_false_iff]
          intro h
          have h' := eq_of_beq h
          exact hc (List.cons.inj h').1
        have b : (c == s.data.toList[i]'(by omega)) = false := by
          rw [Bool.eq_false_iff]
          intro h
          exact hc (eq_of_beq h).symm
        rw [a, b]; rfl
    · rw [spec_l5Has_l6, h1, addI_eq (by omega) (by omega), leI_f (by simp only [lenS]; omega)]
      have : s.data.toList.drop i = [] := List.drop_eq_nil_of_le (by omega)
      rw [this]; rfl
theorem has_spec (s : ByteArray) (c : UInt8) (hs : s.size ≤ 4000000) : spec_l5Has s ⟨#[c]⟩ = some (s.data.toList.contains c) := by
  rw [spec_l5Has]
  have := has_loop s c hs s.size 0 (Nat.zero_le _) (by omega)
  simpa using this
theorem has_impl (s : ByteArray) (c : UInt8) : strings_Contains s ⟨#[c]⟩ = some (s.data.toList.contains c) := by
  have h1 : (⟨#[c]⟩ : ByteArray).size = 1 := rfl
  rw [strings_Contains, if_pos h1, holds1, Lib.contains_iff_indexByte]
  rfl
theorem val_all (s : ByteArray) (hs : s.size ≤ 4000000) : ∃ b, spec_l11Val s = some b ∧ impl_valOk s = some b := by
  obtain ⟨b, h1, h2⟩ := text_all s hs
  rw [spec_l11Val, impl_valOk, h1, h2, has_spec s 39 hs, has_spec s 34 hs, has_impl, has_impl]
  simp only [some_bnd]
  cases b with
  | false => exact ⟨false, rfl, rfl⟩
  | true =>
    cases s.data.toList.contains 39 with
    | false => exact ⟨true, rfl, rfl⟩
    | true => exact ⟨!(s.data.toList.contains 34), rfl, rfl⟩
end TT
