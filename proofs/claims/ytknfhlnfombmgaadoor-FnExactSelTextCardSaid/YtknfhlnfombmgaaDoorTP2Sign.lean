import Derived.Test.YtknfhlnfombmgaaDoorTP0
import Derived.Test.YtknfhlnfombmgaaDoorTDefs
import Derived.Lib.IndexAny
import Derived.Test.YtknfhlnfombmgaaDoorTP1
set_option linter.unusedVariables false
set_option linter.unusedSimpArgs false
namespace TT
open Go

/-! ### Signs -/
theorem ext_get (s : ByteArray) (i k : Nat) : (s.extract i s.size).get! k = s.get! (i + k) := by
  have e : (s.extract i s.size).data = s.data.extract i s.data.size := by
    first | rfl | simp
  show (s.extract i s.size).data[k]! = s.data[i + k]!
  rw [e]
  simp only [getElem!_def]
  rw [Array.getElem?_extract]
  have hz : s.size = s.data.size := rfl
  by_cases h : k < s.data.size - i
  · rw [if_pos (by omega)]
  · have : s.data[i + k]? = none := Array.getElem?_eq_none (by omega)
    rw [if_neg (by omega), this]
theorem decodeGo_ext (s : ByteArray) (i : Nat) (h : i < s.size) : Lib.decodeGo (s.extract i s.size) = Utf8.decode s i := by
  have hz : (s.extract i s.size).size = s.size - i := by simp
  unfold Lib.decodeGo
  rw [if_neg (by omega), Lib.decode_at, Lib.decode_at, hz]
  simp only [ext_get, Nat.sub_zero, Nat.add_zero, Nat.zero_add]
def by' (s : ByteArray) (i : Nat) : Nat := (s.get! i).toNat
theorem by_lt (s : ByteArray) (i : Nat) : by' s i < 256 := (s.get! i).toNat_lt
theorem atS_by {s : ByteArray} {i : Int} {k : Nat} (hi : i = k) (h : k < s.size) : atS s i = some ((by' s k : Nat) : Int) := by
  subst hi
  unfold atS
  rw [dif_pos ⟨by omega, by simpa using h⟩]
  have h' : k < s.data.size := h
  have e : s.get! k = s[k]'h := by
    show s.data[k]! = s.data[k]
    rw [getElem!_pos s.data k h']
  simp only [by', e, Int.toNat_natCast]
theorem and31 {x : Nat} (h : x < 256) : andK .i64 (x : Int) 31 = ((x % 32 : Nat) : Int) := (show ∀ n : Fin 256, andK .i64 ((n.val : Nat) : Int) 31 = ((n.val % 32 : Nat) : Int) by decide +kernel) ⟨x, h⟩
theorem and15 {x : Nat} (h : x < 256) : andK .i64 (x : Int) 15 = ((x % 16 : Nat) : Int) := (show ∀ n : Fin 256, andK .i64 ((n.val : Nat) : Int) 15 = ((n.val % 16 : Nat) : Int) by decide +kernel) ⟨x, h⟩
theorem and7 {x : Nat} (h : x < 256) : andK .i64 (x : Int) 7 = ((x % 8 : Nat) : Int) := (show ∀ n : Fin 256, andK .i64 ((n.val : Nat) : Int) 7 = ((n.val % 8 : Nat) : Int) by decide +kernel) ⟨x, h⟩
theorem wr_eq {x : Int} (h1 : -9223372036854775808 ≤ x) (h2 : x < 9223372036854775808) : wr .i64 x = x := wrap_eq h1 h2
/-- A sign, and where the next one begins. -/
def sg (s : ByteArray) (i : Nat) : Int × Int × Bool :=
  if (Utf8.decode s i).1 = 65533 ∧ (Utf8.decode s i).2 ≤ 1 then (0, 0, false) else (((Utf8.decode s i).1 : Nat), ((i + (Utf8.decode s i).2 : Nat) : Int), true)
theorem decodeN_bnd {n b0 b1 b2 b3 : Nat} (hn : 1 ≤ n) (h0 : b0 < 256) : (Lib.decodeN n b0 b1 b2 b3).1 ≤ 1114111 ∧ 1 ≤ (Lib.decodeN n b0 b1 b2 b3).2 ∧ (Lib.decodeN n b0 b1 b2 b3).2 ≤ n := by
  unfold Lib.decodeN
  repeat' split
  all_goals simp only
  all_goals omega
theorem decode_bnd {s : ByteArray} {i : Nat} (h : i < s.size) : (Utf8.decode s i).1 ≤ 1114111 ∧ 1 ≤ (Utf8.decode s i).2 ∧ i + (Utf8.decode s i).2 ≤ s.size := by
  rw [Lib.decode_at]
  have := decodeN_bnd (n := s.size - i) (b0 := (s.get! i).toNat) (b1 := (s.get! (i + 1)).toNat) (b2 := (s.get! (i + 2)).toNat) (b3 := (s.get! (i + 3)).toNat) (by omega) (by_lt s i)
  omega
theorem sg_impl {s : ByteArray} {i : Nat} (h : i < s.size) (hs : s.size ≤ 4000000) : impl_SignAt s i = some (sg s i) := by
  obtain ⟨b1, b2, b3⟩ := decode_bnd h
  have e1 : impl_in (i : Int) 0 (subI (lenS s) 1) = some true := by
    rw [impl_in, geI_t (by omega), subI_eq (by simp only [lenS]; omega) (by simp only [lenS]; omega), leI_t (by simp only [lenS]; omega)]; rfl
  have e2 : subS s i (lenS s) = some (s.extract i s.size) := by
    unfold subS lenS
    rw [if_pos ⟨by omega, by omega, by omega⟩]
    simp
  have e3 : decodeI (s.extract i s.size) = ((((Utf8.decode s i).1 : Nat) : Int), (((Utf8.decode s i).2 : Nat) : Int)) := by
    rw [decodeI, decodeGo_ext s i h]
  rw [impl_SignAt, e1]
  simp only [some_bnd, if_true, e2, unicode_utf8_DecodeRuneInString, e3]
  rw [wr_eq (by omega) (by omega), addI_eq (by omega) (by omega)]
  unfold sg
  by_cases c1 : (Utf8.decode s i).1 = 65533
  · rw [eqI_t (by omega)]
    by_cases c2 : (Utf8.decode s i).2 ≤ 1
    · rw [leI_t (by omega)]; simp only [if_true, Bool.false_eq_true, if_false]; rw [if_pos ⟨c1, c2⟩]
    · rw [leI_f (by omega)]; simp only [if_true, Bool.false_eq_true, if_false]; rw [if_neg (fun h => c2 h.2)]
      simp
  · rw [eqI_f (by omega)]; simp only [if_true, Bool.false_eq_true, if_false]; rw [if_neg (fun h => c1 h.1)]
    simp
/-- What the other one reckons, in numbers. -/
def sgN (n b0 b1 b2 b3 i : Nat) : Int × Int × Bool :=
  if (Lib.decodeN n b0 b1 b2 b3).1 = 65533 ∧ (Lib.decodeN n b0 b1 b2 b3).2 ≤ 1 then (0, 0, false) else (((Lib.decodeN n b0 b1 b2 b3).1 : Nat), ((i + (Lib.decodeN n b0 b1 b2 b3).2 : Nat) : Int), true)
theorem sg_N (s : ByteArray) (i : Nat) : sg s i = sgN (s.size - i) (by' s i) (by' s (i + 1)) (by' s (i + 2)) (by' s (i + 3)) i := by
  unfold sg sgN by'
  rw [Lib.decode_at]
theorem l1In_eq (a lo hi : Int) : spec_l1In a lo hi = some (decide (lo ≤ a ∧ a ≤ hi)) := by
  rw [spec_l1In]
  by_cases h : lo ≤ a
  · rw [geI_t h]
    by_cases h2 : a ≤ hi
    · rw [leI_t h2]; simp [h, h2]
    · rw [leI_f h2]; simp [h2]
  · rw [geI_f h]; simp [h]
theorem in_eq (a lo hi : Int) : impl_in a lo hi = some (decide (lo ≤ a ∧ a ≤ hi)) := by
  rw [← l1In_eq, impl_in, spec_l1In]
section
variable {s : ByteArray} {i : Nat}
/-- Behind the bytes. -/
def fin5 (i n least v : Nat) : Int × Int × Bool := if v < least ∨ v > 1114111 ∨ (55296 ≤ v ∧ v ≤ 57343) then (0, 0, false) else ((v : Nat), ((i + 1 + n : Nat) : Int), true)
theorem l55_end (hs : s.size ≤ 4000000) (h : i < s.size) {n least v k : Nat} (hn : n ≤ 3) (hk : k = n + 1) (hv : v < 100000000) : spec_SignAt_l55 s i n least v k = some (fin5 i n least v) := by
  rw [spec_SignAt_l55, leI_f (by omega)]
  simp only [Bool.false_eq_true, if_false, l1In_eq, some_bnd]
  unfold fin5
  by_cases c1 : v < least
  · rw [ltI_t (by omega)]; simp only [if_true, Bool.false_eq_true, if_false]; rw [if_pos (.inl c1)]
  · rw [ltI_f (by omega)]
    by_cases c2 : v > 1114111
    · rw [gtI_t (by omega)]; simp only [if_true, Bool.false_eq_true, if_false]; rw [if_pos (.inr (.inl c2))]
    · rw [gtI_f (by omega)]
      simp only [Bool.false_eq_true, if_false]
      by_cases c3 : 55296 ≤ v ∧ v ≤ 57343
      · have : decide ((55296 : Int) ≤ (v : Int) ∧ (v : Int) ≤ 57343) = true := by simp; omega
        rw [this, if_pos (show v < least ∨ v > 1114111 ∨ (55296 ≤ v ∧ v ≤ 57343) from .inr (.inr c3))]; rfl
      · have : decide ((55296 : Int) ≤ (v : Int) ∧ (v : Int) ≤ 57343) = false := by simp; omega
        rw [this, addI_eq (a := (i : Int)) (b := 1) (by omega) (by omega), addI_eq (a := (i : Int) + 1) (b := (n : Int)) (by omega) (by omega), if_neg (show ¬(v < least ∨ v > 1114111 ∨ (55296 ≤ v ∧ v ≤ 57343)) by omega)]
        simp only [Bool.false_eq_true, if_false]
        congr 3
theorem l55_step (hs : s.size ≤ 4000000) {n least v k : Nat} (hk : k ≤ n) (hn : n ≤ 3) (h : i + k < s.size) (hv : v < 1000000) :
    spec_SignAt_l55 s i n least v k = if by' s (i + k) < 128 ∨ 191 < by' s (i + k) then some (0, 0, false) else spec_SignAt_l55 s i n least ((v * 64 + by' s (i + k) - 128 : Nat) : Int) ((k + 1 : Nat) : Int) := by
  have hb := by_lt s (i + k)
  have ea : addI (i : Int) (k : Int) = ((i + k : Nat) : Int) := by rw [addI_eq (by omega) (by omega)]; omega
  rw [spec_SignAt_l55, leI_t (by omega), ea, atS_by rfl h]
  simp only [if_true, some_bnd]
  rw [wr_eq (by omega) (by omega)]
  by_cases c1 : by' s (i + k) < 128
  · rw [ltI_t (by omega)]; simp only [if_true, Bool.false_eq_true, if_false]; rw [if_pos (.inl c1)]
  · rw [ltI_f (by omega)]
    by_cases c2 : 191 < by' s (i + k)
    · rw [gtI_t (by omega)]; simp only [if_true, Bool.false_eq_true, if_false]; rw [if_pos (.inr c2)]
    · rw [gtI_f (by omega)]; simp only [if_true, Bool.false_eq_true, if_false]; rw [if_neg (by omega)]
      have em : mulI (v : Int) 64 = ((v * 64 : Nat) : Int) := by
        show IntKind.i64.wrap _ = _
        rw [wrap_eq (by omega) (by omega)]; omega
      rw [em, addI_eq (by omega) (by omega), subI_eq (by omega) (by omega), addI_eq (by omega) (by omega)]
      congr 1
      omega
theorem j26_eq (hs : s.size ≤ 4000000) (h : i < s.size) (n least v : Nat) (hn : 1 ≤ n ∧ n ≤ 3) : spec_SignAt_j26 s i n least v = if i + n < s.size then spec_SignAt_l55 s i n least v ((1 : Nat) : Int) else some (0, 0, false) := by
  rw [spec_SignAt_j26, subI_eq (a := lenS s) (b := 1) (by simp only [lenS]; omega) (by simp only [lenS]; omega), subI_eq (a := lenS s - 1) (b := (n : Int)) (by simp only [lenS]; omega) (by simp only [lenS]; omega)]
  by_cases c : i + n < s.size
  · rw [gtI_f (by simp only [lenS]; omega)]; simp only [if_true, Bool.false_eq_true, if_false]; rw [if_pos c]; rfl
  · rw [gtI_t (by simp only [lenS]; omega)]; simp only [if_true, Bool.false_eq_true, if_false]; rw [if_neg c]
end
/-- The same, as the other one reckons. -/
def specN (n b0 b1 b2 b3 i : Nat) : Int × Int × Bool :=
  if b0 < 128 then ((b0 : Nat), ((i + 1 : Nat) : Int), true)
  else if b0 < 192 then (0, 0, false)
  else if b0 < 224 then (if 1 < n then (if b1 < 128 ∨ 191 < b1 then (0, 0, false) else fin5 i 1 128 (b0 % 32 * 64 + b1 - 128)) else (0, 0, false))
  else if b0 < 240 then (if 2 < n then (if b1 < 128 ∨ 191 < b1 then (0, 0, false) else if b2 < 128 ∨ 191 < b2 then (0, 0, false) else fin5 i 2 2048 ((b0 % 16 * 64 + b1 - 128) * 64 + b2 - 128)) else (0, 0, false))
  else if b0 < 248 then (if 3 < n then (if b1 < 128 ∨ 191 < b1 then (0, 0, false) else if b2 < 128 ∨ 191 < b2 then (0, 0, false) else if b3 < 128 ∨ 191 < b3 then (0, 0, false) else fin5 i 3 65536 (((b0 % 8 * 64 + b1 - 128) * 64 + b2 - 128) * 64 + b3 - 128)) else (0, 0, false))
  else (0, 0, false)
set_option maxRecDepth 100000 in
set_option maxHeartbeats 2000000 in
theorem specN_eq (n b0 b1 b2 b3 i : Nat) (hn : 1 ≤ n) (h0 : b0 < 256) (h1 : b1 < 256) (h2 : b2 < 256) (h3 : b3 < 256) : specN n b0 b1 b2 b3 i = sgN n b0 b1 b2 b3 i := by
  unfold specN sgN Lib.decodeN
  by_cases c0 : b0 < 128
  · simp only [if_pos c0]
    rw [if_neg (by omega)]
  · simp only [if_neg c0]
    by_cases c1 : b0 < 192
    · rw [if_pos c1]
      repeat' split
      all_goals first | rfl | (exfalso; omega)
    · rw [if_neg c1]
      by_cases c2 : b0 < 224
      · rw [if_pos c2]
        have e : b0 % 32 * 64 + b1 % 64 = b0 % 32 * 64 + b1 % 64 := rfl
        unfold fin5
        repeat' split
        all_goals first | rfl | (exfalso; omega) | (refine Prod.ext ?_ (Prod.ext ?_ rfl) <;> simp only <;> omega)
      · rw [if_neg c2]
        by_cases c3 : b0 < 240
        · rw [if_pos c3]
          unfold fin5
          repeat' split
          all_goals first | rfl | (exfalso; omega) | (refine Prod.ext ?_ (Prod.ext ?_ rfl) <;> simp only <;> omega)
        · rw [if_neg c3]
          unfold fin5
          repeat' split
          all_goals first | rfl | (exfalso; omega) | (refine Prod.ext ?_ (Prod.ext ?_ rfl) <;> simp only <;> omega)
theorem sg_spec {s : ByteArray} {i : Nat} (h : i < s.size) (hs : s.size ≤ 4000000) : spec_SignAt s i = some (sg s i) := by
  have h0 := by_lt s i
  have h1 := by_lt s (i + 1)
  have h2 := by_lt s (i + 2)
  have h3 := by_lt s (i + 3)
  rw [sg_N, ← specN_eq _ _ _ _ _ _ (by omega) h0 h1 h2 h3]
  have hx : wr .i64 ((by' s i : Nat) : Int) = ((by' s i : Nat) : Int) := wr_eq (by omega) (by omega)
  have n1 : (1 < s.size - i) = (i + 1 < s.size) := propext ⟨fun h => by omega, fun h => by omega⟩
  have n2 : (2 < s.size - i) = (i + 2 < s.size) := propext ⟨fun h => by omega, fun h => by omega⟩
  have n3 : (3 < s.size - i) = (i + 3 < s.size) := propext ⟨fun h => by omega, fun h => by omega⟩
  unfold specN
  simp only [n1, n2, n3]
  rw [spec_SignAt, ltI_f (by omega), geI_f (by simp only [lenS]; omega), atS_by rfl h]
  simp only [Bool.false_eq_true, if_false, some_bnd, hx]
  rw [addI_eq (by omega) (by omega)]
  generalize hb0 : by' s i = b0 at *
  by_cases c0 : b0 < 128
  · rw [ltI_t (by omega), if_pos c0]; rfl
  · rw [ltI_f (by omega), if_neg c0]
    simp only [Bool.false_eq_true, if_false]
    by_cases c1 : b0 < 192
    · rw [geI_f (by omega), if_pos c1]
      simp only [Bool.false_eq_true, if_false, spec_SignAt_j28, spec_SignAt_j32, hx]
      rw [geI_f (by omega), geI_f (by omega)]
      rfl
    · rw [geI_t (by omega), if_neg c1]
      simp only [if_true, spec_SignAt_j28]
      by_cases c2 : b0 < 224
      · rw [ltI_t (by omega), if_pos c2]
        simp only [if_true, hx, and31 h0]
        refine Eq.trans (j26_eq hs h 1 128 (b0 % 32) (by omega)) ?_
        by_cases d1 : i + 1 < s.size
        · rw [if_pos d1, if_pos d1, l55_step hs (by omega) (by omega) d1 (by omega)]
          split
          · rfl
          · exact l55_end hs h (by omega) (by omega) (by omega)
        · rw [if_neg d1, if_neg d1]
      · rw [ltI_f (by omega), if_neg c2]
        simp only [Bool.false_eq_true, if_false, hx]
        rw [geI_t (by omega)]
        simp only [if_true, spec_SignAt_j32]
        by_cases c3 : b0 < 240
        · rw [ltI_t (by omega), if_pos c3]
          simp only [if_true, hx, and15 h0]
          refine Eq.trans (j26_eq hs h 2 2048 (b0 % 16) (by omega)) ?_
          by_cases d1 : i + 2 < s.size
          · rw [if_pos d1, if_pos d1, l55_step hs (by omega) (by omega) (by omega) (by omega)]
            split
            · rfl
            · rw [l55_step hs (by omega) (by omega) d1 (by omega)]
              split
              · rfl
              · exact l55_end hs h (by omega) (by omega) (by omega)
          · rw [if_neg d1, if_neg d1]
        · rw [ltI_f (by omega), if_neg c3]
          simp only [Bool.false_eq_true, if_false, hx]
          rw [geI_t (by omega)]
          simp only [if_true]
          by_cases c4 : b0 < 248
          · rw [ltI_t (by omega), if_pos c4]
            simp only [if_true, and7 h0]
            refine Eq.trans (j26_eq hs h 3 65536 (b0 % 8) (by omega)) ?_
            by_cases d1 : i + 3 < s.size
            · rw [if_pos d1, if_pos d1, l55_step hs (by omega) (by omega) (by omega) (by omega)]
              split
              · rfl
              · rw [l55_step hs (by omega) (by omega) (by omega) (by omega)]
                split
                · rfl
                · rw [l55_step hs (by omega) (by omega) d1 (by omega)]
                  split
                  · rfl
                  · exact l55_end hs h (by omega) (by omega) (by omega)
            · rw [if_neg d1, if_neg d1]
          · rw [ltI_f (by omega), if_neg c4]; rfl
end TT
set_option linter.unusedVariables false
set_option linter.unusedSimpArgs false
namespace TT
open Go

/-! ### Ranges -/
def isR (n : Int) (l : List (Int × Int)) : Bool := l.any fun p => decide (p.1 ≤ n ∧ n ≤ p.2)
def flat2 : List (Int × Int) → List Int
  | [] => []
  | p :: l => p.1 :: p.2 :: flat2 l
theorem flat2_len (l : List (Int × Int)) : (flat2 l).length = 2 * l.length := by
  induction l with
  | nil => rfl
  | cons p l ih => simp [flat2, ih]; omega
theorem ranges_spec (n : Int) (L : List Int) (hL : L.length ≤ 4000000) : ∀ (rest : List (Int × Int)) (pre : List Int), pre ++ flat2 rest = L → spec_l1Ranges_l6 n L pre.length = some (isR n rest)
  | [], pre, hp => by
    have hl : pre.length = L.length := by rw [← hp]; simp [flat2]
    rw [spec_l1Ranges_l6, addI_eq (by omega) (by omega), ltI_f (by simp only [lenL]; omega)]; rfl
  | p :: rest, pre, hp => by
    have hl : pre.length + 2 ≤ L.length := by rw [← hp]; simp [flat2]
    have e1 : getI L (pre.length : Int) = some p.1 := getI_at (rest := p.2 :: flat2 rest) hp
    have e2 : getI L ((pre.length : Int) + 1) = some p.2 := by
      have := getI_at (pre := pre ++ [p.1]) (rest := flat2 rest) (x := p.2) (l := L) (by rw [← hp]; simp [flat2])
      simpa using this
    have ih := ranges_spec n L hL rest (pre ++ [p.1, p.2]) (by rw [← hp]; simp [flat2])
    rw [spec_l1Ranges_l6, addI_eq (a := (pre.length : Int)) (b := 1) (by omega) (by omega), ltI_t (by simp only [lenL]; omega), addI_eq (a := (pre.length : Int)) (b := 2) (by omega) (by omega)]
    simp only [if_true, e1, e2, some_bnd, l1In_eq]
    have e3 : ((pre.length : Int) + 2) = (((pre ++ [p.1, p.2]).length : Nat) : Int) := by simp
    rw [e3, ih]
    simp only [isR, List.any_cons]
    cases decide (p.1 ≤ n ∧ n ≤ p.2) <;> simp
theorem ranges_impl (n : Int) (L : List GArr2Int) (hL : L.length ≤ 4000000) : ∀ (rest : List (Int × Int)) (pre : List GArr2Int), pre ++ rest.map (fun p => GArr2Int.mk p.1 p.2) = L → ∃ k, slices_IndexFunc_A2int_inAny_1_l6 L pre.length n = some (k, n) ∧ geI k 0 = isR n rest
  | [], pre, hp => by
    refine ⟨-1, ?_, rfl⟩
    rw [slices_IndexFunc_A2int_inAny_1_l6, end_at (by simpa using hp)]; rfl
  | p :: rest, pre, hp => by
    obtain ⟨k, h1, h2⟩ := ranges_impl n L hL rest (pre ++ [GArr2Int.mk p.1 p.2]) (by rw [← hp]; simp)
    have hp' : pre ++ GArr2Int.mk p.1 p.2 :: rest.map (fun p => GArr2Int.mk p.1 p.2) = L := by rw [← hp]; rfl
    rw [slices_IndexFunc_A2int_inAny_1_l6, more_at hp', getI_at hp', next_at hp' (by rw [maxLen_eq]; omega)]
    simp only [if_true, some_bnd, impl_inAny_1, in_eq, isR, List.any_cons]
    cases hd : decide (p.1 ≤ n ∧ n ≤ p.2) with
    | true => exact ⟨pre.length, by simp, by rw [geI_t (by omega)]; rfl⟩
    | false => exact ⟨k, by simpa using h1, by rw [h2]; rfl⟩
theorem inAny_eq (n : Int) (l : List (Int × Int)) (hl : l.length ≤ 1000) : impl_inAny n (l.map fun p => GArr2Int.mk p.1 p.2) = some (isR n l) := by
  obtain ⟨k, h1, h2⟩ := ranges_impl n _ (by simp; omega) l [] rfl
  rw [impl_inAny, slices_ContainsFunc_A2int_inAny_1, slices_IndexFunc_A2int_inAny_1]
  have h1' : slices_IndexFunc_A2int_inAny_1_l6 (l.map fun p => GArr2Int.mk p.1 p.2) 0 n = some (k, n) := h1
  rw [h1']
  simp only [some_bnd, h2]
theorem ranges_eq (n : Int) (l : List (Int × Int)) (hl : l.length ≤ 1000) : spec_l1Ranges n (flat2 l) = some (isR n l) := by
  rw [spec_l1Ranges]
  exact ranges_spec n _ (by rw [flat2_len]; omega) l [] rfl
def startL : List (Int × Int) := [(65, 90), (95, 95), (97, 122), (192, 214), (216, 246), (248, 767), (880, 893), (895, 8191), (8204, 8205), (8304, 8591), (11264, 12271), (12289, 55295), (63744, 64975), (65008, 65533), (65536, 983039)]
def partL : List (Int × Int) := [(45, 46), (48, 57), (183, 183), (768, 879), (8255, 8256)]
def signL : List (Int × Int) := [(9, 10), (13, 13), (32, 55295), (57344, 65533), (65536, 1114111)]
def startB (n : Int) : Bool := isR n startL
def partB (n : Int) : Bool := startB n || isR n partL
theorem start_spec (n : Int) : spec_IsStart n = some (startB n) := by
  have e := ranges_eq n startL (by decide)
  simp only [startL, flat2] at e
  rw [spec_IsStart, e]; rfl
theorem start_impl (n : Int) : impl_IsStart n = some (startB n) := by
  have e := inAny_eq n startL (by decide)
  simp only [startL, List.map_cons, List.map_nil] at e
  rw [impl_IsStart, e]; rfl
theorem part_spec (n : Int) : spec_IsPart n = some (partB n) := by
  have e := ranges_eq n partL (by decide)
  simp only [partL, flat2] at e
  rw [spec_IsPart, start_spec, e]
  simp only [some_bnd, partB]
  cases startB n <;> rfl
theorem part_impl (n : Int) : impl_IsPart n = some (partB n) := by
  have e := inAny_eq n partL (by decide)
  simp only [partL, List.map_cons, List.map_nil] at e
  rw [impl_IsPart, start_impl, e]
  simp only [some_bnd, partB]
  cases startB n <;> rfl
def signB (n : Int) : Bool := isR n signL
theorem sign_impl (n : Int) : impl_IsSign n = some (signB n) := by
  have e := inAny_eq n signL (by decide)
  simp only [signL, List.map_cons, List.map_nil] at e
  rw [impl_IsSign, e]; rfl
theorem sign_spec (n : Int) : spec_IsSign n = some (signB n) := by
  have hb : signB n = (decide (n = 9) || (decide (n = 10) || (decide (n = 13) || (decide (32 ≤ n ∧ n ≤ 55295) || (decide (57344 ≤ n ∧ n ≤ 65533) || decide (65536 ≤ n ∧ n ≤ 1114111)))))) := by
    rw [Bool.eq_iff_iff]
    simp [signB, isR, signL]
    omega
  have e (m : Int) : eqI n m = decide (n = m) := by
    by_cases h : n = m
    · rw [eqI_t h]; simp [h]
    · rw [eqI_f h]; simp [h]
  rw [spec_IsSign, hb]
  simp only [e, l1In_eq, some_bnd]
  cases decide (n = 9) <;> cases decide (n = 10) <;> cases decide (n = 13) <;> cases decide (32 ≤ n ∧ n ≤ 55295) <;> cases decide (57344 ≤ n ∧ n ≤ 65533) <;> simp

/-! ### Plain names -/
theorem sg_ok {s : ByteArray} {i : Nat} (h : i < s.size) : (sg s i).2.2 = true → ∃ k, (sg s i).2.1 = ((i + k : Nat) : Int) ∧ 1 ≤ k ∧ i + k ≤ s.size ∧ ((k = 1 ∧ (sg s i).1 = by' s i) ∨ ∀ j, i ≤ j → j < i + k → 128 ≤ by' s j) := by
  obtain ⟨b1, b2, b3⟩ := decode_bnd h
  unfold sg
  split
  · intro h; cases h
  · intro _
    refine ⟨(Utf8.decode s i).2, rfl, b2, b3, ?_⟩
    rename_i hne
    have h0 := by_lt s i
    simp only
    rw [Lib.decode_at] at hne ⊢
    simp only [show (s.get! i).toNat = by' s i from rfl, show (s.get! (i + 1)).toNat = by' s (i + 1) from rfl, show (s.get! (i + 2)).toNat = by' s (i + 2) from rfl, show (s.get! (i + 3)).toNat = by' s (i + 3) from rfl] at hne ⊢
    revert hne
    unfold Lib.decodeN
    by_cases c0 : by' s i < 128
    · simp only [if_pos c0]; intro _; left; simp
    · simp only [if_neg c0]
      have hj : ∀ j, j = i ∨ j = i + 1 ∨ j = i + 2 ∨ j = i + 3 → (j = i + 1 → 128 ≤ by' s (i + 1)) → (j = i + 2 → 128 ≤ by' s (i + 2)) → (j = i + 3 → 128 ≤ by' s (i + 3)) → 128 ≤ by' s j := by
        rintro j (rfl | rfl | rfl | rfl) a b c
        · omega
        · exact a rfl
        · exact b rfl
        · exact c rfl
      repeat' split
      all_goals intro hne
      all_goals first
        | (exfalso; exact hne ⟨rfl, Nat.le_refl _⟩)
        | (refine .inr fun j h1 h2 => hj j (by omega) (fun _ => by omega) (fun _ => by omega) (fun _ => by omega))
def lenB (s : ByteArray) : Bool := decide ((1 : Int) ≤ lenS s ∧ lenS s ≤ 16)
theorem plain_loop (s : ByteArray) (hs : s.size ≤ 4000000) : ∀ (m i : Nat), i ≤ s.size → s.size - i ≤ m → ∃ b, spec_PlainOk_l14 s i = some b ∧ impl_PlainOk_l6 s i = some (b && lenB s) ∧ (b = true → ∀ j, i ≤ j → j < s.size → by' s j ≠ 58)
  | 0, i, h, hm => ⟨true, by rw [spec_PlainOk_l14, ltI_f (by simp only [lenS]; omega)]; rfl, by rw [impl_PlainOk_l6, ltI_f (by simp only [lenS]; omega), in_eq]; rfl, fun _ j h1 h2 => by omega⟩
  | m + 1, i, h, hm => by
    by_cases hi : i < s.size
    · rw [spec_PlainOk_l14, impl_PlainOk_l6, ltI_t (by simp only [lenS]; omega), sg_spec hi hs, sg_impl hi hs]
      simp only [if_true, some_bnd, start_spec, start_impl, part_spec, part_impl]
      cases hok : (sg s i).2.2 with
      | false => exact ⟨false, by simp, by simp, by simp⟩
      | true =>
        obtain ⟨k, e1, e2, e3, e4⟩ := sg_ok hi hok
        obtain ⟨b, f1, f2, f3⟩ := plain_loop s hs m (i + k) e3 (by omega)
        rw [e1]
        simp only [if_true, f1, f2]
        by_cases hp : partB (sg s i).1 = true
        · have hc : b = true → ∀ j, i ≤ j → j < s.size → by' s j ≠ 58 := fun hb j h1 h2 h3 => by
            by_cases hj : j < i + k
            · rcases e4 with ⟨r1, r2⟩ | r
              · have : j = i := by omega
                subst this
                rw [r2, h3] at hp
                revert hp; decide
              · have := r j h1 hj; omega
            · exact f3 hb j (by omega) h2 h3
          by_cases h0 : eqI (i : Int) 0 = true
          · by_cases hst : startB (sg s i).1 = true
            · exact ⟨b, by simp [h0, hst, hp], by simp [h0, hst, hp], hc⟩
            · exact ⟨false, by simp [h0, hst], by simp [h0, hst], by simp⟩
          · exact ⟨b, by simp [h0, hp], by simp [h0, hp], hc⟩
        · refine ⟨false, ?_, ?_, by simp⟩
          · by_cases h0 : eqI (i : Int) 0 = true <;> by_cases hst : startB (sg s i).1 = true <;> simp [h0, hst, hp]
          · by_cases h0 : eqI (i : Int) 0 = true <;> by_cases hst : startB (sg s i).1 = true <;> simp [h0, hst, hp]
    · exact ⟨true, by rw [spec_PlainOk_l14, ltI_f (by simp only [lenS]; omega)]; rfl, by rw [impl_PlainOk_l6, ltI_f (by simp only [lenS]; omega), in_eq]; rfl, fun _ j h1 h2 => by omega⟩
def plainB (s : ByteArray) : Bool := (spec_PlainOk s).getD false
theorem plain_all (s : ByteArray) (hs : s.size ≤ 4000000) : spec_PlainOk s = some (plainB s) ∧ impl_PlainOk s = some (plainB s) ∧ (plainB s = true → 1 ≤ s.size ∧ ∀ j, j < s.size → by' s j ≠ 58) := by
  obtain ⟨b, h1, h2, h3⟩ := plain_loop s hs s.size 0 (Nat.zero_le _) (by omega)
  have e1 : spec_PlainOk s = some (b && lenB s) := by
    rw [spec_PlainOk, l1In_eq]
    simp only [some_bnd]
    have h1' : spec_PlainOk_l14 s 0 = some b := h1
    have : lenB s = decide ((1 : Int) ≤ lenS s ∧ lenS s ≤ 16) := rfl
    rw [← this, h1']
    cases lenB s <;> cases b <;> rfl
  have e2 : plainB s = (b && lenB s) := by rw [plainB, e1]; rfl
  refine ⟨by rw [e1, e2], by rw [impl_PlainOk, e2]; exact h2, fun h => ?_⟩
  rw [e2, Bool.and_eq_true] at h
  refine ⟨?_, fun j hj => h3 h.1 j (Nat.zero_le _) hj⟩
  obtain ⟨t1, _⟩ := of_decide_eq_true h.2
  simp only [lenS] at t1
  omega

/-! ### Texts -/
theorem signs_loop (s : ByteArray) (hs : s.size ≤ 1500) : ∀ (m i : Nat), i ≤ s.size → s.size - i ≤ m → ∃ b, spec_l1Signs_l6 s i = some b ∧ impl_signsOk_l6 s i = some b
  | 0, i, h, hm => ⟨true, by rw [spec_l1Signs_l6, ltI_f (by simp only [lenS]; omega), leI_t (by simp only [lenS]; omega)]; rfl, by rw [impl_signsOk_l6, ltI_f (by simp only [lenS]; omega)]; rfl⟩
  | m + 1, i, h, hm => by
    by_cases hi : i < s.size
    · rw [spec_l1Signs_l6, impl_signsOk_l6, ltI_t (by simp only [lenS]; omega), sg_spec hi (by omega), sg_impl hi (by omega)]
      simp only [if_true, some_bnd, sign_spec, sign_impl]
      cases hok : (sg s i).2.2 with
      | false => exact ⟨false, by simp, by simp⟩
      | true =>
        obtain ⟨k, e1, e2, e3, e4⟩ := sg_ok hi hok
        obtain ⟨b, f1, f2⟩ := signs_loop s hs m (i + k) e3 (by omega)
        rw [e1]
        simp only [if_true, f1, f2]
        cases signB (sg s i).1
        · exact ⟨false, by simp, by simp⟩
        · exact ⟨b, by simp, by simp⟩
    · exact ⟨true, by rw [spec_l1Signs_l6, ltI_f (by simp only [lenS]; omega), leI_t (by simp only [lenS]; omega)]; rfl, by rw [impl_signsOk_l6, ltI_f (by simp only [lenS]; omega)]; rfl⟩
theorem text_all (s : ByteArray) (hs : s.size ≤ 4000000) : ∃ b, spec_TextOk s = some b ∧ impl_TextOk s = some b := by
  rw [spec_TextOk, impl_TextOk]
  by_cases h : s.size ≤ 600
  · obtain ⟨b, h1, h2⟩ := signs_loop s (by omega) s.size 0 (Nat.zero_le _) (by omega)
    have h1' : spec_l1Signs s = some b := by rw [spec_l1Signs]; exact h1
    have h2' : impl_signsOk s = some b := by rw [impl_signsOk]; exact h2
    rw [leI_t (by simp only [lenS]; omega)]
    exact ⟨b, by simp [h1', some_bnd], by simp [h2', some_bnd]⟩
  · rw [leI_f (by simp only [lenS]; omega)]
    exact ⟨false, rfl, rfl⟩
theorem has_loop (s : ByteArray) (c : UInt8) (hs : s.size ≤ 4000000) : ∀ (m i : Nat), i ≤ s.size → s.size - i ≤ m → spec_l5Has_l6 s ⟨#[c]⟩ i = some ((s.data.toList.drop i).contains c)
  | 0, i, h, hm => by
    have h1 : lenS (⟨#[c]⟩ : ByteArray) = 1 := rfl
    rw [spec_l5Has_l6, h1, addI_eq (by omega) (by omega), leI_f (by simp only [lenS]; omega)]
    have : s.data.toList.drop i = [] := List.drop_eq_nil_of_le (by have : s.data.toList.length = s.size := Array.length_toList; omega)
    rw [this]; rfl
  | m + 1, i, h, hm => by
    have h1 : lenS (⟨#[c]⟩ : ByteArray) = 1 := rfl
    have hlen : s.data.toList.length = s.size := Array.length_toList
    by_cases hi : i < s.size
    · have ih := has_loop s c hs m (i + 1) (by omega) (by omega)
      have hd : s.data.toList.drop i = s.data.toList[i]'(by omega) :: s.data.toList.drop (i + 1) := List.drop_eq_getElem_cons (by omega)
      have hsub : subS s i ((i : Int) + 1) = some (s.extract i (i + 1)) := by
        unfold subS
        rw [if_pos ⟨by omega, by omega, by omega⟩]
        congr 1
      have hex : (s.extract i (i + 1)).toList = [s.data.toList[i]'(by omega)] := by
        rw [Lib.toList_data, Lib.extract_data, hd]
        simp
      rw [spec_l5Has_l6, h1, addI_eq (by omega) (by omega), leI_t (by simp only [lenS]; omega)]
      simp only [if_true, hsub, some_bnd, eqS, hex]
      have h2 : (⟨#[c]⟩ : ByteArray).toList = [c] := by rw [Lib.toList_data]
      rw [h2, hd, List.contains_cons]
      have e : (((i : Int) + 1)) = ((i + 1 : Nat) : Int) := by omega
      rw [e, ih]
      by_cases hc : s.data.toList[i]'(by omega) = c
      · have a : ([s.data.toList[i]'(by omega)] == [c]) = true := by rw [hc]; exact beq_self_eq_true _
        have b : (c == s.data.toList[i]'(by omega)) = true := by rw [hc]; exact beq_self_eq_true _
        rw [if_pos a, b]; rfl
      · have a : ([s.data.toList[i]'(by omega)] == [c]) = false := by
          rw [Bool.eq_false_iff]
          intro h
          have h' := eq_of_beq h
          exact hc (List.cons.inj h').1
        have b : (c == s.data.toList[i]'(by omega)) = false := by
          rw [Bool.eq_false_iff]
          intro h
          exact hc (eq_of_beq h).symm
        rw [a, b]; rfl
    · rw [spec_l5Has_l6, h1, addI_eq (by omega) (by omega), leI_f (by simp only [lenS]; omega)]
      have : s.data.toList.drop i = [] := List.drop_eq_nil_of_le (by omega)
      rw [this]; rfl
theorem has_spec (s : ByteArray) (c : UInt8) (hs : s.size ≤ 4000000) : spec_l5Has s ⟨#[c]⟩ = some (s.data.toList.contains c) := by
  rw [spec_l5Has]
  have := has_loop s c hs s.size 0 (Nat.zero_le _) (by omega)
  simpa using this
theorem has_impl (s : ByteArray) (c : UInt8) : strings_Contains s ⟨#[c]⟩ = some (s.data.toList.contains c) := by
  have h1 : (⟨#[c]⟩ : ByteArray).size = 1 := rfl
  rw [strings_Contains, if_pos h1, holds1, Lib.contains_iff_indexByte]
  rfl
theorem val_all (s : ByteArray) (hs : s.size ≤ 4000000) : ∃ b, spec_l11Val s = some b ∧ impl_valOk s = some b := by
  obtain ⟨b, h1, h2⟩ := text_all s hs
  rw [spec_l11Val, impl_valOk, h1, h2, has_spec s 39 hs, has_spec s 34 hs, has_impl, has_impl]
  simp only [some_bnd]
  cases b with
  | false => exact ⟨false, rfl, rfl⟩
  | true =>
    cases s.data.toList.contains 39 with
    | false => exact ⟨true, rfl, rfl⟩
    | true => exact ⟨!(s.data.toList.contains 34), rfl, rfl⟩
end TT
set_option linter.unusedVariables false
set_option linter.unusedSimpArgs false
namespace TT
open Go

/-! ### Names of two parts -/
def emB : ByteArray := ⟨#[]⟩
theorem byteArray_ext {x y : ByteArray} (h : x.data.toList = y.data.toList) : x = y := toList_inj (by rw [Lib.toList_data, Lib.toList_data, h])
theorem eqS_f {x y : ByteArray} (h : x ≠ y) : eqS x y = false := by
  cases he : eqS x y with
  | false => rfl
  | true => exact absurd (eqS_iff.1 he) h
theorem eqS_size {x y : ByteArray} (h : x.size ≠ y.size) : eqS x y = false := eqS_f fun e => h (by rw [e])
def nameB (pre loc : ByteArray) : Bool := if eqS pre ⟨#[]⟩ then plainB loc else (plainB pre && plainB loc)
theorem name_impl (pre loc : ByteArray) (h1 : pre.size ≤ 4000000) (h2 : loc.size ≤ 4000000) : impl_nameOk pre loc = some (nameB pre loc) := by
  rw [impl_nameOk, (plain_all pre h1).2.1, (plain_all loc h2).2.1, nameB]
  simp only [some_bnd]
  cases eqS pre ⟨#[]⟩ <;> cases plainB pre <;> rfl
theorem split_skip (s : ByteArray) (hs : s.size ≤ 4000000) (k : Nat) (hk : k ≤ s.size) : ∀ (m i : Nat), i + m = k → (∀ j, i ≤ j → j < k → by' s j ≠ 58) → spec_SplitName_l14 s i = spec_SplitName_l14 s k
  | 0, i, h, _ => by rw [show i = k by omega]
  | m + 1, i, h, hn => by
    have hi : i < s.size := by omega
    have hb := hn i (Nat.le_refl _) (by omega)
    rw [spec_SplitName_l14, ltI_t (by simp only [lenS]; omega), atS_by rfl hi]
    simp only [if_true, some_bnd]
    rw [eqI_f (by omega), addI_eq (by omega) (by omega)]
    simp only [Bool.false_eq_true, if_false]
    exact split_skip s hs k hk m (i + 1) (by omega) (fun j h1 h2 => hn j (by omega) h2)
theorem split_end (s : ByteArray) : spec_SplitName_l14 s s.size = some (⟨#[]⟩, ⟨#[]⟩, false) := by
  rw [spec_SplitName_l14, ltI_f (by simp only [lenS]; omega)]; rfl
theorem split_at (s : ByteArray) (hs : s.size ≤ 4000000) (k : Nat) (hk : k < s.size) (hb : by' s k = 58) : spec_SplitName_l14 s k = if plainB (s.extract 0 k) && plainB (s.extract (k + 1) s.size) then some (s.extract 0 k, s.extract (k + 1) s.size, true) else some (⟨#[]⟩, ⟨#[]⟩, false) := by
  have e1 : subS s 0 k = some (s.extract 0 k) := by
    unfold subS
    rw [if_pos ⟨by omega, by omega, by omega⟩]; rfl
  have e2 : subS s (k + 1) (lenS s) = some (s.extract (k + 1) s.size) := by
    unfold subS lenS
    rw [if_pos ⟨by omega, by omega, by omega⟩]; rfl
  have p1 := (plain_all (s.extract 0 k) (by simp; omega)).1
  have p2 := (plain_all (s.extract (k + 1) s.size) (by simp; omega)).1
  rw [spec_SplitName_l14, ltI_t (by simp only [lenS]; omega), atS_by rfl hk, hb]
  simp only [if_true, some_bnd]
  rw [show eqI ((58 : Nat) : Int) 58 = true from rfl, addI_eq (by omega) (by omega)]
  simp only [if_true, e1, e2, some_bnd, p1, p2]
  cases plainB (s.extract 0 k) <;> cases plainB (s.extract (k + 1) s.size) <;> rfl
theorem first58 (s : ByteArray) : ∀ n, (∀ j, j < n → by' s j ≠ 58) ∨ ∃ k, k < n ∧ by' s k = 58 ∧ ∀ j, j < k → by' s j ≠ 58
  | 0 => .inl fun j h => by omega
  | n + 1 => by
    rcases first58 s n with h | ⟨k, h1, h2, h3⟩
    · by_cases hn : by' s n = 58
      · exact .inr ⟨n, Nat.lt_succ_self _, hn, h⟩
      · refine .inl fun j hj => ?_
        by_cases e : j = n
        · rw [e]; exact hn
        · exact h j (by omega)
    · exact .inr ⟨k, by omega, h2, h3⟩
theorem split_all (s : ByteArray) (hs : s.size ≤ 4000000) (hp : plainB s = false) :
    ((∀ j, j < s.size → by' s j ≠ 58) ∧ spec_SplitName s = some (⟨#[]⟩, ⟨#[]⟩, false)) ∨
    ∃ k, k < s.size ∧ by' s k = 58 ∧ (∀ j, j < k → by' s j ≠ 58) ∧ spec_SplitName s = if plainB (s.extract 0 k) && plainB (s.extract (k + 1) s.size) then some (s.extract 0 k, s.extract (k + 1) s.size, true) else some (⟨#[]⟩, ⟨#[]⟩, false) := by
  have e : spec_SplitName s = spec_SplitName_l14 s 0 := by
    rw [spec_SplitName, (plain_all s hs).1, hp]; rfl
  rcases first58 s s.size with h | ⟨k, h1, h2, h3⟩
  · refine .inl ⟨h, ?_⟩
    rw [e, ← split_end s]
    exact split_skip s hs s.size (Nat.le_refl _) s.size 0 (by omega) (fun j _ hj => h j hj)
  · refine .inr ⟨k, h1, h2, h3, ?_⟩
    rw [e, ← split_at s hs k h1 h2]
    exact split_skip s hs k (by omega) k 0 (by omega) (fun j _ hj => h3 j hj)
theorem get_app1 (x y : ByteArray) (k : Nat) (h : k < x.size) : by' (x ++ y) k = by' x k := by
  have e : (x ++ y).data = x.data ++ y.data := by simp
  have h' : k < x.data.size := h
  show ((x ++ y).data[k]!).toNat = (x.data[k]!).toNat
  rw [e]
  simp only [getElem!_def]
  rw [Array.getElem?_append_left h']
theorem get_app2 (x y : ByteArray) (k : Nat) : by' (x ++ y) (x.size + k) = by' y k := by
  have e : (x ++ y).data = x.data ++ y.data := by simp
  show ((x ++ y).data[x.size + k]!).toNat = (y.data[k]!).toNat
  rw [e]
  simp only [getElem!_def]
  rw [Array.getElem?_append_right (by show x.data.size ≤ x.data.size + k; omega)]
  have : x.size + k - x.data.size = k := by show x.data.size + k - x.data.size = k; omega
  rw [this]
theorem join_all (pre loc : ByteArray) (h1 : pre.size ≤ 1500000) (h2 : loc.size ≤ 1500000) : ∃ r, spec_JoinName pre loc = some r ∧ (!eqS r ⟨#[]⟩) = nameB pre loc := by
  have es : ∀ r : ByteArray, r.size ≠ 0 → eqS r ⟨#[]⟩ = false := fun r hr => eqS_size hr
  have ee : eqS (⟨#[]⟩ : ByteArray) ⟨#[]⟩ = true := eqS_self _
  unfold nameB
  cases hpre : eqS pre ⟨#[]⟩ with
  | true =>
    have hpe : pre = ⟨#[]⟩ := eqS_iff.1 hpre
    rw [spec_JoinName, neS_eq, hpre]
    simp only [Bool.not_true, Bool.false_eq_true, if_false, spec_JoinName_j4, if_true]
    cases hp : plainB loc with
    | true =>
      have := (plain_all loc (by omega)).2.2 hp
      rw [spec_SplitName, (plain_all loc (by omega)).1, hp]
      simp only [some_bnd, if_true, neS_eq, hpe, ee, eqS_self, Bool.not_true, Bool.false_eq_true, if_false]
      exact ⟨loc, rfl, by rw [es loc (by omega)]; rfl⟩
    | false =>
      rcases split_all loc (by omega) hp with ⟨_, e⟩ | ⟨k, k1, k2, k3, e⟩
      · rw [e]
        simp only [some_bnd, Bool.false_eq_true, if_false]
        exact ⟨_, rfl, by rw [ee]; rfl⟩
      · rw [e]
        cases hb : plainB (loc.extract 0 k) && plainB (loc.extract (k + 1) loc.size) with
        | false => simp only [some_bnd, Bool.false_eq_true, if_false]; exact ⟨_, rfl, by rw [ee]; rfl⟩
        | true =>
          simp only [Bool.and_eq_true] at hb
          have hx := (plain_all (loc.extract 0 k) (by simp; omega)).2.2 hb.1
          simp only [some_bnd, if_true, neS_eq, hpe]
          rw [es _ (by omega)]
          simp only [Bool.not_false, if_true]
          exact ⟨_, rfl, by rw [ee]; rfl⟩
  | false =>
    have hne : pre.size ≠ 0 := fun h => by
      have : pre = ⟨#[]⟩ := by
        apply byteArray_ext
        have : pre.data.toList.length = 0 := by rw [Array.length_toList]; exact h
        rw [List.eq_nil_of_length_eq_zero this]
      rw [this] at hpre
      rw [ee] at hpre
      cases hpre
    have hc : (⟨#[58]⟩ : ByteArray).size = 1 := rfl
    rw [spec_JoinName, neS_eq, hpre]
    have c1 : catS pre ⟨#[58]⟩ = some (pre ++ ⟨#[58]⟩) := by unfold catS; rw [if_pos (by omega)]
    have hz : (pre ++ (⟨#[58]⟩ : ByteArray)).size = pre.size + 1 := by rw [ByteArray.size_append, hc]
    have c2 : catS (pre ++ ⟨#[58]⟩) loc = some (pre ++ ⟨#[58]⟩ ++ loc) := by unfold catS; rw [if_pos (by omega)]
    simp only [Bool.not_false, if_true, c1, c2, some_bnd, spec_JoinName_j4, Bool.false_eq_true, if_false]
    generalize hs0 : pre ++ (⟨#[58]⟩ : ByteArray) ++ loc = s
    have hsz : s.size = pre.size + 1 + loc.size := by rw [← hs0, ByteArray.size_append, hz]
    have hl : s.data.toList = pre.data.toList ++ ([58] ++ loc.data.toList) := by rw [← hs0]; simp
    have hpl : pre.data.toList.length = pre.size := Array.length_toList
    have hll : loc.data.toList.length = loc.size := Array.length_toList
    have hcol : by' s pre.size = 58 := by
      rw [← hs0, get_app1 _ _ _ (by omega)]
      have := get_app2 pre ⟨#[58]⟩ 0
      rw [Nat.add_zero] at this
      rw [this]; rfl
    have hlow : ∀ k, k < pre.size → by' s k = by' pre k := fun k hk => by
      rw [← hs0, get_app1 _ _ _ (by omega), get_app1 _ _ _ hk]
    have hp : plainB s = false := by
      cases hp : plainB s with
      | false => rfl
      | true => exact absurd hcol ((plain_all s (by omega)).2.2 hp |>.2 pre.size (by omega))
    have hsn : eqS s ⟨#[]⟩ = false := es s (by omega)
    rcases split_all s (by omega) hp with ⟨hno, _⟩ | ⟨k, k1, k2, k3, e⟩
    · exact absurd hcol (hno pre.size (by omega))
    · have hkle : k ≤ pre.size := by
        rcases Nat.lt_or_ge pre.size k with h | h
        · exact absurd hcol (k3 pre.size h)
        · exact h
      rw [e]
      by_cases hk : k = pre.size
      · subst hk
        have x1 : s.extract 0 pre.size = pre := by
          apply byteArray_ext
          rw [Lib.extract_data, hl, List.drop_zero, Nat.sub_zero, ← hpl, List.take_left']
          rfl
        have x2 : s.extract (pre.size + 1) s.size = loc := by
          apply byteArray_ext
          rw [Lib.extract_data, hl, ← List.append_assoc, List.drop_left' (by simp [hpl]), List.take_of_length_le (by omega)]
        rw [x1, x2]
        cases hb : plainB pre && plainB loc with
        | false => simp only [some_bnd, Bool.false_eq_true, if_false]; exact ⟨_, rfl, by rw [ee]; rfl⟩
        | true =>
          simp only [some_bnd, if_true, neS_eq, eqS_self, Bool.not_true, Bool.false_eq_true, if_false]
          exact ⟨s, rfl, by rw [hsn]; rfl⟩
      · have hpp : plainB pre = false := by
          cases hp : plainB pre with
          | false => rfl
          | true => exact absurd (hlow k (by omega) ▸ k2) ((plain_all pre (by omega)).2.2 hp |>.2 k (by omega))
        rw [hpp, Bool.false_and]
        cases hb : plainB (s.extract 0 k) && plainB (s.extract (k + 1) s.size) with
        | false => simp only [some_bnd, Bool.false_eq_true, if_false]; exact ⟨_, rfl, by rw [ee]; rfl⟩
        | true =>
          have hx : eqS (s.extract 0 k) pre = false := eqS_size (by simp; omega)
          simp only [some_bnd, if_true, neS_eq, hx, Bool.not_false]
          exact ⟨_, rfl, by rw [ee]; rfl⟩

/-! ### Preds, steps, selectors -/
theorem eqI_dec (m n : Int) : eqI m n = decide (m = n) := by
  by_cases h : m = n
  · rw [eqI_t h]; simp [h]
  · rw [eqI_f h]; simp [h]
theorem pred_all (p : GPred) (kind : Int) (hs : p.sz ≤ 1500000) : ∃ b, spec_l11PredOk p kind = some b ∧ impl_predOk p kind = some b := by
  have hz := GPred.sz_eq p
  obtain ⟨r, j1, j2⟩ := join_all p.Pre p.Local (by omega) (by omega)
  obtain ⟨v, v1, v2⟩ := val_all p.Val (by omega)
  have n1 := name_impl p.Pre p.Local (by omega) (by omega)
  have ek : decide ((1 : Int) ≤ kind ∧ kind ≤ 2) = (eqI kind 1 || eqI kind 2) := by
    rw [Bool.eq_iff_iff]
    simp [eqI_dec]
    omega
  simp only [spec_l11PredOk, spec_l11PredOk_j12, impl_predOk, impl_predOk_j2, impl_predOk_j4, impl_predOk_j16, l1In_eq, in_eq, j1, v1, v2, n1, some_bnd, neS_eq, j2, ek]
  by_cases k1 : eqI p.Kind 1 = true
  · by_cases a : eqS p.Pre ⟨#[]⟩ = true <;> by_cases b : eqS p.Local ⟨#[]⟩ = true <;> by_cases e1 : eqI kind 1 = true <;> by_cases q : decide ((1 : Int) ≤ p.N ∧ p.N ≤ 999) = true <;> simp [k1, a, b, e1, q]
  · by_cases k23 : eqI p.Kind 2 = true ∨ eqI p.Kind 3 = true
    · have k2' : eqI p.Kind 2 = true ∨ (eqI p.Kind 2 = false ∧ eqI p.Kind 3 = true) := by
        rcases k23 with h | h
        · exact .inl h
        · cases h2 : eqI p.Kind 2 with
          | true => exact .inl rfl
          | false => exact .inr ⟨rfl, h⟩
      rcases k2' with k2 | ⟨k2, k3⟩
      · by_cases a : eqS p.Pre ⟨#[]⟩ = true <;> by_cases e1 : eqI kind 1 = true <;> by_cases e2 : eqI kind 2 = true <;> by_cases n0 : eqI p.N 0 = true <;> by_cases nb : nameB p.Pre p.Local = true <;> simp [k1, k2, a, e1, e2, n0, nb]
      · by_cases a : eqS p.Pre ⟨#[]⟩ = true <;> by_cases e1 : eqI kind 1 = true <;> by_cases e2 : eqI kind 2 = true <;> by_cases n0 : eqI p.N 0 = true <;> by_cases nb : nameB p.Pre p.Local = true <;> simp [k1, k2, k3, a, e1, e2, n0, nb]
    · have k2 : eqI p.Kind 2 = false := by
        cases h : eqI p.Kind 2 with
        | true => exact absurd (.inl h) k23
        | false => rfl
      have k3 : eqI p.Kind 3 = false := by
        cases h : eqI p.Kind 3 with
        | true => exact absurd (.inr h) k23
        | false => rfl
      by_cases k4 : eqI p.Kind 4 = true
      · by_cases a : eqS p.Pre ⟨#[]⟩ = true <;> by_cases b : eqS p.Local ⟨#[]⟩ = true <;> by_cases e1 : eqI kind 1 = true <;> by_cases e2 : eqI kind 2 = true <;> by_cases n0 : eqI p.N 0 = true <;> simp [k1, k2, k3, k4, a, b, e1, e2, n0]
      · by_cases a : eqS p.Pre ⟨#[]⟩ = true <;> by_cases e1 : eqI kind 1 = true <;> simp [k1, k2, k3, k4, a, e1]
def predB (p : GPred) (kind : Int) : Bool := (impl_predOk p kind).getD false
theorem pred_eq (p : GPred) (kind : Int) (hs : p.sz ≤ 1500000) : spec_l11PredOk p kind = some (predB p kind) ∧ impl_predOk p kind = some (predB p kind) := by
  obtain ⟨b, h1, h2⟩ := pred_all p kind hs
  have : predB p kind = b := by rw [predB, h2]; rfl
  rw [this]; exact ⟨h1, h2⟩
def predsB (x : GStp) : Bool := x.Preds.all fun p => predB p x.Kind
theorem preds_spec (x : GStp) (d : Bool) (hl : x.Preds.length ≤ 1500000) (hz : ∀ p ∈ x.Preds, p.sz ≤ 1500000) : spec_l11StepOk_l14 0 d x = if predsB x then (if eqI x.Kind 1 then spec_l11StepOk_j35 x true d else spec_l11StepOk_j35 x (eqI x.Kind 6) d) else some false := by
  have key : ∀ rest pre : List GPred, pre ++ rest = x.Preds → spec_l11StepOk_l14 pre.length d x = if rest.all (fun p => predB p x.Kind) then (if eqI x.Kind 1 then spec_l11StepOk_j35 x true d else spec_l11StepOk_j35 x (eqI x.Kind 6) d) else some false := by
    intro rest
    induction rest with
    | nil => intro pre hp; rw [spec_l11StepOk_l14, end_at hp]; rfl
    | cons p rest ih =>
      intro pre hp
      have ih := ih (pre ++ [p]) (step_at hp)
      rw [spec_l11StepOk_l14, more_at hp, getI_at hp, next_at hp (by rw [maxLen_eq]; omega)]
      simp only [if_true, some_bnd, (pred_eq p x.Kind (hz p (by rw [← hp]; simp))).1, ih, List.all_cons]
      by_cases hb : predB p x.Kind = true <;> simp [hb]
  exact key x.Preds [] rfl
theorem preds_impl (x : GStp) (hl : x.Preds.length ≤ 1500000) (hz : ∀ p ∈ x.Preds, p.sz ≤ 1500000) : slices_ContainsFunc_Pred_stepOk_1 x.Preds x = some (!predsB x, x) := by
  have key : ∀ rest pre : List GPred, pre ++ rest = x.Preds → ∃ k, slices_IndexFunc_Pred_stepOk_1_l6 x.Preds pre.length x = some (k, x) ∧ geI k 0 = !rest.all (fun p => predB p x.Kind) := by
    intro rest
    induction rest with
    | nil => intro pre hp; exact ⟨-1, by rw [slices_IndexFunc_Pred_stepOk_1_l6, end_at hp]; rfl, rfl⟩
    | cons p rest ih =>
      intro pre hp
      obtain ⟨k, h1, h2⟩ := ih (pre ++ [p]) (step_at hp)
      rw [slices_IndexFunc_Pred_stepOk_1_l6, more_at hp, getI_at hp, next_at hp (by rw [maxLen_eq]; omega)]
      simp only [if_true, some_bnd, impl_stepOk_1, (pred_eq p x.Kind (hz p (by rw [← hp]; simp))).2, List.all_cons]
      by_cases hb : predB p x.Kind = true
      · exact ⟨k, by simp only [hb, Bool.not_true, Bool.false_eq_true, if_false]; exact h1, by rw [h2, hb]; rfl⟩
      · have hb' : predB p x.Kind = false := by simpa using hb
        exact ⟨pre.length, by simp only [hb', Bool.not_false, if_true], by rw [geI_t (by omega), hb']; rfl⟩
  obtain ⟨k, h1, h2⟩ := key x.Preds [] rfl
  have h1' : slices_IndexFunc_Pred_stepOk_1_l6 x.Preds 0 x = some (k, x) := h1
  rw [slices_ContainsFunc_Pred_stepOk_1, slices_IndexFunc_Pred_stepOk_1, h1']
  simp only [some_bnd, h2, predsB]
theorem step_all (x : GStp) (last : Bool) (hs : x.sz ≤ 1500000) : ∃ b, spec_l11StepOk x last = some b ∧ impl_stepOk x last = some b := by
  have hz := GStp.sz_eq x
  have hzp : ∀ p ∈ x.Preds, p.sz ≤ 1500000 := fun p hp => by have := szs_mem GPred.sz hp; omega
  obtain ⟨r, j1, j2⟩ := join_all x.Pre x.Local (by omega) (by omega)
  have n1 := name_impl x.Pre x.Local (by omega) (by omega)
  have p1 := (plain_all x.Local (by omega)).1
  have p2 := (plain_all x.Local (by omega)).2.1
  have q1 := preds_impl x (by omega) hzp
  have q2 := fun d => preds_spec x d (by omega) hzp
  have g0 : gtI (lenL x.Preds) 0 = !eqI (lenL x.Preds) 0 := by
    by_cases h : x.Preds.length = 0
    · rw [gtI_f (by simp only [lenL]; omega), eqI_t (by simp only [lenL]; omega)]; rfl
    · rw [gtI_t (by simp only [lenL]; omega), eqI_f (by simp only [lenL]; omega)]; rfl
  simp only [spec_l11StepOk, spec_l11StepOk_j2, q2, impl_stepOk, q1, g0, some_bnd, spec_l11StepOk_j35, spec_l11StepOk_j45, impl_stepOk_j10, impl_stepOk_j22, j1, n1, p1, p2, neS_eq, j2]
  by_cases g3 : gtI (lenL x.Preds) 3 = true
  · simp [g3]
  by_cases pb : predsB x = true
  · by_cases h6 : x.Kind ≥ 6
    · have f1 : eqI x.Kind 1 = false := eqI_f (by omega)
      have f2 : eqI x.Kind 2 = false := eqI_f (by omega)
      have f3 : eqI x.Kind 3 = false := eqI_f (by omega)
      have f4 : eqI x.Kind 4 = false := eqI_f (by omega)
      have f5 : eqI x.Kind 5 = false := eqI_f (by omega)
      have fg : geI x.Kind 6 = true := geI_t h6
      by_cases l0 : eqI (lenL x.Preds) 0 = true <;> by_cases la : last = true <;> by_cases dp : x.Deep = true <;> by_cases e6 : eqI x.Kind 6 = true <;> by_cases e7 : eqI x.Kind 7 = true <;> by_cases a : eqS x.Pre ⟨#[]⟩ = true <;> simp [g3, pb, f1, f2, f3, f4, f5, fg, l0, la, dp, e6, e7, a]
    · have f6 : eqI x.Kind 6 = false := eqI_f (by omega)
      have f7 : eqI x.Kind 7 = false := eqI_f (by omega)
      have fg : geI x.Kind 6 = false := geI_f (by omega)
      by_cases la : last = true <;> by_cases dp : x.Deep = true <;> by_cases k1 : eqI x.Kind 1 = true <;> by_cases k2 : eqI x.Kind 2 = true <;> by_cases k3 : eqI x.Kind 3 = true <;> by_cases k4 : eqI x.Kind 4 = true <;> by_cases k5 : eqI x.Kind 5 = true <;> simp [g3, pb, f6, f7, fg, la, dp, k1, k2, k3, k4, k5] <;> (by_cases a : eqS x.Pre ⟨#[]⟩ = true <;> by_cases b : eqS x.Local ⟨#[]⟩ = true <;> simp [a, b])
  · have pb' : predsB x = false := by simpa using pb
    by_cases fg : geI x.Kind 6 = true <;> by_cases la : last = true <;> by_cases dp : x.Deep = true <;> by_cases l0 : eqI (lenL x.Preds) 0 = true <;> simp [g3, pb', fg, la, dp, l0]
theorem all_SelOk (s : GSel) (hs : s.sz ≤ 1500000) : ∃ r, spec_SelOk s = some r ∧ impl_SelOk s = some r := by
  have hz := GSel.sz_eq s
  obtain ⟨v, v1, v2⟩ := val_all s.Id (by omega)
  have key : ∀ rest pre : List GStp, pre ++ rest = s.Steps → ∃ r, spec_SelOk_l6 pre.length s = some r ∧ impl_SelOk_l8 s pre.length = some r := by
    intro rest
    induction rest with
    | nil =>
      intro pre hp
      rw [spec_SelOk_l6, impl_SelOk_l8, end_at hp, v1, v2]
      simp only [Bool.false_eq_true, if_false, some_bnd]
      by_cases hv : v = true <;> by_cases h8 : leI (lenL s.Steps) 8 = true <;> by_cases hn : neS s.Id ⟨#[]⟩ = true <;> by_cases hg : gtI (lenL s.Steps) 0 = true <;> simp [hv, h8, hn, hg]
    | cons x rest ih =>
      intro pre hp
      obtain ⟨r, h1, h2⟩ := ih (pre ++ [x]) (step_at hp)
      obtain ⟨b, b1, b2⟩ := step_all x (eqI (pre.length : Int) (subI (lenL s.Steps) 1)) (by have := szs_mem GStp.sz (show x ∈ s.Steps by rw [← hp]; simp); omega)
      rw [spec_SelOk_l6, impl_SelOk_l8, more_at hp, getI_at hp, next_at hp (by rw [maxLen_eq]; omega)]
      simp only [if_true, some_bnd, b1, b2, h1, h2]
      cases b
      · exact ⟨false, rfl, rfl⟩
      · exact ⟨r, rfl, rfl⟩
  obtain ⟨r, h1, h2⟩ := key s.Steps [] rfl
  exact ⟨r, by rw [spec_SelOk]; exact h1, by rw [impl_SelOk]; exact h2⟩
theorem same_SelOk (s : GSel) (hok : s.ok) (hs : s.sz ≤ 1048576) : ∃ r, spec_SelOk s = some r ∧ impl_SelOk s = some r := all_SelOk s (by omega)
end TT
