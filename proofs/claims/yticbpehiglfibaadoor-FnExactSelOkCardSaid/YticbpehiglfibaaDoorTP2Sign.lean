import Derived.Test.YticbpehiglfibaaDoorTP0
import Derived.Test.YticbpehiglfibaaDoorTDefs
import Derived.Lib.IndexAny
set_option linter.unusedVariables false
set_option linter.unusedSimpArgs false
namespace TT
open Go

/-! ### Signs -/
theorem ext_get (s : ByteArray) (i k : Nat) : (s.extract i s.size).get! k = s.get! (i + k) := by
  have e : (s.extract i s.size).data = s.data.extract i s.data.size := by
    first | rfl | simp
  show (s.extract i s.size).data[k]! = s.data[i + k]!
  rw [e]
  simp only [getElem!_def]
  rw [Array.getElem?_extract]
  have hz : s.size = s.data.size := rfl
  by_cases h : k < s.data.size - i
  · rw [if_pos (by omega)]
  · have : s.data[i + k]? = none := Array.getElem?_eq_none (by omega)
    rw [if_neg (by omega), this]
theorem decodeGo_ext (s : ByteArray) (i : Nat) (h : i < s.size) : Lib.decodeGo (s.extract i s.size) = Utf8.decode s i := by
  have hz : (s.extract i s.size).size = s.size - i := by simp
  unfold Lib.decodeGo
  rw [if_neg (by omega), Lib.decode_at, Lib.decode_at, hz]
  simp only [ext_get, Nat.sub_zero, Nat.add_zero, Nat.zero_add]
def by' (s : ByteArray) (i : Nat) : Nat := (s.get! i).toNat
theorem by_lt (s : ByteArray) (i : Nat) : by' s i < 256 := (s.get! i).toNat_lt
theorem atS_by {s : ByteArray} {i : Int} {k : Nat} (hi : i = k) (h : k < s.size) : atS s i = some ((by' s k : Nat) : Int) := by
  subst hi
  unfold atS
  rw [dif_pos ⟨by omega, by simpa using h⟩]
  have h' : k < s.data.size := h
  have e : s.get! k = s[k]'h := by
    show s.data[k]! = s.data[k]
    rw [getElem!_pos s.data k h']
  simp only [by', e, Int.toNat_natCast]
theorem and31 {x : Nat} (h : x < 256) : andK .i64 (x : Int) 31 = ((x % 32 : Nat) : Int) := (show ∀ n : Fin 256, andK .i64 ((n.val : Nat) : Int) 31 = ((n.val % 32 : Nat) : Int) by decide +kernel) ⟨x, h⟩
theorem and15 {x : Nat} (h : x < 256) : andK .i64 (x : Int) 15 = ((x % 16 : Nat) : Int) := (show ∀ n : Fin 256, andK .i64 ((n.val : Nat) : Int) 15 = ((n.val % 16 : Nat) : Int) by decide +kernel) ⟨x, h⟩
theorem and7 {x : Nat} (h : x < 256) : andK .i64 (x : Int) 7 = ((x % 8 : Nat) : Int) := (show ∀ n : Fin 256, andK .i64 ((n.val : Nat) : Int) 7 = ((n.val % 8 : Nat) : Int) by decide +kernel) ⟨x, h⟩
theorem wr_eq {x : Int} (h1 : -9223372036854775808 ≤ x) (h2 : x < 9223372036854775808) : wr .i64 x = x := wrap_eq h1 h2
/-- A sign, and where the next one begins. -/
def sg (s : ByteArray) (i : Nat) : Int × Int × Bool :=
  if (Utf8.decode s i).1 = 65533 ∧ (Utf8.decode s i).2 ≤ 1 then (0, 0, false) else (((Utf8.decode s i).1 : Nat), ((i + (Utf8.decode s i).2 : Nat) : Int), true)
theorem decodeN_bnd {n b0 b1 b2 b3 : Nat} (hn : 1 ≤ n) (h0 : b0 < 256) : (Lib.decodeN n b0 b1 b2 b3).1 ≤ 1114111 ∧ 1 ≤ (Lib.decodeN n b0 b1 b2 b3).2 ∧ (Lib.decodeN n b0 b1 b2 b3).2 ≤ n := by
  unfold Lib.decodeN
  repeat' split
  all_goals simp only
  all_goals omega
theorem decode_bnd {s : ByteArray} {i : Nat} (h : i < s.size) : (Utf8.decode s i).1 ≤ 1114111 ∧ 1 ≤ (Utf8.decode s i).2 ∧ i + (Utf8.decode s i).2 ≤ s.size := by
  rw [Lib.decode_at]
  have := decodeN_bnd (n := s.size - i) (b0 := (s.get! i).toNat) (b1 := (s.get! (i + 1)).toNat) (b2 := (s.get! (i + 2)).toNat) (b3 := (s.get! (i + 3)).toNat) (by omega) (by_lt s i)
  omega
theorem sg_impl {s : ByteArray} {i : Nat} (h : i < s.size) (hs : s.size ≤ 4000000) : impl_SignAt s i = some (sg s i) := by
  obtain ⟨b1, b2, b3⟩ := decode_bnd h
  have e1 : impl_in (i : Int) 0 (subI (lenS s) 1) = some true := by
    rw [impl_in, geI_t (by omega), subI_eq (by simp only [lenS]; omega) (by simp only [lenS]; omega), leI_t (by simp only [lenS]; omega)]; rfl
  have e2 : subS s i (lenS s) = some (s.extract i s.size) := by
    unfold subS lenS
    rw [if_pos ⟨by omega, by omega, by omega⟩]
    simp
  have e3 : decodeI (s.extract i s.size) = ((((Utf8.decode s i).1 : Nat) : Int), (((Utf8.decode s i).2 : Nat) : Int)) := by
    rw [decodeI, decodeGo_ext s i h]
  rw [impl_SignAt, e1]
  simp only [some_bnd, if_true, e2, unicode_utf8_DecodeRuneInString, e3]
  rw [wr_eq (by omega) (by omega), addI_eq (by omega) (by omega)]
  unfold sg
  by_cases c1 : (Utf8.decode s i).1 = 65533
  · rw [eqI_t (by omega)]
    by_cases c2 : (Utf8.decode s i).2 ≤ 1
    · rw [leI_t (by omega)]; simp only [if_true, Bool.false_eq_true, if_false]; rw [if_pos ⟨c1, c2⟩]
    · rw [leI_f (by omega)]; simp only [if_true, Bool.false_eq_true, if_false]; rw [if_neg (fun h => c2 h.2)]
      simp
  · rw [eqI_f (by omega)]; simp only [if_true, Bool.false_eq_true, if_false]; rw [if_neg (fun h => c1 h.1)]
    simp
/-- What the other one reckons, in numbers. -/
def sgN (n b0 b1 b2 b3 i : Nat) : Int × Int × Bool :=
  if (Lib.decodeN n b0 b1 b2 b3).1 = 65533 ∧ (Lib.decodeN n b0 b1 b2 b3).2 ≤ 1 then (0, 0, false) else (((Lib.decodeN n b0 b1 b2 b3).1 : Nat), ((i + (Lib.decodeN n b0 b1 b2 b3).2 : Nat) : Int), true)
theorem sg_N (s : ByteArray) (i : Nat) : sg s i = sgN (s.size - i) (by' s i) (by' s (i + 1)) (by' s (i + 2)) (by' s (i + 3)) i := by
  unfold sg sgN by'
  rw [Lib.decode_at]
theorem l1In_eq (a lo hi : Int) : spec_l1In a lo hi = some (decide (lo ≤ a ∧ a ≤ hi)) := by
  rw [spec_l1In]
  by_cases h : lo ≤ a
  · rw [geI_t h]
    by_cases h2 : a ≤ hi
    · rw [leI_t h2]; simp [h, h2]
    · rw [leI_f h2]; simp [h2]
  · rw [geI_f h]; simp [h]
theorem in_eq (a lo hi : Int) : impl_in a lo hi = some (decide (lo ≤ a ∧ a ≤ hi)) := by
  rw [← l1In_eq, impl_in, spec_l1In]
section
variable {s : ByteArray} {i : Nat}
/-- Behind the bytes. -/
def fin5 (i n least v : Nat) : Int × Int × Bool := if v < least ∨ v > 1114111 ∨ (55296 ≤ v ∧ v ≤ 57343) then (0, 0, false) else ((v : Nat), ((i + 1 + n : Nat) : Int), true)
theorem l55_end (hs : s.size ≤ 4000000) (h : i < s.size) {n least v k : Nat} (hn : n ≤ 3) (hk : k = n + 1) (hv : v < 100000000) : spec_SignAt_l55 s i n least v k = some (fin5 i n least v) := by
  rw [spec_SignAt_l55, leI_f (by omega)]
  simp only [Bool.false_eq_true, if_false, l1In_eq, some_bnd]
  unfold fin5
  by_cases c1 : v < least
  · rw [ltI_t (by omega)]; simp only [if_true, Bool.false_eq_true, if_false]; rw [if_pos (.inl c1)]
  · rw [ltI_f (by omega)]
    by_cases c2 : v > 1114111
    · rw [gtI_t (by omega)]; simp only [if_true, Bool.false_eq_true, if_false]; rw [if_pos (.inr (.inl c2))]
    · rw [gtI_f (by omega)]
      simp only [Bool.false_eq_true, if_false]
      by_cases c3 : 55296 ≤ v ∧ v ≤ 57343
      · have : decide ((55296 : Int) ≤ (v : Int) ∧ (v : Int) ≤ 57343) = true := by simp; omega
        rw [this, if_pos (show v < least ∨ v > 1114111 ∨ (55296 ≤ v ∧ v ≤ 57343) from .inr (.inr c3))]; rfl
      · have : decide ((55296 : Int) ≤ (v : Int) ∧ (v : Int) ≤ 57343) = false := by simp; omega
        rw [this, addI_eq (a := (i : Int)) (b := 1) (by omega) (by omega), addI_eq (a := (i : Int) + 1) (b := (n : Int)) (by omega) (by omega), if_neg (show ¬(v < least ∨ v > 1114111 ∨ (55296 ≤ v ∧ v ≤ 57343)) by omega)]
        simp only [Bool.false_eq_true, if_false]
        congr 3
theorem l55_step (hs : s.size ≤ 4000000) {n least v k : Nat} (hk : k ≤ n) (hn : n ≤ 3) (h : i + k < s.size) (hv : v < 1000000) :
    spec_SignAt_l55 s i n least v k = if by' s (i + k) < 128 ∨ 191 < by' s (i + k) then some (0, 0, false) else spec_SignAt_l55 s i n least ((v * 64 + by' s (i + k) - 128 : Nat) : Int) ((k + 1 : Nat) : Int) := by
  have hb := by_lt s (i + k)
  have ea : addI (i : Int) (k : Int) = ((i + k : Nat) : Int) := by rw [addI_eq (by omega) (by omega)]; omega
  rw [spec_SignAt_l55, leI_t (by omega), ea, atS_by rfl h]
  simp only [if_true, some_bnd]
  rw [wr_eq (by omega) (by omega)]
  by_cases c1 : by' s (i + k) < 128
  · rw [ltI_t (by omega)]; simp only [if_true, Bool.false_eq_true, if_false]; rw [if_pos (.inl c1)]
  · rw [ltI_f (by omega)]
    by_cases c2 : 191 < by' s (i + k)
    · rw [gtI_t (by omega)]; simp only [if_true, Bool.false_eq_true, if_false]; rw [if_pos (.inr c2)]
    · rw [gtI_f (by omega)]; simp only [if_true, Bool.false_eq_true, if_false]; rw [if_neg (by omega)]
      have em : mulI (v : Int) 64 = ((v * 64 : Nat) : Int) := by
        show IntKind.i64.wrap _ = _
        rw [wrap_eq (by omega) (by omega)]; omega
      rw [em, addI_eq (by omega) (by omega), subI_eq (by omega) (by omega), addI_eq (by omega) (by omega)]
      congr 1
      omega
theorem j26_eq (hs : s.size ≤ 4000000) (h : i < s.size) (n least v : Nat) (hn : 1 ≤ n ∧ n ≤ 3) : spec_SignAt_j26 s i n least v = if i + n < s.size then spec_SignAt_l55 s i n least v ((1 : Nat) : Int) else some (0, 0, false) := by
  rw [spec_SignAt_j26, subI_eq (a := lenS s) (b := 1) (by simp only [lenS]; omega) (by simp only [lenS]; omega), subI_eq (a := lenS s - 1) (b := (n : Int)) (by simp only [lenS]; omega) (by simp only [lenS]; omega)]
  by_cases c : i + n < s.size
  · rw [gtI_f (by simp only [lenS]; omega)]; simp only [if_true, Bool.false_eq_true, if_false]; rw [if_pos c]; rfl
  · rw [gtI_t (by simp only [lenS]; omega)]; simp only [if_true, Bool.false_eq_true, if_false]; rw [if_neg c]
end
/-- The same, as the other one reckons. -/
def specN (n b0 b1 b2 b3 i : Nat) : Int × Int × Bool :=
  if b0 < 128 then ((b0 : Nat), ((i + 1 : Nat) : Int), true)
  else if b0 < 192 then (0, 0, false)
  else if b0 < 224 then (if 1 < n then (if b1 < 128 ∨ 191 < b1 then (0, 0, false) else fin5 i 1 128 (b0 % 32 * 64 + b1 - 128)) else (0, 0, false))
  else if b0 < 240 then (if 2 < n then (if b1 < 128 ∨ 191 < b1 then (0, 0, false) else if b2 < 128 ∨ 191 < b2 then (0, 0, false) else fin5 i 2 2048 ((b0 % 16 * 64 + b1 - 128) * 64 + b2 - 128)) else (0, 0, false))
  else if b0 < 248 then (if 3 < n then (if b1 < 128 ∨ 191 < b1 then (0, 0, false) else if b2 < 128 ∨ 191 < b2 then (0, 0, false) else if b3 < 128 ∨ 191 < b3 then (0, 0, false) else fin5 i 3 65536 (((b0 % 8 * 64 + b1 - 128) * 64 + b2 - 128) * 64 + b3 - 128)) else (0, 0, false))
  else (0, 0, false)
set_option maxRecDepth 100000 in
set_option maxHeartbeats 2000000 in
theorem specN_eq (n b0 b1 b2 b3 i : Nat) (hn : 1 ≤ n) (h0 : b0 < 256) (h1 : b1 < 256) (h2 : b2 < 256) (h3 : b3 < 256) : specN n b0 b1 b2 b3 i = sgN n b0 b1 b2 b3 i := by
  unfold specN sgN Lib.decodeN
  by_cases c0 : b0 < 128
  · simp only [if_pos c0]
    rw [if_neg (by omega)]
  · simp only [if_neg c0]
    by_cases c1 : b0 < 192
    · rw [if_pos c1]
      repeat' split
      all_goals first | rfl | (exfalso; omega)
    · rw [if_neg c1]
      by_cases c2 : b0 < 224
      · rw [if_pos c2]
        have e : b0 % 32 * 64 + b1 % 64 = b0 % 32 * 64 + b1 % 64 := rfl
        unfold fin5
        repeat' split
        all_goals first | rfl | (exfalso; omega) | (refine Prod.ext ?_ (Prod.ext ?_ rfl) <;> simp only <;> omega)
      · rw [if_neg c2]
        by_cases c3 : b0 < 240
        · rw [if_pos c3]
          unfold fin5
          repeat' split
          all_goals first | rfl | (exfalso; omega) | (refine Prod.ext ?_ (Prod.ext ?_ rfl) <;> simp only <;> omega)
        · rw [if_neg c3]
          unfold fin5
          repeat' split
          all_goals first | rfl | (exfalso; omega) | (refine Prod.ext ?_ (Prod.ext ?_ rfl) <;> simp only <;> omega)
theorem sg_spec {s : ByteArray} {i : Nat} (h : i < s.size) (hs : s.size ≤ 4000000) : spec_SignAt s i = some (sg s i) := by
  have h0 := by_lt s i
  have h1 := by_lt s (i + 1)
  have h2 := by_lt s (i + 2)
  have h3 := by_lt s (i + 3)
  rw [sg_N, ← specN_eq _ _ _ _ _ _ (by omega) h0 h1 h2 h3]
  have hx : wr .i64 ((by' s i : Nat) : Int) = ((by' s i : Nat) : Int) := wr_eq (by omega) (by omega)
  have n1 : (1 < s.size - i) = (i + 1 < s.size) := propext ⟨fun h => by omega, fun h => by omega⟩
  have n2 : (2 < s.size - i) = (i + 2 < s.size) := propext ⟨fun h => by omega, fun h => by omega⟩
  have n3 : (3 < s.size - i) = (i + 3 < s.size) := propext ⟨fun h => by omega, fun h => by omega⟩
  unfold specN
  simp only [n1, n2, n3]
  rw [spec_SignAt, ltI_f (by omega), geI_f (by simp only [lenS]; omega), atS_by rfl h]
  simp only [Bool.false_eq_true, if_false, some_bnd, hx]
  rw [addI_eq (by omega) (by omega)]
  generalize hb0 : by' s i = b0 at *
  by_cases c0 : b0 < 128
  · rw [ltI_t (by omega), if_pos c0]; rfl
  · rw [ltI_f (by omega), if_neg c0]
    simp only [Bool.false_eq_true, if_false]
    by_cases c1 : b0 < 192
    · rw [geI_f (by omega), if_pos c1]
      simp only [Bool.false_eq_true, if_false, spec_SignAt_j28, spec_SignAt_j32, hx]
      rw [geI_f (by omega), geI_f (by omega)]
      rfl
    · rw [geI_t (by omega), if_neg c1]
      simp only [if_true, spec_SignAt_j28]
      by_cases c2 : b0 < 224
      · rw [ltI_t (by omega), if_pos c2]
        simp only [if_true, hx, and31 h0]
        refine Eq.trans (j26_eq hs h 1 128 (b0 % 32) (by omega)) ?_
        by_cases d1 : i + 1 < s.size
        · rw [if_pos d1, if_pos d1, l55_step hs (by omega) (by omega) d1 (by omega)]
          split
          · rfl
          · exact l55_end hs h (by omega) (by omega) (by omega)
        · rw [if_neg d1, if_neg d1]
      · rw [ltI_f (by omega), if_neg c2]
        simp only [Bool.false_eq_true, if_false, hx]
        rw [geI_t (by omega)]
        simp only [if_true, spec_SignAt_j32]
        by_cases c3 : b0 < 240
        · rw [ltI_t (by omega), if_pos c3]
          simp only [if_true, hx, and15 h0]
          refine Eq.trans (j26_eq hs h 2 2048 (b0 % 16) (by omega)) ?_
          by_cases d1 : i + 2 < s.size
          · rw [if_pos d1, if_pos d1, l55_step hs (by omega) (by omega) (by omega) (by omega)]
            split
            · rfl
            · rw [l55_step hs (by omega) (by omega) d1 (by omega)]
              split
              · rfl
              · exact l55_end hs h (by omega) (by omega) (by omega)
          · rw [if_neg d1, if_neg d1]
        · rw [ltI_f (by omega), if_neg c3]
          simp only [Bool.false_eq_true, if_false, hx]
          rw [geI_t (by omega)]
          simp only [if_true]
          by_cases c4 : b0 < 248
          · rw [ltI_t (by omega), if_pos c4]
            simp only [if_true, and7 h0]
            refine Eq.trans (j26_eq hs h 3 65536 (b0 % 8) (by omega)) ?_
            by_cases d1 : i + 3 < s.size
            · rw [if_pos d1, if_pos d1, l55_step hs (by omega) (by omega) (by omega) (by omega)]
              split
              · rfl
              · rw [l55_step hs (by omega) (by omega) (by omega) (by omega)]
                split
                · rfl
                · rw [l55_step hs (by omega) (by omega) d1 (by omega)]
                  split
                  · rfl
                  · exact l55_end hs h (by omega) (by omega) (by omega)
            · rw [if_neg d1, if_neg d1]
          · rw [ltI_f (by omega), if_neg c4]; rfl
end TT
