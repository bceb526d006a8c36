import Derived.Test.YtjljocncnibofaaGreatDoorTP0
import Derived.Test.YtjljocncnibofaaGreatDoorTDefs
import Derived.Lib.IndexAny
set_option linter.unusedVariables false
set_option linter.unusedSimpArgs false
namespace TT
open Go
theorem ext_get (s : ByteArray) (i k : Nat) : (s.extract i s.size).get! k = s.get! (i + k) := by
 have e : (s.extract i s.size).data = s.data.extract i s.data.size := by
  first | rfl | simp
 show (s.extract i s.size).data[k]! = s.data[i + k]!
 rw [e]
 simp only [getElem!_def]
 rw [Array.getElem?_extract]
 have hz : s.size = s.data.size := rfl
 by_cases h : k < s.data.size - i
 ·rw [if_pos (by omega)]
 ·have : s.data[i + k]? = none := Array.getElem?_eq_none (by omega)
  rw [if_neg (by omega), this]
theorem decodeGo_ext (s : ByteArray) (i : Nat) (h : i < s.size) : Lib.decodeGo (s.extract i s.size) = Utf8.decode s i := by
 have hz : (s.extract i s.size).size = s.size - i := by simp
 unfold Lib.decodeGo
 rw [if_neg (by omega), Lib.decode_at, Lib.decode_at, hz]
 simp only [ext_get, Nat.sub_zero, Nat.add_zero, Nat.zero_add]
def by' (s : ByteArray) (i : Nat) : Nat := (s.get! i).toNat
theorem by_lt (s : ByteArray) (i : Nat) : by' s i < 256 := (s.get! i).toNat_lt
theorem atS_by {s : ByteArray} {i : Int} {k : Nat} (hi : i = k) (h : k < s.size) : atS s i = some ((by' s k : Nat) : Int) := by
 subst hi
 unfold atS
 rw [dif_pos ⟨by omega, by simpa using h⟩]
 have h' : k < s.data.size := h
 have e : s.get! k = s[k]'h := by
  show s.data[k]! = s.data[k]
  rw [getElem!_pos s.data k h']
 simp only [by', e, Int.toNat_natCast]
theorem and31 {x : Nat} (h : x < 256) : andK .i64 (x : Int) 31 = ((x % 32 : Nat) : Int) := (show ∀ n : Fin 256, andK .i64 ((n.val : Nat) : Int) 31 = ((n.val % 32 : Nat) : Int) by decide +kernel) ⟨x, h⟩
theorem and15 {x : Nat} (h : x < 256) : andK .i64 (x : Int) 15 = ((x % 16 : Nat) : Int) := (show ∀ n : Fin 256, andK .i64 ((n.val : Nat) : Int) 15 = ((n.val % 16 : Nat) : Int) by decide +kernel) ⟨x, h⟩
theorem and7 {x : Nat} (h : x < 256) : andK .i64 (x : Int) 7 = ((x % 8 : Nat) : Int) := (show ∀ n : Fin 256, andK .i64 ((n.val : Nat) : Int) 7 = ((n.val % 8 : Nat) : Int) by decide +kernel) ⟨x, h⟩
theorem wr_eq {x : Int} (h1 : -9223372036854775808 ≤ x) (h2 : x < 9223372036854775808) : wr .i64 x = x := wrap_eq h1 h2
def sg (s : ByteArray) (i : Nat) : Int × Int × Bool :=
 if (Utf8.decode s i).1 = 65533 ∧ (Utf8.decode s i).2 ≤ 1 then (0, 0, false) else (((Utf8.decode s i).1 : Nat), ((i + (Utf8.decode s i).2 : Nat) : Int), true)
theorem decodeN_bnd {n b0 b1 b2 b3 : Nat} (hn : 1 ≤ n) (h0 : b0 < 256) : (Lib.decodeN n b0 b1 b2 b3).1 ≤ 1114111 ∧ 1 ≤ (Lib.decodeN n b0 b1 b2 b3).2 ∧ (Lib.decodeN n b0 b1 b2 b3).2 ≤ n := by
 unfold Lib.decodeN
 repeat' split
 all_goals simp only
 all_goals omega
theorem decode_bnd {s : ByteArray} {i : Nat} (h : i < s.size) : (Utf8.decode s i).1 ≤ 1114111 ∧ 1 ≤ (Utf8.decode s i).2 ∧ i + (Utf8.decode s i).2 ≤ s.size := by
 rw [Lib.decode_at]
 have := decodeN_bnd (n := s.size - i) (b0 := (s.get! i).toNat) (b1 := (s.get! (i + 1)).toNat) (b2 := (s.get! (i + 2)).toNat) (b3 := (s.get! (i + 3)).toNat) (by omega) (by_lt s i)
 omega
theorem sg_impl {s : ByteArray} {i : Nat} (h : i < s.size) (hs : s.size ≤ 4000000) : impl_SignAt s i = some (sg s i) := by
 obtain ⟨b1, b2, b3⟩ := decode_bnd h
 have e1 : impl_in (i : Int) 0 (subI (lenS s) 1) = some true := by
  rw [impl_in, geI_t (by omega), subI_eq (by simp only [lenS]; omega) (by simp only [lenS]; omega), leI_t (by simp only [lenS]; omega)]; rfl
 have e2 : subS s i (lenS s) = some (s.extract i s.size) := by
  unfold subS lenS
  rw [if_pos ⟨by omega, by omega, by omega⟩]
  simp
 have e3 : decodeI (s.extract i s.size) = ((((Utf8.decode s i).1 : Nat) : Int), (((Utf8.decode s i).2 : Nat) : Int)) := by
  rw [decodeI, decodeGo_ext s i h]
 rw [impl_SignAt, e1]
 simp only [some_bnd, if_true, e2, unicode_utf8_DecodeRuneInString, e3]
 rw [wr_eq (by omega) (by omega), addI_eq (by omega) (by omega)]
 unfold sg
 by_cases c1 : (Utf8.decode s i).1 = 65533
 ·rw [eqI_t (by omega)]
  by_cases c2 : (Utf8.decode s i).2 ≤ 1
  ·rw [leI_t (by omega)]; simp only [if_true, Bool.false_eq_true, if_false]; rw [if_pos ⟨c1, c2⟩]
  ·rw [leI_f (by omega)]; simp only [if_true, Bool.false_eq_true, if_false]; rw [if_neg (fun h => c2 h.2)]
   simp
 ·rw [eqI_f (by omega)]; simp only [if_true, Bool.false_eq_true, if_false]; rw [if_neg (fun h => c1 h.1)]
  simp
def sgN (n b0 b1 b2 b3 i : Nat) : Int × Int × Bool :=
 if (Lib.decodeN n b0 b1 b2 b3).1 = 65533 ∧ (Lib.decodeN n b0 b1 b2 b3).2 ≤ 1 then (0, 0, false) else (((Lib.decodeN n b0 b1 b2 b3).1 : Nat), ((i + (Lib.decodeN n b0 b1 b2 b3).2 : Nat) : Int), true)
theorem sg_N (s : ByteArray) (i : Nat) : sg s i = sgN (s.size - i) (by' s i) (by' s (i + 1)) (by' s (i + 2)) (by' s (i + 3)) i := by
 unfold sg sgN by'
 rw [Lib.decode_at]
theorem l1In_eq (a lo hi : Int) : spec_l1In a lo hi = some (decide (lo ≤ a ∧ a ≤ hi)) := by
 rw [spec_l1In]
 by_cases h : lo ≤ a
 ·rw [geI_t h]
  by_cases h2 : a ≤ hi
  ·rw [leI_t h2]; simp [h, h2]
  ·rw [leI_f h2]; simp [h2]
 ·rw [geI_f h]; simp [h]
theorem in_eq (a lo hi : Int) : impl_in a lo hi = some (decide (lo ≤ a ∧ a ≤ hi)) := by
 rw [← l1In_eq, impl_in, spec_l1In]
section
variable {s : ByteArray} {i : Nat}
def fin5 (i n least v : Nat) : Int × Int × Bool := if v < least ∨ v > 1114111 ∨ (55296 ≤ v ∧ v ≤ 57343) then (0, 0, false) else ((v : Nat), ((i + 1 + n : Nat) : Int), true)
theorem l55_end (hs : s.size ≤ 4000000) (h : i < s.size) {n least v k : Nat} (hn : n ≤ 3) (hk : k = n + 1) (hv : v < 100000000) : spec_SignAt_l55 s i n least v k = some (fin5 i n least v) := by
 rw [spec_SignAt_l55, leI_f (by omega)]
 simp only [Bool.false_eq_true, if_false, l1In_eq, some_bnd]
 unfold fin5
 by_cases c1 : v < least
 ·rw [ltI_t (by omega)]; simp only [if_true, Bool.false_eq_true, if_false]; rw [if_pos (.inl c1)]
 ·rw [ltI_f (by omega)]
  by_cases c2 : v > 1114111
  ·rw [gtI_t (by omega)]; simp only [if_true, Bool.false_eq_true, if_false]; rw [if_pos (.inr (.inl c2))]
  ·rw [gtI_f (by omega)]
   simp only [Bool.false_eq_true, if_false]
   by_cases c3 : 55296 ≤ v ∧ v ≤ 57343
   ·have : decide ((55296 : Int) ≤ (v : Int) ∧ (v : Int) ≤ 57343) = true := by simp; omega
    rw [this, if_pos (show v < least ∨ v > 1114111 ∨ (55296 ≤ v ∧ v ≤ 57343) from .inr (.inr c3))]; rfl
   ·have : decide ((55296 : Int) ≤ (v : Int) ∧ (v : Int) ≤ 57343) = false := by simp; omega
    rw [this, addI_eq (a := (i : Int)) (b := 1) (by omega) (by omega), addI_eq (a := (i : Int) + 1) (b := (n : Int)) (by omega) (by omega), if_neg (show ¬(v < least ∨ v > 1114111 ∨ (55296 ≤ v ∧ v ≤ 57343)) by omega)]
    simp only [Bool.false_eq_true, if_false]
    congr 3
theorem l55_step (hs : s.size ≤ 4000000) {n least v k : Nat} (hk : k ≤ n) (hn : n ≤ 3) (h : i + k < s.size) (hv : v < 1000000) :
  spec_SignAt_l55 s i n least v k = if by' s (i + k) < 128 ∨ 191 < by' s (i + k) then some (0, 0, false) else spec_SignAt_l55 s i n least ((v * 64 + by' s (i + k) - 128 : Nat) : Int) ((k + 1 : Nat) : Int) := by
 have hb := by_lt s (i + k)
 have ea : addI (i : Int) (k : Int) = ((i + k : Nat) : Int) := by rw [addI_eq (by omega) (by omega)]; omega
 rw [spec_SignAt_l55, leI_t (by omega), ea, atS_by rfl h]
 simp only [if_true, some_bnd]
 rw [wr_eq (by omega) (by omega)]
 by_cases c1 : by' s (i + k) < 128
 ·rw [ltI_t (by omega)]; simp only [if_true, Bool.false_eq_true, if_false]; rw [if_pos (.inl c1)]
 ·rw [ltI_f (by omega)]
  by_cases c2 : 191 < by' s (i + k)
  ·rw [gtI_t (by omega)]; simp only [if_true, Bool.false_eq_true, if_false]; rw [if_pos (.inr c2)]
  ·rw [gtI_f (by omega)]; simp only [if_true, Bool.false_eq_true, if_false]; rw [if_neg (by omega)]
   have em : mulI (v : Int) 64 = ((v * 64 : Nat) : Int) := by
    show IntKind.i64.wrap _ = _
    rw [wrap_eq (by omega) (by omega)]; omega
   rw [em, addI_eq (by omega) (by omega), subI_eq (by omega) (by omega), addI_eq (by omega) (by omega)]
   congr 1
   omega
theorem j26_eq (hs : s.size ≤ 4000000) (h : i < s.size) (n least v : Nat) (hn : 1 ≤ n ∧ n ≤ 3) : spec_SignAt_j26 s i n least v = if i + n < s.size then spec_SignAt_l55 s i n least v ((1 : Nat) : Int) else some (0, 0, false) := by
 rw [spec_SignAt_j26, subI_eq (a := lenS s) (b := 1) (by simp only [lenS]; omega) (by simp only [lenS]; omega), subI_eq (a := lenS s - 1) (b := (n : Int)) (by simp only [lenS]; omega) (by simp only [lenS]; omega)]
 by_cases c : i + n < s.size
 ·rw [gtI_f (by simp only [lenS]; omega)]; simp only [if_true, Bool.false_eq_true, if_false]; rw [if_pos c]; rfl
 ·rw [gtI_t (by simp only [lenS]; omega)]; simp only [if_true, Bool.false_eq_true, if_false]; rw [if_neg c]
end
def specN (n b0 b1 b2 b3 i : Nat) : Int × Int × Bool :=
 if b0 < 128 then ((b0 : Nat), ((i + 1 : Nat) : Int), true)
 else if b0 < 192 then (0, 0, false)
 else if b0 < 224 then (if 1 < n then (if b1 < 128 ∨ 191 < b1 then (0, 0, false) else fin5 i 1 128 (b0 % 32 * 64 + b1 - 128)) else (0, 0, false))
 else if b0 < 240 then (if 2 < n then (if b1 < 128 ∨ 191 < b1 then (0, 0, false) else if b2 < 128 ∨ 191 < b2 then (0, 0, false) else fin5 i 2 2048 ((b0 % 16 * 64 + b1 - 128) * 64 + b2 - 128)) else (0, 0, false))
 else if b0 < 248 then (if 3 < n then (if b1 < 128 ∨ 191 < b1 then (0, 0, false) else if b2 < 128 ∨ 191 < b2 then (0, 0, false) else if b3 < 128 ∨ 191 < b3 then (0, 0, false) else fin5 i 3 65536 (((b0 % 8 * 64 + b1 - 128) * 64 + b2 - 128) * 64 + b3 - 128)) else (0, 0, false))
 else (0, 0, false)
set_option maxRecDepth 100000 in
set_option maxHeartbeats 2000000 in
theorem specN_eq (n b0 b1 b2 b3 i : Nat) (hn : 1 ≤ n) (h0 : b0 < 256) (h1 : b1 < 256) (h2 : b2 < 256) (h3 : b3 < 256) : specN n b0 b1 b2 b3 i = sgN n b0 b1 b2 b3 i := by
 unfold specN sgN Lib.decodeN
 by_cases c0 : b0 < 128
 ·simp only [if_pos c0]
  rw [if_neg (by omega)]
 ·simp only [if_neg c0]
  by_cases c1 : b0 < 192
  ·rw [if_pos c1]
   repeat' split
   all_goals first | rfl | (exfalso; omega)
  ·rw [if_neg c1]
   by_cases c2 : b0 < 224
   ·rw [if_pos c2]
    have e : b0 % 32 * 64 + b1 % 64 = b0 % 32 * 64 + b1 % 64 := rfl
    unfold fin5
    repeat' split
    all_goals first | rfl | (exfalso; omega) | (refine Prod.ext ?_ (Prod.ext ?_ rfl) <;> simp only <;> omega)
   ·rw [if_neg c2]
    by_cases c3 : b0 < 240
    ·rw [if_pos c3]
     unfold fin5
     repeat' split
     all_goals first | rfl | (exfalso; omega) | (refine Prod.ext ?_ (Prod.ext ?_ rfl) <;> simp only <;> omega)
    ·rw [if_neg c3]
     unfold fin5
     repeat' split
     all_goals first | rfl | (exfalso; omega) | (refine Prod.ext ?_ (Prod.ext ?_ rfl) <;> simp only <;> omega)
theorem sg_spec {s : ByteArray} {i : Nat} (h : i < s.size) (hs : s.size ≤ 4000000) : spec_SignAt s i = some (sg s i) := by
 have h0 := by_lt s i
 have h1 := by_lt s (i + 1)
 have h2 := by_lt s (i + 2)
 have h3 := by_lt s (i + 3)
 rw [sg_N, ← specN_eq _ _ _ _ _ _ (by omega) h0 h1 h2 h3]
 have hx : wr .i64 ((by' s i : Nat) : Int) = ((by' s i : Nat) : Int) := wr_eq (by omega) (by omega)
 have n1 : (1 < s.size - i) = (i + 1 < s.size) := propext ⟨fun h => by omega, fun h => by omega⟩
 have n2 : (2 < s.size - i) = (i + 2 < s.size) := propext ⟨fun h => by omega, fun h => by omega⟩
 have n3 : (3 < s.size - i) = (i + 3 < s.size) := propext ⟨fun h => by omega, fun h => by omega⟩
 unfold specN
 simp only [n1, n2, n3]
 rw [spec_SignAt, ltI_f (by omega), geI_f (by simp only [lenS]; omega), atS_by rfl h]
 simp only [Bool.false_eq_true, if_false, some_bnd, hx]
 rw [addI_eq (by omega) (by omega)]
 generalize hb0 : by' s i = b0 at *
 by_cases c0 : b0 < 128
 ·rw [ltI_t (by omega), if_pos c0]; rfl
 ·rw [ltI_f (by omega), if_neg c0]
  simp only [Bool.false_eq_true, if_false]
  by_cases c1 : b0 < 192
  ·rw [geI_f (by omega), if_pos c1]
   simp only [Bool.false_eq_true, if_false, spec_SignAt_j28, spec_SignAt_j32, hx]
   rw [geI_f (by omega), geI_f (by omega)]
   rfl
  ·rw [geI_t (by omega), if_neg c1]
   simp only [if_true, spec_SignAt_j28]
   by_cases c2 : b0 < 224
   ·rw [ltI_t (by omega), if_pos c2]
    simp only [if_true, hx, and31 h0]
    refine Eq.trans (j26_eq hs h 1 128 (b0 % 32) (by omega)) ?_
    by_cases d1 : i + 1 < s.size
    ·rw [if_pos d1, if_pos d1, l55_step hs (by omega) (by omega) d1 (by omega)]
     split
     ·rfl
     ·exact l55_end hs h (by omega) (by omega) (by omega)
    ·rw [if_neg d1, if_neg d1]
   ·rw [ltI_f (by omega), if_neg c2]
    simp only [Bool.false_eq_true, if_false, hx]
    rw [geI_t (by omega)]
    simp only [if_true, spec_SignAt_j32]
    by_cases c3 : b0 < 240
    ·rw [ltI_t (by omega), if_pos c3]
     simp only [if_true, hx, and15 h0]
     refine Eq.trans (j26_eq hs h 2 2048 (b0 % 16) (by omega)) ?_
     by_cases d1 : i + 2 < s.size
     ·rw [if_pos d1, if_pos d1, l55_step hs (by omega) (by omega) (by omega) (by omega)]
      split
      ·rfl
      ·rw [l55_step hs (by omega) (by omega) d1 (by omega)]
       split
       ·rfl
       ·exact l55_end hs h (by omega) (by omega) (by omega)
     ·rw [if_neg d1, if_neg d1]
    ·rw [ltI_f (by omega), if_neg c3]
     simp only [Bool.false_eq_true, if_false, hx]
     rw [geI_t (by omega)]
     simp only [if_true]
     by_cases c4 : b0 < 248
     ·rw [ltI_t (by omega), if_pos c4]
      simp only [if_true, and7 h0]
      refine Eq.trans (j26_eq hs h 3 65536 (b0 % 8) (by omega)) ?_
      by_cases d1 : i + 3 < s.size
      ·rw [if_pos d1, if_pos d1, l55_step hs (by omega) (by omega) (by omega) (by omega)]
       split
       ·rfl
       ·rw [l55_step hs (by omega) (by omega) (by omega) (by omega)]
        split
        ·rfl
        ·rw [l55_step hs (by omega) (by omega) d1 (by omega)]
         split
         ·rfl
         ·exact l55_end hs h (by omega) (by omega) (by omega)
      ·rw [if_neg d1, if_neg d1]
     ·rw [ltI_f (by omega), if_neg c4]; rfl
end TT
namespace TT
open Go
def isR (n : Int) (l : List (Int × Int)) : Bool := l.any fun p => decide (p.1 ≤ n ∧ n ≤ p.2)
def flat2 : List (Int × Int) → List Int
 | [] => []
 | p :: l => p.1 :: p.2 :: flat2 l
theorem flat2_len (l : List (Int × Int)) : (flat2 l).length = 2 * l.length := by
 induction l with
 | nil => rfl
 | cons p l ih => simp [flat2, ih]; omega
theorem ranges_spec (n : Int) (L : List Int) (hL : L.length ≤ 4000000) : ∀ (rest : List (Int × Int)) (pre : List Int), pre ++ flat2 rest = L → spec_l1Ranges_l6 n L pre.length = some (isR n rest)
 | [], pre, hp => by
  have hl : pre.length = L.length := by rw [← hp]; simp [flat2]
  rw [spec_l1Ranges_l6, addI_eq (by omega) (by omega), ltI_f (by simp only [lenL]; omega)]; rfl
 | p :: rest, pre, hp => by
  have hl : pre.length + 2 ≤ L.length := by rw [← hp]; simp [flat2]
  have e1 : getI L (pre.length : Int) = some p.1 := getI_at (rest := p.2 :: flat2 rest) hp
  have e2 : getI L ((pre.length : Int) + 1) = some p.2 := by
   have := getI_at (pre := pre ++ [p.1]) (rest := flat2 rest) (x := p.2) (l := L) (by rw [← hp]; simp [flat2])
   simpa using this
  have ih := ranges_spec n L hL rest (pre ++ [p.1, p.2]) (by rw [← hp]; simp [flat2])
  rw [spec_l1Ranges_l6, addI_eq (a := (pre.length : Int)) (b := 1) (by omega) (by omega), ltI_t (by simp only [lenL]; omega), addI_eq (a := (pre.length : Int)) (b := 2) (by omega) (by omega)]
  simp only [if_true, e1, e2, some_bnd, l1In_eq]
  have e3 : ((pre.length : Int) + 2) = (((pre ++ [p.1, p.2]).length : Nat) : Int) := by simp
  rw [e3, ih]
  simp only [isR, List.any_cons]
  cases decide (p.1 ≤ n ∧ n ≤ p.2) <;> simp
theorem ranges_impl (n : Int) (L : List GArr2Int) (hL : L.length ≤ 4000000) : ∀ (rest : List (Int × Int)) (pre : List GArr2Int), pre ++ rest.map (fun p => GArr2Int.mk p.1 p.2) = L → ∃ k, slices_IndexFunc_A2int_inAny_1_l6 L pre.length n = some (k, n) ∧ geI k 0 = isR n rest
 | [], pre, hp => by
  refine ⟨-1, ?_, rfl⟩
  rw [slices_IndexFunc_A2int_inAny_1_l6, end_at (by simpa using hp)]; rfl
 | p :: rest, pre, hp => by
  obtain ⟨k, h1, h2⟩ := ranges_impl n L hL rest (pre ++ [GArr2Int.mk p.1 p.2]) (by rw [← hp]; simp)
  have hp' : pre ++ GArr2Int.mk p.1 p.2 :: rest.map (fun p => GArr2Int.mk p.1 p.2) = L := by rw [← hp]; rfl
  rw [slices_IndexFunc_A2int_inAny_1_l6, more_at hp', getI_at hp', next_at hp' (by rw [maxLen_eq]; omega)]
  simp only [if_true, some_bnd, impl_inAny_1, in_eq, isR, List.any_cons]
  cases hd : decide (p.1 ≤ n ∧ n ≤ p.2) with
  | true => exact ⟨pre.length, by simp, by rw [geI_t (by omega)]; rfl⟩
  | false => exact ⟨k, by simpa using h1, by rw [h2]; rfl⟩
theorem inAny_eq (n : Int) (l : List (Int × Int)) (hl : l.length ≤ 1000) : impl_inAny n (l.map fun p => GArr2Int.mk p.1 p.2) = some (isR n l) := by
 obtain ⟨k, h1, h2⟩ := ranges_impl n _ (by simp; omega) l [] rfl
 rw [impl_inAny, slices_ContainsFunc_A2int_inAny_1, slices_IndexFunc_A2int_inAny_1]
 have h1' : slices_IndexFunc_A2int_inAny_1_l6 (l.map fun p => GArr2Int.mk p.1 p.2) 0 n = some (k, n) := h1
 rw [h1']
 simp only [some_bnd, h2]
theorem ranges_eq (n : Int) (l : List (Int × Int)) (hl : l.length ≤ 1000) : spec_l1Ranges n (flat2 l) = some (isR n l) := by
 rw [spec_l1Ranges]
 exact ranges_spec n _ (by rw [flat2_len]; omega) l [] rfl
def startL : List (Int × Int) := [(65, 90), (95, 95), (97, 122), (192, 214), (216, 246), (248, 767), (880, 893), (895, 8191), (8204, 8205), (8304, 8591), (11264, 12271), (12289, 55295), (63744, 64975), (65008, 65533), (65536, 983039)]
def partL : List (Int × Int) := [(45, 46), (48, 57), (183, 183), (768, 879), (8255, 8256)]
def signL : List (Int × Int) := [(9, 10), (13, 13), (32, 55295), (57344, 65533), (65536, 1114111)]
def startB (n : Int) : Bool := isR n startL
def partB (n : Int) : Bool := startB n || isR n partL
theorem start_spec (n : Int) : spec_IsStart n = some (startB n) := by
 have e := ranges_eq n startL (by decide)
 simp only [startL, flat2] at e
 rw [spec_IsStart, e]; rfl
theorem start_impl (n : Int) : impl_IsStart n = some (startB n) := by
 have e := inAny_eq n startL (by decide)
 simp only [startL, List.map_cons, List.map_nil] at e
 rw [impl_IsStart, e]; rfl
theorem part_spec (n : Int) : spec_IsPart n = some (partB n) := by
 have e := ranges_eq n partL (by decide)
 simp only [partL, flat2] at e
 rw [spec_IsPart, start_spec, e]
 simp only [some_bnd, partB]
 cases startB n <;> rfl
theorem part_impl (n : Int) : impl_IsPart n = some (partB n) := by
 have e := inAny_eq n partL (by decide)
 simp only [partL, List.map_cons, List.map_nil] at e
 rw [impl_IsPart, start_impl, e]
 simp only [some_bnd, partB]
 cases startB n <;> rfl
def signB (n : Int) : Bool := isR n signL
theorem sign_impl (n : Int) : impl_IsSign n = some (signB n) := by
 have e := inAny_eq n signL (by decide)
 simp only [signL, List.map_cons, List.map_nil] at e
 rw [impl_IsSign, e]; rfl
theorem sign_spec (n : Int) : spec_IsSign n = some (signB n) := by
 have hb : signB n = (decide (n = 9) || (decide (n = 10) || (decide (n = 13) || (decide (32 ≤ n ∧ n ≤ 55295) || (decide (57344 ≤ n ∧ n ≤ 65533) || decide (65536 ≤ n ∧ n ≤ 1114111)))))) := by
  rw [Bool.eq_iff_iff]
  simp [signB, isR, signL]
  omega
 have e (m : Int) : eqI n m = decide (n = m) := by
  by_cases h : n = m
  ·rw [eqI_t h]; simp [h]
  ·rw [eqI_f h]; simp [h]
 rw [spec_IsSign, hb]
 simp only [e, l1In_eq, some_bnd]
 cases decide (n = 9) <;> cases decide (n = 10) <;> cases decide (n = 13) <;> cases decide (32 ≤ n ∧ n ≤ 55295) <;> cases decide (57344 ≤ n ∧ n ≤ 65533) <;> simp
theorem sg_ok {s : ByteArray} {i : Nat} (h : i < s.size) : (sg s i).2.2 = true → ∃ k, (sg s i).2.1 = ((i + k : Nat) : Int) ∧ 1 ≤ k ∧ i + k ≤ s.size ∧ ((k = 1 ∧ (sg s i).1 = by' s i) ∨ ∀ j, i ≤ j → j < i + k → 128 ≤ by' s j) := by
 obtain ⟨b1, b2, b3⟩ := decode_bnd h
 unfold sg
 split
 ·intro h; cases h
 ·intro _
  refine ⟨(Utf8.decode s i).2, rfl, b2, b3, ?_⟩
  rename_i hne
  have h0 := by_lt s i
  simp only
  rw [Lib.decode_at] at hne ⊢
  simp only [show (s.get! i).toNat = by' s i from rfl, show (s.get! (i + 1)).toNat = by' s (i + 1) from rfl, show (s.get! (i + 2)).toNat = by' s (i + 2) from rfl, show (s.get! (i + 3)).toNat = by' s (i + 3) from rfl] at hne ⊢
  revert hne
  unfold Lib.decodeN
  by_cases c0 : by' s i < 128
  ·simp only [if_pos c0]; intro _; left; simp
  ·simp only [if_neg c0]
   have hj : ∀ j, j = i ∨ j = i + 1 ∨ j = i + 2 ∨ j = i + 3 → (j = i + 1 → 128 ≤ by' s (i + 1)) → (j = i + 2 → 128 ≤ by' s (i + 2)) → (j = i + 3 → 128 ≤ by' s (i + 3)) → 128 ≤ by' s j := by
    rintro j (rfl | rfl | rfl | rfl) a b c
    ·omega
    ·exact a rfl
    ·exact b rfl
    ·exact c rfl
   repeat' split
   all_goals intro hne
   all_goals first
    | (exfalso; exact hne ⟨rfl, Nat.le_refl _⟩)
    | (refine .inr fun j h1 h2 => hj j (by omega) (fun _ => by omega) (fun _ => by omega) (fun _ => by omega))
def lenB (s : ByteArray) : Bool := decide ((1 : Int) ≤ lenS s ∧ lenS s ≤ 16)
theorem plain_loop (s : ByteArray) (hs : s.size ≤ 4000000) : ∀ (m i : Nat), i ≤ s.size → s.size - i ≤ m → ∃ b, spec_PlainOk_l14 s i = some b ∧ impl_PlainOk_l6 s i = some (b && lenB s) ∧ (b = true → ∀ j, i ≤ j → j < s.size → by' s j ≠ 58)
 | 0, i, h, hm => ⟨true, by rw [spec_PlainOk_l14, ltI_f (by simp only [lenS]; omega)]; rfl, by rw [impl_PlainOk_l6, ltI_f (by simp only [lenS]; omega), in_eq]; rfl, fun _ j h1 h2 => by omega⟩
 | m + 1, i, h, hm => by
  by_cases hi : i < s.size
  ·rw [spec_PlainOk_l14, impl_PlainOk_l6, ltI_t (by simp only [lenS]; omega), sg_spec hi hs, sg_impl hi hs]
   simp only [if_true, some_bnd, start_spec, start_impl, part_spec, part_impl]
   cases hok : (sg s i).2.2 with
   | false => exact ⟨false, by simp, by simp, by simp⟩
   | true =>
    obtain ⟨k, e1, e2, e3, e4⟩ := sg_ok hi hok
    obtain ⟨b, f1, f2, f3⟩ := plain_loop s hs m (i + k) e3 (by omega)
    rw [e1]
    simp only [if_true, f1, f2]
    by_cases hp : partB (sg s i).1 = true
    ·have hc : b = true → ∀ j, i ≤ j → j < s.size → by' s j ≠ 58 := fun hb j h1 h2 h3 => by
      by_cases hj : j < i + k
      ·rcases e4 with ⟨r1, r2⟩ | r
       ·have : j = i := by omega
        subst this
        rw [r2, h3] at hp
        revert hp; decide
       ·have := r j h1 hj; omega
      ·exact f3 hb j (by omega) h2 h3
     by_cases h0 : eqI (i : Int) 0 = true
     ·by_cases hst : startB (sg s i).1 = true
      ·exact ⟨b, by simp [h0, hst, hp], by simp [h0, hst, hp], hc⟩
      ·exact ⟨false, by simp [h0, hst], by simp [h0, hst], by simp⟩
     ·exact ⟨b, by simp [h0, hp], by simp [h0, hp], hc⟩
    ·refine ⟨false, ?_, ?_, by simp⟩
     ·by_cases h0 : eqI (i : Int) 0 = true <;> by_cases hst : startB (sg s i).1 = true <;> simp [h0, hst, hp]
     ·by_cases h0 : eqI (i : Int) 0 = true <;> by_cases hst : startB (sg s i).1 = true <;> simp [h0, hst, hp]
  ·exact ⟨true, by rw [spec_PlainOk_l14, ltI_f (by simp only [lenS]; omega)]; rfl, by rw [impl_PlainOk_l6, ltI_f (by simp only [lenS]; omega), in_eq]; rfl, fun _ j h1 h2 => by omega⟩
def plainB (s : ByteArray) : Bool := (spec_PlainOk s).getD false
theorem plain_all (s : ByteArray) (hs : s.size ≤ 4000000) : spec_PlainOk s = some (plainB s) ∧ impl_PlainOk s = some (plainB s) ∧ (plainB s = true → 1 ≤ s.size ∧ ∀ j, j < s.size → by' s j ≠ 58) := by
 obtain ⟨b, h1, h2, h3⟩ := plain_loop s hs s.size 0 (Nat.zero_le _) (by omega)
 have e1 : spec_PlainOk s = some (b && lenB s) := by
  rw [spec_PlainOk, l1In_eq]
  simp only [some_bnd]
  have h1' : spec_PlainOk_l14 s 0 = some b := h1
  have : lenB s = decide ((1 : Int) ≤ lenS s ∧ lenS s ≤ 16) := rfl
  rw [← this, h1']
  cases lenB s <;> cases b <;> rfl
 have e2 : plainB s = (b && lenB s) := by rw [plainB, e1]; rfl
 refine ⟨by rw [e1, e2], by rw [impl_PlainOk, e2]; exact h2, fun h => ?_⟩
 rw [e2, Bool.and_eq_true] at h
 refine ⟨?_, fun j hj => h3 h.1 j (Nat.zero_le _) hj⟩
 obtain ⟨t1, _⟩ := of_decide_eq_true h.2
 simp only [lenS] at t1
 omega
theorem signs_loop (s : ByteArray) (hs : s.size ≤ 1500) : ∀ (m i : Nat), i ≤ s.size → s.size - i ≤ m → ∃ b, spec_l1Signs_l6 s i = some b ∧ impl_signsOk_l6 s i = some b
 | 0, i, h, hm => ⟨true, by rw [spec_l1Signs_l6, ltI_f (by simp only [lenS]; omega), leI_t (by simp only [lenS]; omega)]; rfl, by rw [impl_signsOk_l6, ltI_f (by simp only [lenS]; omega)]; rfl⟩
 | m + 1, i, h, hm => by
  by_cases hi : i < s.size
  ·rw [spec_l1Signs_l6, impl_signsOk_l6, ltI_t (by simp only [lenS]; omega), sg_spec hi (by omega), sg_impl hi (by omega)]
   simp only [if_true, some_bnd, sign_spec, sign_impl]
   cases hok : (sg s i).2.2 with
   | false => exact ⟨false, by simp, by simp⟩
   | true =>
    obtain ⟨k, e1, e2, e3, e4⟩ := sg_ok hi hok
    obtain ⟨b, f1, f2⟩ := signs_loop s hs m (i + k) e3 (by omega)
    rw [e1]
    simp only [if_true, f1, f2]
    cases signB (sg s i).1
    ·exact ⟨false, by simp, by simp⟩
    ·exact ⟨b, by simp, by simp⟩
  ·exact ⟨true, by rw [spec_l1Signs_l6, ltI_f (by simp only [lenS]; omega), leI_t (by simp only [lenS]; omega)]; rfl, by rw [impl_signsOk_l6, ltI_f (by simp only [lenS]; omega)]; rfl⟩
theorem text_all (s : ByteArray) (hs : s.size ≤ 4000000) : ∃ b, spec_TextOk s = some b ∧ impl_TextOk s = some b := by
 rw [spec_TextOk, impl_TextOk]
 by_cases h : s.size ≤ 600
 ·obtain ⟨b, h1, h2⟩ := signs_loop s (by omega) s.size 0 (Nat.zero_le _) (by omega)
  have h1' : spec_l1Signs s = some b := by rw [spec_l1Signs]; exact h1
  have h2' : impl_signsOk s = some b := by rw [impl_signsOk]; exact h2
  rw [leI_t (by simp only [lenS]; omega)]
  exact ⟨b, by simp [h1', some_bnd], by simp [h2', some_bnd]⟩
 ·rw [leI_f (by simp only [lenS]; omega)]
  exact ⟨false, rfl, rfl⟩
end TT
