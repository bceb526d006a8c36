import Derived.Test.YtejfgkcjhmmjkaaGreatDoorTP2Sign
set_option linter.unusedVariables false
set_option linter.unusedSimpArgs false
namespace TT
open Go
theorem and63 {x : Nat} (h : x < 9223372036854775808) : andK .i64 (x : Int) 63 = ((x % 64 : Nat) : Int) := by
 have e : andK .i64 (x : Int) 63 = IntKind.i64.wrap ((BitVec.ofInt 64 (x : Int) &&& BitVec.ofInt 64 63).toNat : Int) := rfl
 have h1 : (BitVec.ofInt 64 (x : Int) &&& BitVec.ofInt 64 63).toNat = x % 64 := by
  rw [BitVec.toNat_and, BitVec.toNat_ofInt]
  have e2 : (BitVec.ofInt 64 63).toNat = 2 ^ 6 - 1 := by decide
  rw [e2, Nat.and_two_pow_sub_one_eq_mod]
  have : ((x : Int) % ((2 ^ 64 : Nat) : Int)).toNat = x := by omega
  rw [this]
 rw [e, h1, wrap_eq (by omega) (by omega)]
theorem shr_nat (x b : Nat) (hb : b ≤ 63) : shrK .i64 (x : Int) (b : Int) = some ((x / 2 ^ b : Nat) : Int) := by
 have hm : min ((b : Int).toNat) IntKind.i64.bits = b := by
  have : IntKind.i64.bits = 64 := rfl
  rw [this]; simp; omega
 unfold shrK
 rw [if_neg (by omega), hm, Int.fdiv_eq_ediv_of_nonneg _ (by exact Int.pow_nonneg (by decide))]
 congr 1
theorem wr8 {x : Nat} (h : x < 256) : (wr .u8 (x : Int)).toNat = x := by
 have : wr .u8 (x : Int) = (x : Int) := by
  show IntKind.u8.wrap (x : Int) = x
  unfold IntKind.wrap
  simp [IntKind.bits, IntKind.signed]
  omega
 rw [this]; simp
theorem signText_spec {k : Nat} (h : k ≤ 1114111) (hs : ¬ (55296 ≤ k ∧ k ≤ 57343)) : spec_SignText (k : Int) = some (runeS (k : Int)) := by
 have hv : Utf8.valid (k : Int) = true := by
  unfold Utf8.valid
  simp
  omega
 have hr : runeS (k : Int) = if k < 0x80 then ⟨#[UInt8.ofNat k]⟩
   else if k < 0x800 then ⟨#[UInt8.ofNat (0xC0 + k / 64), UInt8.ofNat (0x80 + k % 64)]⟩
   else if k < 0x10000 then ⟨#[UInt8.ofNat (0xE0 + k / 4096), UInt8.ofNat (0x80 + k / 64 % 64), UInt8.ofNat (0x80 + k % 64)]⟩
   else ⟨#[UInt8.ofNat (0xF0 + k / 262144), UInt8.ofNat (0x80 + k / 4096 % 64), UInt8.ofNat (0x80 + k / 64 % 64), UInt8.ofNat (0x80 + k % 64)]⟩ := by
  unfold runeS Utf8.encode
  simp only [hv, if_true, Int.toNat_natCast]
 rw [spec_SignText, ltI_f (by omega), gtI_f (by omega), l1In_eq]
 simp only [Bool.false_eq_true, if_false, some_bnd]
 rw [decide_eq_false (by omega), spec_SignText_j4]
 simp only [Bool.false_eq_true, if_false]
 have a1 : ∀ {c x : Nat}, c + x < 100000 → addI (c : Int) (x : Int) = ((c + x : Nat) : Int) := fun {c x} h => by rw [addI_eq (by omega) (by omega)]; omega
 by_cases h1 : k < 128
 ·rw [ltI_t (by omega), hr, if_pos h1]
  simp only [if_true]
  rw [wr8 (by omega)]
 rw [ltI_f (by omega), hr, if_neg h1]
 simp only [Bool.false_eq_true, if_false]
 have s6 : shrK .i64 (k : Int) 6 = some ((k / 64 : Nat) : Int) := shr_nat k 6 (by decide)
 have s12 : shrK .i64 (k : Int) 12 = some ((k / 4096 : Nat) : Int) := shr_nat k 12 (by decide)
 have s18 : shrK .i64 (k : Int) 18 = some ((k / 262144 : Nat) : Int) := shr_nat k 18 (by decide)
 have m1 : andK .i64 (k : Int) 63 = ((k % 64 : Nat) : Int) := and63 (by omega)
 have m2 : andK .i64 ((k / 64 : Nat) : Int) 63 = ((k / 64 % 64 : Nat) : Int) := and63 (by omega)
 have m3 : andK .i64 ((k / 4096 : Nat) : Int) 63 = ((k / 4096 % 64 : Nat) : Int) := and63 (by omega)
 have b1 : addI 128 ((k % 64 : Nat) : Int) = ((128 + k % 64 : Nat) : Int) := a1 (c := 128) (by omega)
 have b2 : addI 128 ((k / 64 % 64 : Nat) : Int) = ((128 + k / 64 % 64 : Nat) : Int) := a1 (c := 128) (by omega)
 have b3 : addI 128 ((k / 4096 % 64 : Nat) : Int) = ((128 + k / 4096 % 64 : Nat) : Int) := a1 (c := 128) (by omega)
 by_cases h2 : k < 2048
 ·rw [ltI_t (by omega), if_pos h2]
  simp only [if_true, s6, some_bnd, m1, b1]
  have b4 : addI 192 ((k / 64 : Nat) : Int) = ((192 + k / 64 : Nat) : Int) := a1 (c := 192) (by omega)
  rw [b4, wr8 (by omega), wr8 (by omega)]
 rw [ltI_f (by omega), if_neg h2]
 simp only [Bool.false_eq_true, if_false]
 by_cases h3 : k < 65536
 ·rw [ltI_t (by omega), if_pos h3]
  simp only [if_true, s6, s12, some_bnd, m1, m2, b1, b2]
  have b4 : addI 224 ((k / 4096 : Nat) : Int) = ((224 + k / 4096 : Nat) : Int) := a1 (c := 224) (by omega)
  rw [b4, wr8 (by omega), wr8 (by omega), wr8 (by omega)]
 ·rw [ltI_f (by omega), if_neg h3]
  simp only [Bool.false_eq_true, if_false, s6, s12, s18, some_bnd, m1, m2, m3, b1, b2, b3]
  have b4 : addI 240 ((k / 262144 : Nat) : Int) = ((240 + k / 262144 : Nat) : Int) := a1 (c := 240) (by omega)
  rw [b4, wr8 (by omega), wr8 (by omega), wr8 (by omega), wr8 (by omega)]
theorem runeS_size (n : Int) : (runeS n).size ≤ 4 := by
 have : ∀ c : Nat, (if c < 0x80 then (⟨#[UInt8.ofNat c]⟩ : ByteArray)
   else if c < 0x800 then ⟨#[UInt8.ofNat (0xC0 + c / 64), UInt8.ofNat (0x80 + c % 64)]⟩
   else if c < 0x10000 then ⟨#[UInt8.ofNat (0xE0 + c / 4096), UInt8.ofNat (0x80 + c / 64 % 64), UInt8.ofNat (0x80 + c % 64)]⟩
   else ⟨#[UInt8.ofNat (0xF0 + c / 262144), UInt8.ofNat (0x80 + c / 4096 % 64), UInt8.ofNat (0x80 + c / 64 % 64), UInt8.ofNat (0x80 + c % 64)]⟩).size ≤ 4 := by
  intro c
  split
  ·exact (by decide : 1 ≤ 4)
  split
  ·exact (by decide : 2 ≤ 4)
  split
  ·exact (by decide : 3 ≤ 4)
  ·exact (by decide : 4 ≤ 4)
 exact this _
theorem signText_impl {k : Nat} (h : k ≤ 1114111) (hs : ¬ (55296 ≤ k ∧ k ≤ 57343)) : impl_SignText (k : Int) = some (runeS (k : Int)) := by
 rw [impl_SignText, in_eq, in_eq]
 simp only [some_bnd]
 rw [decide_eq_true (by omega), decide_eq_false (by omega)]
 simp only [if_true, Bool.false_eq_true, if_false]
 have : wr .i32 (k : Int) = (k : Int) := by
  show IntKind.i32.wrap (k : Int) = k
  unfold IntKind.wrap
  have e1 : IntKind.i32.bits = 32 := rfl
  have e2 : IntKind.i32.signed = true := rfl
  rw [e1, e2]
  have e3 : (k : Int) % (2 ^ 32 : Int) = k := by omega
  rw [e3]
  simp
  omega
 rw [this]
theorem signText_tot {n : Int} (h0 : -9223372036854775808 ≤ n) (h1 : n < 9223372036854775808) : ∃ t, spec_SignText n = some t ∧ t.size ≤ 4 := by
 rw [spec_SignText]
 by_cases a : n < 0
 ·rw [ltI_t a]; exact ⟨⟨#[]⟩, rfl, by decide⟩
 by_cases b : 1114111 < n
 ·rw [ltI_f a, gtI_t b]; exact ⟨⟨#[]⟩, rfl, by decide⟩
 obtain ⟨k, rfl⟩ := Int.eq_ofNat_of_zero_le (show 0 ≤ n by omega)
 by_cases c : 55296 ≤ k ∧ k ≤ 57343
 ·rw [ltI_f a, gtI_f b, l1In_eq]
  simp only [Bool.false_eq_true, if_false, some_bnd]
  rw [decide_eq_true (by omega)]
  exact ⟨⟨#[]⟩, rfl, by decide⟩
 ·have := signText_spec (k := k) (by omega) c
  rw [spec_SignText] at this
  exact ⟨_, this, runeS_size _⟩
def dg (c : Nat) : Option Nat := if 48 ≤ c ∧ c ≤ 57 then some (c - 48) else if 97 ≤ c ∧ c ≤ 102 then some (c - 87) else if 65 ≤ c ∧ c ≤ 70 then some (c - 55) else none
def okD (b c : Nat) : Bool := match dg c with | some d => decide (d < b) | none => false
def numF (s : ByteArray) (b : Nat) : Nat → Nat → Nat → Option Nat
 | 0, _, n => some n
 | m + 1, i, n => match dg (by' s i) with | some d => if d < b then numF s b m (i + 1) (n * b + d) else none | none => none
def allD (s : ByteArray) (b : Nat) : Nat → Nat → Bool
 | 0, _ => true
 | m + 1, i => okD b (by' s i) && allD s b m (i + 1)
def numI : Option Nat → Int
 | some m => (m : Int)
 | none => -1
theorem dg_lt {c d : Nat} (h : dg c = some d) : d < 16 := by
 unfold dg at h
 split at h
 ·cases h; omega
 ·split at h
  ·cases h; omega
  ·split at h
   ·cases h; omega
   ·cases h
theorem numF_all (s : ByteArray) (b : Nat) : ∀ (m i n : Nat), (numF s b m i n).isSome = allD s b m i
 | 0, i, n => rfl
 | m + 1, i, n => by
  simp only [numF, allD, okD]
  cases h : dg (by' s i) with
  | none => rfl
  | some d =>
   simp only
   by_cases hd : d < b
   ·rw [if_pos hd, decide_eq_true hd, numF_all s b m (i + 1) _]; rfl
   ·rw [if_neg hd, decide_eq_false hd]; rfl
theorem numF_bnd (s : ByteArray) (b : Nat) (hb : b ≤ 16) : ∀ (m i n k v : Nat), n < 16 ^ k → numF s b m i n = some v → v < 16 ^ (k + m)
 | 0, i, n, k, v, h, hv => by simp only [numF, Option.some.injEq] at hv; subst hv; exact h
 | m + 1, i, n, k, v, h, hv => by
  simp only [numF] at hv
  cases hd : dg (by' s i) with
  | none => rw [hd] at hv; cases hv
  | some d =>
   rw [hd] at hv
   simp only at hv
   split at hv
   ·have h1 := dg_lt hd
    have h2 : n * b + d < 16 ^ (k + 1) := by
     rw [Nat.pow_succ]
     have : n * b ≤ n * 16 := Nat.mul_le_mul_left _ hb
     omega
    have := numF_bnd s b hb m (i + 1) _ (k + 1) v h2 hv
    rwa [show k + 1 + m = k + (m + 1) by omega] at this
   ·cases hv
theorem spec_num_loop (s : ByteArray) (b : Nat) (hb : b ≤ 16) (hs : s.size ≤ 7) : ∀ (m i n : Nat), i + m = s.size → n < 16 ^ i → spec_l3Number_l16 s (b : Int) (n : Int) (i : Int) = some (numI (numF s b m i n))
 | 0, i, n, hi, hn => by rw [spec_l3Number_l16, ltI_f (by simp only [lenS]; omega)]; rfl
 | m + 1, i, n, hi, hn => by
  have hx : i < s.size := by omega
  have h256 := by_lt s i
  rw [spec_l3Number_l16, ltI_t (by simp only [lenS]; omega), atS_by rfl hx]
  simp only [if_true, some_bnd, l1In_eq, wr_eq (x := ((by' s i : Nat) : Int)) (by omega) (by omega)]
  have hpow : (16 : Nat) ^ i ≤ 16 ^ 6 := Nat.pow_le_pow_right (by decide) (by omega)
  have hp6 : (16 : Nat) ^ 6 = 16777216 := by decide
  have step : ∀ (d : Nat), d < 16 → spec_l3Number_j29 s (b : Int) (n : Int) (i : Int) (d : Int) = some (numI (if d < b then numF s b m (i + 1) (n * b + d) else none)) := fun d hd => by
   rw [spec_l3Number_j29, ltI_f (by omega)]
   simp only [Bool.false_eq_true, if_false]
   by_cases h : d < b
   ·have hnb : n * b ≤ n * 16 := Nat.mul_le_mul_left _ hb
    have e1 : mulI (n : Int) (b : Int) = ((n * b : Nat) : Int) := by
     show IntKind.i64.wrap ((n : Int) * (b : Int)) = _
     rw [← Int.natCast_mul, wrap_eq (by omega) (by omega)]
    rw [geI_f (by omega), if_pos h, e1, addI_eq (by omega) (by omega), addI_eq (by omega) (by omega)]
    simp only [Bool.false_eq_true, if_false]
    have := spec_num_loop s b hb hs m (i + 1) (n * b + d) (by omega) (by rw [Nat.pow_succ]; omega)
    rw [← this]
    congr 1 <;> omega
   ·rw [geI_t (by omega), if_neg h]; rfl
  have neg : spec_l3Number_j29 s (b : Int) (n : Int) (i : Int) (-1) = some (-1) := by rw [spec_l3Number_j29, ltI_t (by omega)]; rfl
  simp only [numF]
  by_cases c1 : 48 ≤ by' s i ∧ by' s i ≤ 57
  ·have hd : dg (by' s i) = some (by' s i - 48) := by unfold dg; rw [if_pos c1]
   rw [decide_eq_true (by omega), hd, subI_eq (by omega) (by omega)]
   simp only [if_true]
   rw [← step _ (by omega)]
   congr 1; omega
  rw [decide_eq_false (by omega)]
  simp only [Bool.false_eq_true, if_false]
  by_cases c2 : 97 ≤ by' s i ∧ by' s i ≤ 102
  ·have hd : dg (by' s i) = some (by' s i - 87) := by unfold dg; rw [if_neg c1, if_pos c2]
   rw [decide_eq_true (by omega), hd, subI_eq (by omega) (by omega), addI_eq (by omega) (by omega)]
   simp only [if_true]
   rw [← step _ (by omega)]
   congr 1; omega
  rw [decide_eq_false (by omega)]
  simp only [Bool.false_eq_true, if_false]
  by_cases c3 : 65 ≤ by' s i ∧ by' s i ≤ 70
  ·have hd : dg (by' s i) = some (by' s i - 55) := by unfold dg; rw [if_neg c1, if_neg c2, if_pos c3]
   rw [decide_eq_true (by omega), hd, subI_eq (by omega) (by omega), addI_eq (by omega) (by omega)]
   simp only [if_true]
   rw [← step _ (by omega)]
   congr 1; omega
  ·have hd : dg (by' s i) = none := by unfold dg; rw [if_neg c1, if_neg c2, if_neg c3]
   rw [decide_eq_false (by omega), hd, neg]
   rfl
theorem okD_none {b c : Nat} (h1 : ¬ (48 ≤ c ∧ c ≤ 57)) (h2 : ¬ (97 ≤ c ∧ c ≤ 102)) (h3 : ¬ (65 ≤ c ∧ c ≤ 70)) : okD b c = false := by
 unfold okD dg; rw [if_neg h1, if_neg h2, if_neg h3]
theorem okD_dec {b c : Nat} (hb : 10 ≤ b) (h1 : 48 ≤ c ∧ c ≤ 57) : okD b c = true := by
 unfold okD dg; rw [if_pos h1]; exact decide_eq_true (by omega)
theorem okD_low {c : Nat} (h1 : 97 ≤ c ∧ c ≤ 102) : okD 16 c = true ∧ okD 10 c = false := by
 constructor
 ·unfold okD dg; rw [if_neg (by omega), if_pos h1]; exact decide_eq_true (by omega)
 ·unfold okD dg; rw [if_neg (by omega), if_pos h1]; exact decide_eq_false (by omega)
theorem okD_up {c : Nat} (h1 : 65 ≤ c ∧ c ≤ 70) : okD 16 c = true ∧ okD 10 c = false := by
 constructor
 ·unfold okD dg; rw [if_neg (by omega), if_neg (by omega), if_pos h1]; exact decide_eq_true (by omega)
 ·unfold okD dg; rw [if_neg (by omega), if_neg (by omega), if_pos h1]; exact decide_eq_false (by omega)
theorem okD_10 {c : Nat} (h1 : ¬ (48 ≤ c ∧ c ≤ 57)) : okD 10 c = false := by
 by_cases h2 : 97 ≤ c ∧ c ≤ 102
 ·exact (okD_low h2).2
 ·by_cases h3 : 65 ≤ c ∧ c ≤ 70
  ·exact (okD_up h3).2
  ·exact okD_none h1 h2 h3
theorem digits_loop (s : ByteArray) (b most : Nat) (hb : b = 10 ∨ b = 16) (hs : s.size ≤ 4000000) : ∀ (m i : Nat), i + m = s.size → impl_isDigits_l6 s (b : Int) (most : Int) (i : Int) = some (allD s b m i && decide (1 ≤ s.size ∧ s.size ≤ most))
 | 0, i, hi => by
  rw [impl_isDigits_l6, ltI_f (by simp only [lenS]; omega), in_eq]
  simp only [Bool.false_eq_true, if_false, some_bnd, allD, Bool.true_and]
  congr 1
  rw [Bool.eq_iff_iff, decide_eq_true_iff, decide_eq_true_iff]
  simp only [lenS]; omega
 | m + 1, i, hi => by
  have hx : i < s.size := by omega
  have h256 := by_lt s i
  rw [impl_isDigits_l6, ltI_t (by simp only [lenS]; omega), atS_by rfl hx, addI_eq (by omega) (by omega)]
  simp only [if_true, some_bnd, allD]
  have ih := digits_loop s b most hb hs m (i + 1) (by omega)
  rw [show ((i : Int) + 1) = ((i + 1 : Nat) : Int) by omega, ih]
  generalize hc : by' s i = c at *
  generalize (decide (1 ≤ s.size ∧ s.size ≤ most)) = q
  generalize allD s b m (i + 1) = al
  by_cases c1 : 48 ≤ c ∧ c ≤ 57
  ·rw [ltI_f (by omega : ¬ (c : Int) < 48), gtI_f (by omega : ¬ (57 : Int) < c), okD_dec (by omega) c1]
   rfl
  have hb10 : b = 10 → okD b c = false := fun e => by rw [e]; exact okD_10 c1
  have e10 : b ≠ 10 → eqI (b : Int) 10 = false := fun h => eqI_f (by omega)
  have e10' : b = 10 → eqI (b : Int) 10 = true := fun h => eqI_t (by omega)
  by_cases hb' : b = 10
  ·rw [e10' hb', hb10 hb']
   by_cases c0 : c < 48
   ·rw [ltI_t (by omega : (c : Int) < 48)]; rfl
   ·rw [ltI_f (by omega : ¬ (c : Int) < 48), gtI_t (by omega : (57 : Int) < c)]; rfl
  have h16 : b = 16 := by omega
  rw [e10 hb', h16]
  by_cases c3 : 97 ≤ c ∧ c ≤ 102
  ·rw [(okD_low c3).1, ltI_f (by omega : ¬ (c : Int) < 48), gtI_t (by omega : (57 : Int) < c), ltI_f (by omega : ¬ (c : Int) < 97), gtI_f (by omega : ¬ (102 : Int) < c)]
   rfl
  by_cases c4 : 65 ≤ c ∧ c ≤ 70
  ·rw [(okD_up c4).1, ltI_f (by omega : ¬ (c : Int) < 48), gtI_t (by omega : (57 : Int) < c), ltI_t (by omega : (c : Int) < 97), ltI_f (by omega : ¬ (c : Int) < 65), gtI_f (by omega : ¬ (70 : Int) < c)]
   rfl
  rw [okD_none c1 c3 c4]
  by_cases d1 : c < 48
  ·rw [ltI_t (by omega : (c : Int) < 48), ltI_t (by omega : (c : Int) < 97), ltI_t (by omega : (c : Int) < 65)]; rfl
  rw [ltI_f (by omega : ¬ (c : Int) < 48), gtI_t (by omega : (57 : Int) < c)]
  by_cases d2 : c < 97
  ·rw [ltI_t (by omega : (c : Int) < 97)]
   by_cases d3 : c < 65
   ·rw [ltI_t (by omega : (c : Int) < 65)]; rfl
   ·rw [ltI_f (by omega : ¬ (c : Int) < 65), gtI_t (by omega : (70 : Int) < c)]; rfl
  ·rw [ltI_f (by omega : ¬ (c : Int) < 97), gtI_t (by omega : (102 : Int) < c), ltI_f (by omega : ¬ (c : Int) < 65), gtI_t (by omega : (70 : Int) < c)]; rfl
theorem bytesL_get (s : ByteArray) {i : Nat} (h : i < s.size) : getI (bytesL s) (i : Int) = some ((by' s i : Nat) : Int) := by
 rw [getI_pos (by omega)]
 unfold bytesL
 rw [List.getElem?_map]
 have h1 : s.data.toList[((i : Int)).toNat]? = some (s.get! i) := by
  simp only [Int.toNat_natCast]
  rw [Array.getElem?_toList, Array.getElem?_eq_getElem (show i < s.data.size from h)]
  congr 1
  exact (getElem!_pos s.data i h).symm
 rw [h1]
 rfl
theorem bytesL_len (s : ByteArray) : lenL (bytesL s) = (s.size : Int) := by
 unfold lenL bytesL
 rw [List.length_map, Array.length_toList]
 rfl
theorem u64_id {x : Nat} (h : x < 18446744073709551616) : IntKind.u64.wrap (x : Int) = x := by
 unfold IntKind.wrap
 have e1 : IntKind.u64.bits = 64 := rfl
 have e2 : IntKind.u64.signed = false := rfl
 rw [e1, e2]
 simp
 omega
theorem u8_id {x : Nat} (h : x < 256) : IntKind.u8.wrap (x : Int) = x := by
 unfold IntKind.wrap
 have e1 : IntKind.u8.bits = 8 := rfl
 have e2 : IntKind.u8.signed = false := rfl
 rw [e1, e2]
 simp
 omega
theorem low_eq {c : Nat} (h : c < 256) : orK .u8 (c : Int) 32 = ((if c / 32 % 2 = 0 then c + 32 else c : Nat) : Int) := (show ∀ n : Fin 256, orK .u8 ((n.val : Nat) : Int) 32 = ((if n.val / 32 % 2 = 0 then n.val + 32 else n.val : Nat) : Int) by decide +kernel) ⟨c, h⟩
theorem wrU {x : Nat} (h : x < 18446744073709551616) : wr .u64 (x : Int) = x := u64_id h
theorem wrB {x : Nat} (h : x < 256) : wr .u8 (x : Int) = x := u8_id h
theorem parse_j104 (s S : ByteArray) (b : Nat) (hb : b = 10 ∨ b = 16) (cutoff x13 : Int) (hc : 1000000000 < cutoff) (hx : subK .u64 x13 1 = 18446744073709551615) (i n d : Nat) (hn : n < 268435456) (hd : d < b) :
  internal_strconv_ParseUint_j104 (b : Int) false S cutoff x13 false (n : Int) (d : Int) (bytesL s) (i : Int) = internal_strconv_ParseUint_l91 (b : Int) false S cutoff x13 false ((n * b + d : Nat) : Int) (bytesL s) (addI (i : Int) 1) := by
 have hnb : n * b ≤ n * 16 := Nat.mul_le_mul_left _ (by omega)
 have e1 : mulK .u64 (n : Int) (wr .u64 (b : Int)) = ((n * b : Nat) : Int) := by
  rw [wrU (by omega)]
  show IntKind.u64.wrap ((n : Int) * (b : Int)) = _
  rw [← Int.natCast_mul, u64_id (by omega)]
 have e2 : addK .u64 ((n * b : Nat) : Int) (wr .u64 (d : Int)) = ((n * b + d : Nat) : Int) := by
  rw [wrU (by omega)]
  show IntKind.u64.wrap (((n * b : Nat) : Int) + (d : Int)) = _
  rw [← Int.natCast_add, u64_id (by omega)]
 rw [internal_strconv_ParseUint_j104, wrB (by omega), e1, e2, hx, geI_f (by omega), geI_f (by omega), ltI_f (by omega), gtI_f (by omega)]
 rfl
theorem parse_loop (s S : ByteArray) (b : Nat) (hb : b = 10 ∨ b = 16) (hs : s.size ≤ 7) (cutoff x13 : Int) (hc : 1000000000 < cutoff) (hx : subK .u64 x13 1 = 18446744073709551615) :
  ∀ (m i n v : Nat), i + m = s.size → n < 16 ^ i → numF s b m i n = some v → internal_strconv_ParseUint_l91 (b : Int) false S cutoff x13 false (n : Int) (bytesL s) (i : Int) = some ((v : Int), ())
 | 0, i, n, v, hi, hn, hv => by
  simp only [numF, Option.some.injEq] at hv
  subst hv
  rw [internal_strconv_ParseUint_l91, bytesL_len, ltI_f (by omega)]
  rfl
 | m + 1, i, n, v, hi, hn, hv => by
  have hxs : i < s.size := by omega
  have h256 := by_lt s i
  have hpow : (16 : Nat) ^ i ≤ 16 ^ 6 := Nat.pow_le_pow_right (by decide) (by omega)
  have hp6 : (16 : Nat) ^ 6 = 16777216 := by decide
  simp only [numF] at hv
  cases hd : dg (by' s i) with
  | none => rw [hd] at hv; cases hv
  | some d =>
   rw [hd] at hv
   simp only at hv
   split at hv
   case isFalse => cases hv
   rename_i hdb
   have h16 := dg_lt hd
   have hnb : n * b ≤ n * 16 := Nat.mul_le_mul_left _ (by omega)
   have ih := parse_loop s S b hb hs cutoff x13 hc hx m (i + 1) (n * b + d) v (by omega) (by rw [Nat.pow_succ]; omega) hv
   have fin : internal_strconv_ParseUint_j104 (b : Int) false S cutoff x13 false (n : Int) (d : Int) (bytesL s) (i : Int) = some ((v : Int), ()) := by
    rw [parse_j104 s S b hb cutoff x13 hc hx i n d (by omega) hdb, addI_eq (by omega) (by omega)]
    rw [show ((i : Int) + 1) = ((i + 1 : Nat) : Int) by omega]
    exact ih
   rw [internal_strconv_ParseUint_l91, bytesL_len, ltI_t (by omega), bytesL_get s hxs]
   simp only [if_true, some_bnd, ite_self]
   rw [internal_strconv_ParseUint_j106]
   simp only [Bool.false_eq_true, if_false]
   generalize hcc : by' s i = c at *
   by_cases c1 : 48 ≤ c ∧ c ≤ 57
   ·have ed : d = c - 48 := by unfold dg at hd; rw [if_pos c1] at hd; cases hd; rfl
    have es : subK .u8 (c : Int) 48 = (d : Int) := by
     show IntKind.u8.wrap ((c : Int) - 48) = _
     rw [show ((c : Int) - 48) = ((c - 48 : Nat) : Int) by omega, u8_id (by omega), ed]
    rw [leI_t (by omega : (48 : Int) ≤ c), leI_t (by omega : (c : Int) ≤ 57), internal_strconv_ParseUint_j112]
    simp only [if_true, es]
    exact fin
   ·have hj : (if leI 48 (c : Int) = true then internal_strconv_ParseUint_j112 (b : Int) false S cutoff x13 false (n : Int) (c : Int) (bytesL s) (i : Int) (leI (c : Int) 57) else internal_strconv_ParseUint_j112 (b : Int) false S cutoff x13 false (n : Int) (c : Int) (bytesL s) (i : Int) false) = internal_strconv_ParseUint_j112 (b : Int) false S cutoff x13 false (n : Int) (c : Int) (bytesL s) (i : Int) false := by
     by_cases h48 : 48 ≤ c
     ·rw [leI_t (by omega : (48 : Int) ≤ c), leI_f (by omega : ¬ (c : Int) ≤ 57)]; rfl
     ·rw [leI_f (by omega : ¬ (48 : Int) ≤ c)]; rfl
    rw [hj, internal_strconv_ParseUint_j112]
    simp only [Bool.false_eq_true, if_false, internal_strconv_lower, some_bnd, low_eq h256]
    have key : ∃ r : Nat, (if c / 32 % 2 = 0 then c + 32 else c) = r ∧ 97 ≤ r ∧ r ≤ 102 ∧ d = r - 87 := by
     unfold dg at hd
     rw [if_neg c1] at hd
     split at hd
     ·cases hd
      exact ⟨c, if_neg (by omega), by omega, by omega, rfl⟩
     ·split at hd
      ·cases hd
       exact ⟨c + 32, if_pos (by omega), by omega, by omega, by omega⟩
      ·cases hd
    obtain ⟨r, er, r1, r2, r3⟩ := key
    rw [er, leI_t (by omega : (97 : Int) ≤ r), leI_t (by omega : (r : Int) ≤ 122)]
    simp only [if_true]
    have es : addK .u8 (subK .u8 (r : Int) 97) 10 = (d : Int) := by
     show IntKind.u8.wrap (IntKind.u8.wrap ((r : Int) - 97) + 10) = _
     rw [show ((r : Int) - 97) = ((r - 97 : Nat) : Int) by omega, u8_id (by omega), show (((r - 97 : Nat) : Int) + 10) = ((r - 97 + 10 : Nat) : Int) by omega, u8_id (by omega)]
     omega
    rw [es]
    exact fin
theorem cut10 : (1000000000 : Int) < 1844674407370955162 := by decide
theorem cut16 : (1000000000 : Int) < 1152921504606846976 := by decide
theorem e640 : eqI 64 0 = false := by decide
theorem shl64 : shlK .u64 1 (wr .u64 64) = some 0 := by decide
theorem shl63 : shlK .u64 1 (wr .u64 (subI 64 1)) = some 9223372036854775808 := by decide
theorem sub64 : subK .u64 0 1 = 18446744073709551615 := by decide
theorem parse_all (s : ByteArray) (b : Nat) (hb : b = 10 ∨ b = 16) (hs : s.size ≤ 7) (h1 : 1 ≤ s.size) {v : Nat} (hv : numF s b s.size 0 0 = some v) : strconv_ParseInt s (b : Int) 64 = some ((v : Int), ()) := by
 have hvb := numF_bnd s b (by omega) s.size 0 0 0 v (by decide) hv
 have hpow : (16 : Nat) ^ (0 + s.size) ≤ 16 ^ 7 := Nat.pow_le_pow_right (by decide) (by omega)
 have hp7 : (16 : Nat) ^ 7 = 268435456 := by decide
 have hvs : v < 268435456 := Nat.lt_of_lt_of_le hvb (hp7 ▸ hpow)
 clear hvb hpow hp7
 have hne : eqS s ⟨#[]⟩ = false := by
  cases h : eqS s ⟨#[]⟩ with
  | false => rfl
  | true => have := eqS_iff.1 h; rw [this] at h1; exact absurd h1 (by decide)
 have x64 := shl64
 have x63 := shl63
 have hbk : bytesK s = some (bytesL s) := by unfold bytesK; rw [if_pos (by rw [maxLen_eq]; omega)]
 have hu : internal_strconv_ParseUint s (b : Int) 64 = some ((v : Int), ()) := by
  rw [internal_strconv_ParseUint, hne, leI_t (by omega : (2 : Int) ≤ b), leI_t (by omega : (b : Int) ≤ 36)]
  simp only [Bool.false_eq_true, if_false, if_true]
  rw [internal_strconv_ParseUint_j16, eqI_f (by omega : (b : Int) ≠ 0)]
  simp only [if_true]
  rw [internal_strconv_ParseUint_j14, eqI_f (by decide), ltI_f (by decide), gtI_f (by decide)]
  simp only [Bool.false_eq_true, if_false]
  rw [internal_strconv_ParseUint_j54]
  have fin : ∀ cutoff : Int, 1000000000 < cutoff → internal_strconv_ParseUint_j68 s (b : Int) 64 false s cutoff = some ((v : Int), ()) := fun cutoff hc => by
   rw [internal_strconv_ParseUint_j68, x64, hbk]
   simp only [some_bnd]
   exact parse_loop s s b hb hs cutoff 0 hc sub64 s.size 0 0 v (by omega) (by decide) hv
  rcases hb with rfl | rfl
  ·rw [eqI_t (show ((10 : Nat) : Int) = 10 from rfl), if_pos rfl]
   exact fin _ cut10
  ·rw [eqI_f (show ¬ ((16 : Nat) : Int) = 10 by omega), eqI_t (show ((16 : Nat) : Int) = 16 from rfl), if_neg Bool.false_ne_true, if_pos rfl]
   exact fin _ cut16
 have hd0 : ∃ d, dg (by' s 0) = some d := by
  cases hz : s.size with
  | zero => omega
  | succ m =>
   rw [hz] at hv
   simp only [numF] at hv
   cases h : dg (by' s 0) with
   | none => rw [h] at hv; cases hv
   | some d => exact ⟨d, rfl⟩
 obtain ⟨d, hd0⟩ := hd0
 have hc0 : by' s 0 ≠ 43 ∧ by' s 0 ≠ 45 := by
  have d43 : dg 43 = none := by decide
  have d45 : dg 45 = none := by decide
  constructor <;> (intro e; rw [e] at hd0)
  ·rw [d43] at hd0; cases hd0
  ·rw [d45] at hd0; cases hd0
 have a0 : atS s 0 = some ((by' s 0 : Nat) : Int) := atS_by (k := 0) rfl (by omega)
 rw [strconv_ParseInt, internal_strconv_ParseInt, hne, a0]
 simp only [Bool.false_eq_true, if_false, some_bnd]
 rw [eqI_f (by omega), eqI_f (by omega)]
 simp only [Bool.false_eq_true, if_false]
 rw [internal_strconv_ParseInt_j12, hu]
 simp only [some_bnd, e640, Bool.false_eq_true, if_false]
 rw [internal_strconv_ParseInt_j39, x63]
 simp only [some_bnd, Bool.false_eq_true, if_false]
 rw [geI_f (by omega)]
 simp only [Bool.false_eq_true, if_false]
 rw [internal_strconv_ParseInt_j47]
 simp only [Bool.false_eq_true, if_false]
 rw [internal_strconv_ParseInt_j55]
 simp only [Bool.false_eq_true, if_false, some_bnd]
 rw [wr_eq (by omega) (by omega)]
end TT
namespace TT
open Go
theorem sign_valid {k : Nat} (h : signB (k : Int) = true) : k ≤ 1114111 ∧ ¬ (55296 ≤ k ∧ k ≤ 57343) := by
 simp only [signB, isR, signL, List.any_cons, List.any_nil, Bool.or_false, Bool.or_eq_true, decide_eq_true_eq] at h
 omega
theorem bne {s : ByteArray} (h : s.size ≤ 0) : s = ⟨#[]⟩ := by
 have : s.data.size = 0 := Nat.le_zero.1 h
 cases s with
 | mk d => congr 1; exact Array.eq_empty_of_size_eq_zero this
theorem num_both (s : ByteArray) (b most : Nat) (hbm : (b = 16 ∧ most = 6) ∨ (b = 10 ∧ most = 7)) (hs : s.size ≤ 4000000) :
  ∃ (ν : Int) (t : ByteArray) (ok : Bool) (v : ByteArray), spec_l3Number s (b : Int) (most : Int) = some ν ∧ spec_l3One_j8 ν = some (t, ok) ∧ t.size ≤ 4 ∧ impl_numbered s (b : Int) (most : Int) = some (v, ok) ∧ (ok = true → v = t) := by
 have hb : b = 10 ∨ b = 16 := by omega
 have hmost : most ≤ 7 := by omega
 have hd : impl_isDigits s (b : Int) (most : Int) = some (allD s b s.size 0 && decide (1 ≤ s.size ∧ s.size ≤ most)) := by
  rw [impl_isDigits]; exact digits_loop s b most hb hs s.size 0 (by omega)
 have neg : spec_l3One_j8 (-1) = some (⟨#[]⟩, false) := by
  rw [spec_l3One_j8]
  have : spec_SignText (-1) = some ⟨#[]⟩ := by rw [spec_SignText, ltI_t (by decide)]; rfl
  rw [this]; rfl
 have bad : allD s b s.size 0 = false ∨ ¬ (1 ≤ s.size ∧ s.size ≤ most) → impl_numbered s (b : Int) (most : Int) = some (⟨#[]⟩, false) := by
  intro h
  rw [impl_numbered, hd]
  have : (allD s b s.size 0 && decide (1 ≤ s.size ∧ s.size ≤ most)) = false := by
   rcases h with h | h
   ·rw [h]; rfl
   ·rw [decide_eq_false h, Bool.and_false]
  rw [this]; rfl
 have hin : decide ((1 : Int) ≤ lenS s ∧ lenS s ≤ (most : Int)) = decide (1 ≤ s.size ∧ s.size ≤ most) := by
  rw [Bool.eq_iff_iff, decide_eq_true_iff, decide_eq_true_iff]
  simp only [lenS]; omega
 by_cases hl : 1 ≤ s.size ∧ s.size ≤ most
 case neg =>
  refine ⟨-1, ⟨#[]⟩, false, ⟨#[]⟩, ?_, neg, by decide, bad (.inr hl), fun h => by cases h⟩
  rw [spec_l3Number, l1In_eq, hin, decide_eq_false hl]; rfl
 have hsp : spec_l3Number s (b : Int) (most : Int) = some (numI (numF s b s.size 0 0)) := by
  rw [spec_l3Number, l1In_eq, hin, decide_eq_true hl]
  exact spec_num_loop s b (by omega) (by omega) s.size 0 0 (by omega) (by decide)
 cases hn : numF s b s.size 0 0 with
 | none =>
  have ha : allD s b s.size 0 = false := by rw [← numF_all s b s.size 0 0, hn]; rfl
  exact ⟨-1, ⟨#[]⟩, false, ⟨#[]⟩, by rw [hsp, hn]; rfl, neg, by decide, bad (.inl ha), fun h => by cases h⟩
 | some v =>
  have ha : allD s b s.size 0 = true := by rw [← numF_all s b s.size 0 0, hn]; rfl
  have hvb := numF_bnd s b (by omega) s.size 0 0 0 v (by decide) hn
  have hpow : (16 : Nat) ^ (0 + s.size) ≤ 16 ^ 7 := Nat.pow_le_pow_right (by decide) (by omega)
  have hp7 : (16 : Nat) ^ 7 = 268435456 := by decide
  have hvs : v < 268435456 := Nat.lt_of_lt_of_le hvb (hp7 ▸ hpow)
  clear hvb hpow hp7
  obtain ⟨t, ht, hts⟩ := signText_tot (n := (v : Int)) (by omega) (by omega)
  have hp := parse_all s b hb (by omega) hl.1 hn
  have hj : spec_l3One_j8 (v : Int) = some (t, signB (v : Int)) := by
   rw [spec_l3One_j8, ht, sign_spec]
   simp only [some_bnd]
   rw [geI_t (by omega)]; rfl
  refine ⟨(v : Int), t, signB (v : Int), ?_⟩
  have hi : impl_numbered s (b : Int) (most : Int) = if signB (v : Int) = true then impl_SignText (v : Int) >>= fun r3 => some (r3, true) else some (⟨#[]⟩, false) := by
   rw [impl_numbered, hd, ha, decide_eq_true hl]
   simp only [Bool.and_self, some_bnd, if_true, hp, sign_impl]
  cases hsg : signB (v : Int) with
  | false => exact ⟨⟨#[]⟩, by rw [hsp, hn]; rfl, by rw [hj, hsg], hts, by rw [hi, hsg]; rfl, fun h => by cases h⟩
  | true =>
   obtain ⟨v1, v2⟩ := sign_valid hsg
   have e2 : t = runeS (v : Int) := Option.some.inj (ht.symm.trans (signText_spec v1 v2))
   exact ⟨runeS (v : Int), by rw [hsp, hn]; rfl, by rw [hj, hsg], hts, by rw [hi, hsg, if_pos rfl, signText_impl v1 v2]; rfl, fun _ => e2.symm⟩
def fst {α : Type} (p : α → Bool) : List α → Nat → Int
 | [], _ => -1
 | x :: xs, k => if p x then (k : Int) else fst p xs (k + 1)
theorem fst_bnd {α : Type} (p : α → Bool) : ∀ (l : List α) (k : Nat), fst p l k = -1 ∨ ∃ j, j < l.length ∧ fst p l k = ((k + j : Nat) : Int) ∧ ∃ x, l[j]? = some x ∧ p x = true
 | [], k => .inl rfl
 | x :: xs, k => by
  simp only [fst]
  cases h : p x with
  | true => exact .inr ⟨0, by simp, by simp, x, rfl, h⟩
  | false =>
   rcases fst_bnd p xs (k + 1) with h' | ⟨j, h1, h2, y, h3, h4⟩
   ·exact .inl (by simpa using h')
   ·exact .inr ⟨j + 1, by simpa using h1, by simp only [Bool.false_eq_true, if_false]; rw [h2]; omega, y, by simpa using h3, h4⟩
theorem fst_hit {α : Type} (p : α → Bool) {x : α} (hx : p x = true) : ∀ (pre rest : List α) (k : Nat), neI (fst p (pre ++ x :: rest) k) ((k + pre.length : Nat) : Int) = pre.any p
 | [], rest, k => by simp only [List.nil_append, fst, hx, if_true, List.any_nil]; exact neI_self _
 | y :: pre, rest, k => by
  simp only [List.cons_append, fst, List.any_cons]
  cases hy : p y with
  | true =>
   simp only [if_true, Bool.true_or]
   rw [neI_eq, eqI_f (by simp only [List.length_cons]; omega)]; rfl
  | false =>
   simp only [Bool.false_eq_true, if_false, Bool.false_or]
   have := fst_hit p hx pre rest (k + 1)
   rw [show k + 1 + pre.length = k + (y :: pre).length by simp only [List.length_cons]; omega] at this
   exact this
theorem index_loop (l : List ByteArray) (v : ByteArray) (hl : l.length ≤ 4000000) : ∀ (rest pre : List ByteArray), pre ++ rest = l → slices_Index_string_l6 l v (pre.length : Int) = some (fst (fun x => eqS v x) rest pre.length)
 | [], pre, h => by rw [slices_Index_string_l6, end_at h]; rfl
 | x :: rest, pre, h => by
  rw [slices_Index_string_l6, more_at h, getI_at h]
  simp only [if_true, some_bnd, fst]
  by_cases hh : eqS v x = true
  ·rw [if_pos hh, if_pos hh]
  ·rw [if_neg hh, if_neg hh]
   rw [next_at h (by rw [maxLen_eq]; omega)]
   have := index_loop l v hl rest (pre ++ [x]) (step_at h)
   rw [this, List.length_append, List.length_singleton]
theorem entAt_loop (l : List GEnt) (v : ByteArray) (hl : l.length ≤ 4000000) : ∀ (rest pre : List GEnt), pre ++ rest = l → slices_IndexFunc_Ent_entAt_1_l6 l (pre.length : Int) v = some (fst (fun e => eqS e.Name v) rest pre.length, v)
 | [], pre, h => by rw [slices_IndexFunc_Ent_entAt_1_l6, end_at h]; rfl
 | x :: rest, pre, h => by
  rw [slices_IndexFunc_Ent_entAt_1_l6, more_at h, getI_at h]
  simp only [if_true, some_bnd, fst, impl_entAt_1]
  by_cases hh : eqS x.Name v = true
  ·rw [if_pos hh, if_pos hh]
  ·rw [if_neg hh, if_neg hh]
   rw [next_at h (by rw [maxLen_eq]; omega)]
   have := entAt_loop l v hl rest (pre ++ [x]) (step_at h)
   rw [this, List.length_append, List.length_singleton]
theorem entAt_eq (l : List GEnt) (v : ByteArray) (hl : l.length ≤ 4000000) : impl_entAt l v = some (fst (fun e => eqS e.Name v) l 0) := by
 rw [impl_entAt, slices_IndexFunc_Ent_entAt_1]
 have := entAt_loop l v hl l [] rfl
 simp only [List.length_nil] at this
 have t : slices_IndexFunc_Ent_entAt_1_l6 l 0 v = some (fst (fun e => eqS e.Name v) l 0, v) := this
 rw [t]; rfl
def own5 : List ByteArray := [⟨#[108, 116]⟩, ⟨#[103, 116]⟩, ⟨#[97, 109, 112]⟩, ⟨#[97, 112, 111, 115]⟩, ⟨#[113, 117, 111, 116]⟩]
def mean5 : ByteArray := ⟨#[60, 62, 38, 39, 34]⟩
theorem neS_t {x y : ByteArray} (h : x.size ≠ y.size) : neS x y = true := by
 rw [neS_eq]
 cases h' : eqS x y with
 | false => rfl
 | true => exact absurd (congrArg ByteArray.size (eqS_iff.1 h')) h
theorem known_both (s : ByteArray) : ∃ (r : ByteArray) (i : Int), spec_l3Known s = some r ∧ slices_Index_string own5 s = some i ∧ r.size ≤ 1 ∧
  ((geI i 0 = false ∧ neS r ⟨#[]⟩ = false) ∨ (geI i 0 = true ∧ neS r ⟨#[]⟩ = true ∧ subS mean5 i (addI i 1) = some r)) := by
 have hi : slices_Index_string own5 s = some (fst (fun x => eqS s x) own5 0) := by
  rw [slices_Index_string]
  exact index_loop own5 s (by decide) own5 [] rfl
 rw [hi, spec_l3Known]
 simp only [own5, fst]
 by_cases h0 : eqS s ⟨#[108, 116]⟩ = true
 ·rw [if_pos h0, if_pos h0]; exact ⟨_, _, rfl, rfl, by decide, .inr ⟨by decide, neS_t (by decide), by decide +kernel⟩⟩
 rw [if_neg h0, if_neg h0]
 by_cases h1 : eqS s ⟨#[103, 116]⟩ = true
 ·rw [if_pos h1, if_pos h1]; exact ⟨_, _, rfl, rfl, by decide, .inr ⟨by decide, neS_t (by decide), by decide +kernel⟩⟩
 rw [if_neg h1, if_neg h1]
 by_cases h2 : eqS s ⟨#[97, 109, 112]⟩ = true
 ·rw [if_pos h2, if_pos h2]; exact ⟨_, _, rfl, rfl, by decide, .inr ⟨by decide, neS_t (by decide), by decide +kernel⟩⟩
 rw [if_neg h2, if_neg h2]
 by_cases h3 : eqS s ⟨#[97, 112, 111, 115]⟩ = true
 ·rw [if_pos h3, if_pos h3]; exact ⟨_, _, rfl, rfl, by decide, .inr ⟨by decide, neS_t (by decide), by decide +kernel⟩⟩
 rw [if_neg h3, if_neg h3]
 by_cases h4 : eqS s ⟨#[113, 117, 111, 116]⟩ = true
 ·rw [if_pos h4, if_pos h4]; exact ⟨_, _, rfl, rfl, by decide, .inr ⟨by decide, neS_t (by decide), by decide +kernel⟩⟩
 rw [if_neg h4, if_neg h4]
 exact ⟨_, _, rfl, rfl, by decide, .inl ⟨by decide, neS_self _⟩⟩
theorem inner_loop (l : List GEnt) (hl : l.length ≤ 4000000) (pre : List GEnt) (x : GEnt) (rest : List GEnt) (h : pre ++ x :: rest = l) : ∀ (p2 p1 : List GEnt), p1 ++ p2 = pre →
  spec_EntsOk_l26 l (pre.length : Int) (p1.length : Int) = if p2.any (fun e => eqS e.Name x.Name) = true then some false else spec_EntsOk_l6 l ((pre.length + 1 : Nat) : Int)
 | [], p1, hp => by
  have hlen : p1.length = pre.length := by rw [← hp]; simp
  rw [spec_EntsOk_l26, ltI_f (by omega)]
  simp only [Bool.false_eq_true, if_false, List.any_nil]
  have : pre.length ≤ l.length := by rw [← h]; simp
  rw [addI_eq (by omega) (by omega)]
  congr 1
 | y :: p2, p1, hp => by
  have hlen : p1.length + (p2.length + 1) = pre.length := by rw [← hp]; simp
  have hlen2 : pre.length ≤ l.length := by rw [← h]; simp
  have hk : p1 ++ y :: (p2 ++ x :: rest) = l := by rw [← h, ← hp]; simp
  rw [spec_EntsOk_l26, ltI_t (by omega), getI_at hk, getI_at h]
  simp only [if_true, some_bnd]
  by_cases hh : eqS y.Name x.Name = true
  ·rw [if_pos hh, if_pos (by rw [List.any_cons, hh]; rfl)]
  ·rw [if_neg hh, addI_eq (by omega) (by omega)]
   have ih := inner_loop l hl pre x rest h p2 (p1 ++ [y]) (by rw [← hp]; simp)
   rw [List.length_append, List.length_singleton] at ih
   rw [show ((p1.length : Int) + 1) = ((p1.length + 1 : Nat) : Int) by omega, ih]
   have e : (y :: p2).any (fun e => eqS e.Name x.Name) = p2.any (fun e => eqS e.Name x.Name) := by
    have : eqS y.Name x.Name = false := by simpa using hh
    rw [List.any_cons, this, Bool.false_or]
   rw [e]
theorem ents_loop (l : List GEnt) (hl : l.length ≤ 1048576) (hz : ∀ e ∈ l, e.Name.size ≤ 1048576 ∧ e.Val.size ≤ 1048576) : ∀ (rest pre : List GEnt), pre ++ rest = l →
  ∃ b, spec_EntsOk_l6 l (pre.length : Int) = some b ∧ impl_EntsOk_l6 l (pre.length : Int) = some b ∧ (b = true → ∀ e ∈ rest, plainB e.Name = true)
 | [], pre, h => ⟨leI (lenL l) 4, by rw [spec_EntsOk_l6, end_at h]; rfl, by rw [impl_EntsOk_l6, end_at h]; rfl, fun _ e he => by cases he⟩
 | x :: rest, pre, h => by
  have hx : x ∈ l := by rw [← h]; simp
  obtain ⟨z1, z2⟩ := hz x hx
  obtain ⟨p1, p2, _⟩ := plain_all x.Name (by omega)
  obtain ⟨r, i, k1, k2, _, k4⟩ := known_both x.Name
  obtain ⟨tb, t1, t2⟩ := text_all x.Val (by omega)
  obtain ⟨b, i1, i2, i3⟩ := ents_loop l hl hz rest (pre ++ [x]) (step_at h)
  have hn := next_at h (by rw [maxLen_eq]; omega : l.length ≤ maxLen)
  have hc : slices_Contains_string own5 x.Name = some (geI i 0) := by rw [slices_Contains_string, k2]; rfl
  have hown : impl_ownNames = some own5 := rfl
  have hin := inner_loop l (by omega) pre x rest h pre [] rfl
  have hin' : spec_EntsOk_l26 l (pre.length : Int) 0 = if pre.any (fun e => eqS e.Name x.Name) = true then some false else some b := by
   have e : ((pre.length + 1 : Nat) : Int) = ((pre ++ [x]).length : Int) := by simp
   rw [e, i1] at hin
   exact hin
  have hat := fst_hit (fun e : GEnt => eqS e.Name x.Name) (x := x) (eqS_self _) pre rest 0
  rw [Nat.zero_add, h] at hat
  rw [spec_EntsOk_l6, impl_EntsOk_l6, more_at h, getI_at h]
  simp only [if_true, some_bnd, p1, p2, k1, t1, t2, hin', hown, hc, entAt_eq l x.Name (by omega), hat, hn]
  rw [i2]
  rcases k4 with ⟨g1, g2⟩ | ⟨g1, g2, _⟩
  ·rw [g1, g2]
   cases hp : plainB x.Name with
   | false => exact ⟨false, rfl, rfl, fun h => by cases h⟩
   | true =>
    cases tb with
    | false => exact ⟨false, rfl, rfl, fun h => by cases h⟩
    | true =>
     cases ha : pre.any (fun e => eqS e.Name x.Name) with
     | true => exact ⟨false, by simp, by simp, fun h => by cases h⟩
     | false => exact ⟨b, by simp, by simp, fun hb e he => by
       rcases List.mem_cons.1 he with rfl | he
       ·exact hp
       ·exact i3 hb e he⟩
  ·rw [g1, g2]
   cases plainB x.Name with
   | false => exact ⟨false, rfl, rfl, fun h => by cases h⟩
   | true => exact ⟨false, rfl, rfl, fun h => by cases h⟩
theorem ents_both (l : List GEnt) (hl : l.length ≤ 1048576) (hz : ∀ e ∈ l, e.Name.size ≤ 1048576 ∧ e.Val.size ≤ 1048576) : ∃ b, spec_EntsOk l = some b ∧ impl_EntsOk l = some b ∧ (b = true → ∀ e ∈ l, plainB e.Name = true) := by
 rw [spec_EntsOk, impl_EntsOk]
 exact ents_loop l hl hz l [] rfl
end TT
