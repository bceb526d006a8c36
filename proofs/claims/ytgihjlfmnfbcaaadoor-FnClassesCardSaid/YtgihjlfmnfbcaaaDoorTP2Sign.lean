import Derived.Test.YtgihjlfmnfbcaaaDoorTP0
import Derived.Test.YtgihjlfmnfbcaaaDoorTDefs
import Derived.Lib.IndexAny
set_option linter.unusedVariables false
set_option linter.unusedSimpArgs false
namespace TT
open Go
theorem Xf (s : ByteArray) (i k : Nat) : (s.extract i s.size).get! k = s.get! (i + k) := by
 have e : (s.extract i s.size).data = s.data.extract i s.data.size := by
  first | rfl | simp
 show (s.extract i s.size).data[k]! = s.data[i + k]!
 rw [e]
 simp only [getElem!_def]
 rw [Array.getElem?_extract]
 have hz : s.size = s.data.size := rfl
 by_cases h : k < s.data.size - i
 ·rw [if_pos (by omega)]
 ·have : s.data[i + k]? = none := Array.getElem?_eq_none (by omega)
  rw [if_neg (by omega), this]
theorem NU (s : ByteArray) (i : Nat) (h : i < s.size) : Lib.decodeGo (s.extract i s.size) = Utf8.decode s i := by
 have hz : (s.extract i s.size).size = s.size - i := by simp
 unfold Lib.decodeGo
 rw [if_neg (by omega), Lib.decode_at, Lib.decode_at, hz]
 simp only [Xf, Nat.sub_zero, Nat.add_zero, Nat.zero_add]
def Iq (s : ByteArray) (i : Nat) : Nat := (s.get! i).toNat
theorem Kx (s : ByteArray) (i : Nat) : Iq s i < 256 := (s.get! i).toNat_lt
theorem Qe {s : ByteArray} {i : Int} {k : Nat} (hi : i = k) (h : k < s.size) : atS s i = some ((Iq s k : Nat) : Int) := by
 subst hi
 unfold atS
 rw [dif_pos ⟨by omega, by simpa using h⟩]
 have h' : k < s.data.size := h
 have e : s.get! k = s[k]'h := by
  show s.data[k]! = s.data[k]
  rw [getElem!_pos s.data k h']
 simp only [Iq, e, Int.toNat_natCast]
theorem ao {x : Nat} (h : x < 256) : Gd .i64 (x : Int) 31 = ((x % 32 : Nat) : Int) := (show ∀ n : Fin 256, Gd .i64 ((n.val : Nat) : Int) 31 = ((n.val % 32 : Nat) : Int) by decide +kernel) ⟨x, h⟩
theorem ap {x : Nat} (h : x < 256) : Gd .i64 (x : Int) 15 = ((x % 16 : Nat) : Int) := (show ∀ n : Fin 256, Gd .i64 ((n.val : Nat) : Int) 15 = ((n.val % 16 : Nat) : Int) by decide +kernel) ⟨x, h⟩
theorem b5 {x : Nat} (h : x < 256) : Gd .i64 (x : Int) 7 = ((x % 8 : Nat) : Int) := (show ∀ n : Fin 256, Gd .i64 ((n.val : Nat) : Int) 7 = ((n.val % 8 : Nat) : Int) by decide +kernel) ⟨x, h⟩
theorem VF {x : Int} (h1 : -9223372036854775808 ≤ x) (h2 : x < 9223372036854775808) : wr .i64 x = x := GM h1 h2
def sg (s : ByteArray) (i : Nat) : Int × Int × Bool :=
 if (Utf8.decode s i).1 = 65533 ∧ (Utf8.decode s i).2 ≤ 1 then (0, 0, false) else (((Utf8.decode s i).1 : Nat), ((i + (Utf8.decode s i).2 : Nat) : Int), true)
theorem Ow {n b0 b1 b2 b3 : Nat} (hn : 1 ≤ n) (h0 : b0 < 256) : (Lib.decodeN n b0 b1 b2 b3).1 ≤ 1114111 ∧ 1 ≤ (Lib.decodeN n b0 b1 b2 b3).2 ∧ (Lib.decodeN n b0 b1 b2 b3).2 ≤ n := by
 unfold Lib.decodeN
 repeat' split
 all_goals simp only
 all_goals omega
theorem Ky {s : ByteArray} {i : Nat} (h : i < s.size) : (Utf8.decode s i).1 ≤ 1114111 ∧ 1 ≤ (Utf8.decode s i).2 ∧ i + (Utf8.decode s i).2 ≤ s.size := by
 rw [Lib.decode_at]
 have := Ow (n := s.size - i) (b0 := (s.get! i).toNat) (b1 := (s.get! (i + 1)).toNat) (b2 := (s.get! (i + 2)).toNat) (b3 := (s.get! (i + 3)).toNat) (by omega) (Kx s i)
 omega
theorem Xg {s : ByteArray} {i : Nat} (h : i < s.size) (hs : s.size ≤ 4000000) : Ek s i = some (sg s i) := by
 obtain ⟨b1, b2, b3⟩ := Ky h
 have e1 : Fe (i : Int) 0 (Mw (Bg s) 1) = some true := by
  rw [Fe, MT (by omega), Io (by simp only [Bg]; omega) (by simp only [Bg]; omega), Kw (by simp only [Bg]; omega)]; rfl
 have e2 : Re s i (Bg s) = some (s.extract i s.size) := by
  unfold Re Bg
  rw [if_pos ⟨by omega, by omega, by omega⟩]
  simp
 have e3 : K3 (s.extract i s.size) = ((((Utf8.decode s i).1 : Nat) : Int), (((Utf8.decode s i).2 : Nat) : Int)) := by
  rw [K3, NU s i h]
 rw [Ek, e1]
 simp only [BL, if_true, e2, BH, e3]
 rw [VF (by omega) (by omega), Bj (by omega) (by omega)]
 unfold sg
 by_cases c1 : (Utf8.decode s i).1 = 65533
 ·rw [VD (by omega)]
  by_cases c2 : (Utf8.decode s i).2 ≤ 1
  ·rw [Kw (by omega)]; simp only [if_true, Bool.false_eq_true, if_false]; rw [if_pos ⟨c1, c2⟩]
  ·rw [R6 (by omega)]; simp only [if_true, Bool.false_eq_true, if_false]; rw [if_neg (fun h => c2 h.2)]
   simp
 ·rw [MU (by omega)]; simp only [if_true, Bool.false_eq_true, if_false]; rw [if_neg (fun h => c1 h.1)]
  simp
def sgN (n b0 b1 b2 b3 i : Nat) : Int × Int × Bool :=
 if (Lib.decodeN n b0 b1 b2 b3).1 = 65533 ∧ (Lib.decodeN n b0 b1 b2 b3).2 ≤ 1 then (0, 0, false) else (((Lib.decodeN n b0 b1 b2 b3).1 : Nat), ((i + (Lib.decodeN n b0 b1 b2 b3).2 : Nat) : Int), true)
theorem b6 (s : ByteArray) (i : Nat) : sg s i = sgN (s.size - i) (Iq s i) (Iq s (i + 1)) (Iq s (i + 2)) (Iq s (i + 3)) i := by
 unfold sg sgN Iq
 rw [Lib.decode_at]
theorem K4 (a lo hi : Int) : Cb a lo hi = some (decide (lo ≤ a ∧ a ≤ hi)) := by
 rw [Cb]
 by_cases h : lo ≤ a
 ·rw [MT h]
  by_cases h2 : a ≤ hi
  ·rw [Kw h2]; simp [h, h2]
  ·rw [R6 h2]; simp [h2]
 ·rw [Ot h]; simp [h]
theorem aq (a lo hi : Int) : Fe a lo hi = some (decide (lo ≤ a ∧ a ≤ hi)) := by
 rw [← K4, Fe, Cb]
section
variable {s : ByteArray} {i : Nat}
def Ox (i n least v : Nat) : Int × Int × Bool := if v < least ∨ v > 1114111 ∨ (55296 ≤ v ∧ v ≤ 57343) then (0, 0, false) else ((v : Nat), ((i + 1 + n : Nat) : Int), true)
theorem NV (hs : s.size ≤ 4000000) (h : i < s.size) {n least v k : Nat} (hn : n ≤ 3) (hk : k = n + 1) (hv : v < 100000000) : Aa s i n least v k = some (Ox i n least v) := by
 rw [Aa, R6 (by omega)]
 simp only [Bool.false_eq_true, if_false, K4, BL]
 unfold Ox
 by_cases c1 : v < least
 ·rw [H9 (by omega)]; simp only [if_true, Bool.false_eq_true, if_false]; rw [if_pos (.inl c1)]
 ·rw [E3 (by omega)]
  by_cases c2 : v > 1114111
  ·rw [Ou (by omega)]; simp only [if_true, Bool.false_eq_true, if_false]; rw [if_pos (.inr (.inl c2))]
  ·rw [Ov (by omega)]
   simp only [Bool.false_eq_true, if_false]
   by_cases c3 : 55296 ≤ v ∧ v ≤ 57343
   ·have : decide ((55296 : Int) ≤ (v : Int) ∧ (v : Int) ≤ 57343) = true := by simp; omega
    rw [this, if_pos (show v < least ∨ v > 1114111 ∨ (55296 ≤ v ∧ v ≤ 57343) from .inr (.inr c3))]; rfl
   ·have : decide ((55296 : Int) ≤ (v : Int) ∧ (v : Int) ≤ 57343) = false := by simp; omega
    rw [this, Bj (a := (i : Int)) (b := 1) (by omega) (by omega), Bj (a := (i : Int) + 1) (b := (n : Int)) (by omega) (by omega), if_neg (show ¬(v < least ∨ v > 1114111 ∨ (55296 ≤ v ∧ v ≤ 57343)) by omega)]
    simp only [Bool.false_eq_true, if_false]
    congr 3
theorem G3 (hs : s.size ≤ 4000000) {n least v k : Nat} (hk : k ≤ n) (hn : n ≤ 3) (h : i + k < s.size) (hv : v < 1000000) :
  Aa s i n least v k = if Iq s (i + k) < 128 ∨ 191 < Iq s (i + k) then some (0, 0, false) else Aa s i n least ((v * 64 + Iq s (i + k) - 128 : Nat) : Int) ((k + 1 : Nat) : Int) := by
 have hb := Kx s (i + k)
 have ea : C1 (i : Int) (k : Int) = ((i + k : Nat) : Int) := by rw [Bj (by omega) (by omega)]; omega
 rw [Aa, Kw (by omega), ea, Qe rfl h]
 simp only [if_true, BL]
 rw [VF (by omega) (by omega)]
 by_cases c1 : Iq s (i + k) < 128
 ·rw [H9 (by omega)]; simp only [if_true, Bool.false_eq_true, if_false]; rw [if_pos (.inl c1)]
 ·rw [E3 (by omega)]
  by_cases c2 : 191 < Iq s (i + k)
  ·rw [Ou (by omega)]; simp only [if_true, Bool.false_eq_true, if_false]; rw [if_pos (.inr c2)]
  ·rw [Ov (by omega)]; simp only [if_true, Bool.false_eq_true, if_false]; rw [if_neg (by omega)]
   have em : HM (v : Int) 64 = ((v * 64 : Nat) : Int) := by
    show IntKind.i64.wrap _ = _
    rw [GM (by omega) (by omega)]; omega
   rw [em, Bj (by omega) (by omega), Io (by omega) (by omega), Bj (by omega) (by omega)]
   congr 1
   omega
theorem Qf (hs : s.size ≤ 4000000) (h : i < s.size) (n least v : Nat) (hn : 1 ≤ n ∧ n ≤ 3) : Bb s i n least v = if i + n < s.size then Aa s i n least v ((1 : Nat) : Int) else some (0, 0, false) := by
 rw [Bb, Io (a := Bg s) (b := 1) (by simp only [Bg]; omega) (by simp only [Bg]; omega), Io (a := Bg s - 1) (b := (n : Int)) (by simp only [Bg]; omega) (by simp only [Bg]; omega)]
 by_cases c : i + n < s.size
 ·rw [Ov (by simp only [Bg]; omega)]; simp only [if_true, Bool.false_eq_true, if_false]; rw [if_pos c]; rfl
 ·rw [Ou (by simp only [Bg]; omega)]; simp only [if_true, Bool.false_eq_true, if_false]; rw [if_neg c]
end
def VG (n b0 b1 b2 b3 i : Nat) : Int × Int × Bool :=
 if b0 < 128 then ((b0 : Nat), ((i + 1 : Nat) : Int), true)
 else if b0 < 192 then (0, 0, false)
 else if b0 < 224 then (if 1 < n then (if b1 < 128 ∨ 191 < b1 then (0, 0, false) else Ox i 1 128 (b0 % 32 * 64 + b1 - 128)) else (0, 0, false))
 else if b0 < 240 then (if 2 < n then (if b1 < 128 ∨ 191 < b1 then (0, 0, false) else if b2 < 128 ∨ 191 < b2 then (0, 0, false) else Ox i 2 2048 ((b0 % 16 * 64 + b1 - 128) * 64 + b2 - 128)) else (0, 0, false))
 else if b0 < 248 then (if 3 < n then (if b1 < 128 ∨ 191 < b1 then (0, 0, false) else if b2 < 128 ∨ 191 < b2 then (0, 0, false) else if b3 < 128 ∨ 191 < b3 then (0, 0, false) else Ox i 3 65536 (((b0 % 8 * 64 + b1 - 128) * 64 + b2 - 128) * 64 + b3 - 128)) else (0, 0, false))
 else (0, 0, false)
set_option maxRecDepth 100000 in
set_option maxHeartbeats 2000000 in
theorem VH (n b0 b1 b2 b3 i : Nat) (hn : 1 ≤ n) (h0 : b0 < 256) (h1 : b1 < 256) (h2 : b2 < 256) (h3 : b3 < 256) : VG n b0 b1 b2 b3 i = sgN n b0 b1 b2 b3 i := by
 unfold VG sgN Lib.decodeN
 by_cases c0 : b0 < 128
 ·simp only [if_pos c0]
  rw [if_neg (by omega)]
 ·simp only [if_neg c0]
  by_cases c1 : b0 < 192
  ·rw [if_pos c1]
   repeat' split
   all_goals first | rfl | (exfalso; omega)
  ·rw [if_neg c1]
   by_cases c2 : b0 < 224
   ·rw [if_pos c2]
    have e : b0 % 32 * 64 + b1 % 64 = b0 % 32 * 64 + b1 % 64 := rfl
    unfold Ox
    repeat' split
    all_goals first | rfl | (exfalso; omega) | (refine Prod.ext ?_ (Prod.ext ?_ rfl) <;> simp only <;> omega)
   ·rw [if_neg c2]
    by_cases c3 : b0 < 240
    ·rw [if_pos c3]
     unfold Ox
     repeat' split
     all_goals first | rfl | (exfalso; omega) | (refine Prod.ext ?_ (Prod.ext ?_ rfl) <;> simp only <;> omega)
    ·rw [if_neg c3]
     unfold Ox
     repeat' split
     all_goals first | rfl | (exfalso; omega) | (refine Prod.ext ?_ (Prod.ext ?_ rfl) <;> simp only <;> omega)
theorem Xh {s : ByteArray} {i : Nat} (h : i < s.size) (hs : s.size ≤ 4000000) : El s i = some (sg s i) := by
 have h0 := Kx s i
 have h1 := Kx s (i + 1)
 have h2 := Kx s (i + 2)
 have h3 := Kx s (i + 3)
 rw [b6, ← VH _ _ _ _ _ _ (by omega) h0 h1 h2 h3]
 have hx : wr .i64 ((Iq s i : Nat) : Int) = ((Iq s i : Nat) : Int) := VF (by omega) (by omega)
 have n1 : (1 < s.size - i) = (i + 1 < s.size) := propext ⟨fun h => by omega, fun h => by omega⟩
 have n2 : (2 < s.size - i) = (i + 2 < s.size) := propext ⟨fun h => by omega, fun h => by omega⟩
 have n3 : (3 < s.size - i) = (i + 3 < s.size) := propext ⟨fun h => by omega, fun h => by omega⟩
 unfold VG
 simp only [n1, n2, n3]
 rw [El, E3 (by omega), Ot (by simp only [Bg]; omega), Qe rfl h]
 simp only [Bool.false_eq_true, if_false, BL, hx]
 rw [Bj (by omega) (by omega)]
 generalize hb0 : Iq s i = b0 at *
 by_cases c0 : b0 < 128
 ·rw [H9 (by omega), if_pos c0]; rfl
 ·rw [E3 (by omega), if_neg c0]
  simp only [Bool.false_eq_true, if_false]
  by_cases c1 : b0 < 192
  ·rw [Ot (by omega), if_pos c1]
   simp only [Bool.false_eq_true, if_false, C3, C2, hx]
   rw [Ot (by omega), Ot (by omega)]
   rfl
  ·rw [MT (by omega), if_neg c1]
   simp only [if_true, C3]
   by_cases c2 : b0 < 224
   ·rw [H9 (by omega), if_pos c2]
    simp only [if_true, hx, ao h0]
    refine Eq.trans (Qf hs h 1 128 (b0 % 32) (by omega)) ?_
    by_cases d1 : i + 1 < s.size
    ·rw [if_pos d1, if_pos d1, G3 hs (by omega) (by omega) d1 (by omega)]
     split
     ·rfl
     ·exact NV hs h (by omega) (by omega) (by omega)
    ·rw [if_neg d1, if_neg d1]
   ·rw [E3 (by omega), if_neg c2]
    simp only [Bool.false_eq_true, if_false, hx]
    rw [MT (by omega)]
    simp only [if_true, C2]
    by_cases c3 : b0 < 240
    ·rw [H9 (by omega), if_pos c3]
     simp only [if_true, hx, ap h0]
     refine Eq.trans (Qf hs h 2 2048 (b0 % 16) (by omega)) ?_
     by_cases d1 : i + 2 < s.size
     ·rw [if_pos d1, if_pos d1, G3 hs (by omega) (by omega) (by omega) (by omega)]
      split
      ·rfl
      ·rw [G3 hs (by omega) (by omega) d1 (by omega)]
       split
       ·rfl
       ·exact NV hs h (by omega) (by omega) (by omega)
     ·rw [if_neg d1, if_neg d1]
    ·rw [E3 (by omega), if_neg c3]
     simp only [Bool.false_eq_true, if_false, hx]
     rw [MT (by omega)]
     simp only [if_true]
     by_cases c4 : b0 < 248
     ·rw [H9 (by omega), if_pos c4]
      simp only [if_true, b5 h0]
      refine Eq.trans (Qf hs h 3 65536 (b0 % 8) (by omega)) ?_
      by_cases d1 : i + 3 < s.size
      ·rw [if_pos d1, if_pos d1, G3 hs (by omega) (by omega) (by omega) (by omega)]
       split
       ·rfl
       ·rw [G3 hs (by omega) (by omega) (by omega) (by omega)]
        split
        ·rfl
        ·rw [G3 hs (by omega) (by omega) d1 (by omega)]
         split
         ·rfl
         ·exact NV hs h (by omega) (by omega) (by omega)
      ·rw [if_neg d1, if_neg d1]
     ·rw [E3 (by omega), if_neg c4]; rfl
end TT
