import Derived.Test.YtaeegkjcjlnanaaGreatDoorTP0
import Derived.Test.YtaeegkjcjlnanaaGreatDoorTDefs
import Derived.Lib.IndexAny
set_option linter.unusedVariables false
set_option linter.unusedSimpArgs false
namespace TT
open Go
theorem ve (s : ByteArray) (i k : Nat) : (s.extract i s.size).get! k = s.get! (i + k) := by
 have e : (s.extract i s.size).data = s.data.extract i s.data.size := by
  first | rfl | simp
 show (s.extract i s.size).data[k]! = s.data[i + k]!
 rw [e]
 simp only [getElem!_def]
 rw [Array.getElem?_extract]
 have hz : s.size = s.data.size := rfl
 by_cases h : k < s.data.size - i
 ·rw [if_pos (by omega)]
 ·have : s.data[i + k]? = none := Array.getElem?_eq_none (by omega)
  rw [if_neg (by omega), this]
theorem fZ (s : ByteArray) (i : Nat) (h : i < s.size) : Lib.decodeGo (s.extract i s.size) = Utf8.decode s i := by
 have hz : (s.extract i s.size).size = s.size - i := by simp
 unfold Lib.decodeGo
 rw [if_neg (by omega), Lib.decode_at, Lib.decode_at, hz]
 simp only [ve, Nat.sub_zero, Nat.add_zero, Nat.zero_add]
def QD (s : ByteArray) (i : Nat) : Nat := (s.get! i).toNat
theorem ZG (s : ByteArray) (i : Nat) : QD s i < 256 := (s.get! i).toNat_lt
theorem Tr {s : ByteArray} {i : Int} {k : Nat} (hi : i = k) (h : k < s.size) : PM s i = some ((QD s k : Nat) : Int) := by
 subst hi
 unfold PM
 rw [dif_pos ⟨by omega, by simpa using h⟩]
 have h' : k < s.data.size := h
 have e : s.get! k = s[k]'h := by
  show s.data[k]! = s.data[k]
  rw [getElem!_pos s.data k h']
 simp only [QD, e, Int.toNat_natCast]
theorem zm {x : Nat} (h : x < 256) : Q7 .i64 (x : Int) 31 = ((x % 32 : Nat) : Int) := (show ∀ n : Fin 256, Q7 .i64 ((n.val : Nat) : Int) 31 = ((n.val % 32 : Nat) : Int) by decide +kernel) ⟨x, h⟩
theorem zn {x : Nat} (h : x < 256) : Q7 .i64 (x : Int) 15 = ((x % 16 : Nat) : Int) := (show ∀ n : Fin 256, Q7 .i64 ((n.val : Nat) : Int) 15 = ((n.val % 16 : Nat) : Int) by decide +kernel) ⟨x, h⟩
theorem A05 {x : Nat} (h : x < 256) : Q7 .i64 (x : Int) 7 = ((x % 8 : Nat) : Int) := (show ∀ n : Fin 256, Q7 .i64 ((n.val : Nat) : Int) 7 = ((n.val % 8 : Nat) : Int) by decide +kernel) ⟨x, h⟩
theorem s9 {x : Int} (h1 : -9223372036854775808 ≤ x) (h2 : x < 9223372036854775808) : wr .i64 x = x := Pc h1 h2
def sg (s : ByteArray) (i : Nat) : Int × Int × Bool :=
 if (Utf8.decode s i).1 = 65533 ∧ (Utf8.decode s i).2 ≤ 1 then (0, 0, false) else (((Utf8.decode s i).1 : Nat), ((i + (Utf8.decode s i).2 : Nat) : Int), true)
theorem iu {n b0 b1 b2 b3 : Nat} (hn : 1 ≤ n) (h0 : b0 < 256) : (Lib.decodeN n b0 b1 b2 b3).1 ≤ 1114111 ∧ 1 ≤ (Lib.decodeN n b0 b1 b2 b3).2 ∧ (Lib.decodeN n b0 b1 b2 b3).2 ≤ n := by
 unfold Lib.decodeN
 repeat' split
 all_goals simp only
 all_goals omega
theorem ZH {s : ByteArray} {i : Nat} (h : i < s.size) : (Utf8.decode s i).1 ≤ 1114111 ∧ 1 ≤ (Utf8.decode s i).2 ∧ i + (Utf8.decode s i).2 ≤ s.size := by
 rw [Lib.decode_at]
 have := iu (n := s.size - i) (b0 := (s.get! i).toNat) (b1 := (s.get! (i + 1)).toNat) (b2 := (s.get! (i + 2)).toNat) (b3 := (s.get! (i + 3)).toNat) (by omega) (ZG s i)
 omega
theorem m9 {s : ByteArray} {i : Nat} (h : i < s.size) (hs : s.size ≤ 4000000) : IF s i = some (sg s i) := by
 obtain ⟨b1, b2, b3⟩ := ZH h
 have e1 : Fw (i : Int) 0 (Bz (AU s) 1) = some true := by
  rw [Fw, Q4 (by omega), CF (by simp only [AU]; omega) (by simp only [AU]; omega), TF (by simp only [AU]; omega)]; rfl
 have e2 : PN s i (AU s) = some (s.extract i s.size) := by
  unfold PN AU
  rw [if_pos ⟨by omega, by omega, by omega⟩]
  simp
 have e3 : Xs (s.extract i s.size) = ((((Utf8.decode s i).1 : Nat) : Int), (((Utf8.decode s i).2 : Nat) : Int)) := by
  rw [Xs, fZ s i h]
 rw [IF, e1]
 simp only [A5, if_true, e2, Cm, e3]
 rw [s9 (by omega) (by omega), Az (by omega) (by omega)]
 unfold sg
 by_cases c1 : (Utf8.decode s i).1 = 65533
 ·rw [Wu (by omega)]
  by_cases c2 : (Utf8.decode s i).2 ≤ 1
  ·rw [TF (by omega)]; simp only [if_true, Bool.false_eq_true, if_false]; rw [if_pos ⟨c1, c2⟩]
  ·rw [Wt (by omega)]; simp only [if_true, Bool.false_eq_true, if_false]; rw [if_neg (fun h => c2 h.2)]
   simp
 ·rw [P5 (by omega)]; simp only [if_true, Bool.false_eq_true, if_false]; rw [if_neg (fun h => c1 h.1)]
  simp
def sgN (n b0 b1 b2 b3 i : Nat) : Int × Int × Bool :=
 if (Lib.decodeN n b0 b1 b2 b3).1 = 65533 ∧ (Lib.decodeN n b0 b1 b2 b3).2 ≤ 1 then (0, 0, false) else (((Lib.decodeN n b0 b1 b2 b3).1 : Nat), ((i + (Lib.decodeN n b0 b1 b2 b3).2 : Nat) : Int), true)
theorem A06 (s : ByteArray) (i : Nat) : sg s i = sgN (s.size - i) (QD s i) (QD s (i + 1)) (QD s (i + 2)) (QD s (i + 3)) i := by
 unfold sg sgN QD
 rw [Lib.decode_at]
theorem V6 (a lo hi : Int) : Dk a lo hi = some (decide (lo ≤ a ∧ a ≤ hi)) := by
 rw [Dk]
 by_cases h : lo ≤ a
 ·rw [Q4 h]
  by_cases h2 : a ≤ hi
  ·rw [TF h2]; simp [h, h2]
  ·rw [Wt h2]; simp [h2]
 ·rw [RG h]; simp [h]
theorem sA (a lo hi : Int) : Fw a lo hi = some (decide (lo ≤ a ∧ a ≤ hi)) := by
 rw [← V6, Fw, Dk]
section
variable {s : ByteArray} {i : Nat}
def iv (i n least v : Nat) : Int × Int × Bool := if v < least ∨ v > 1114111 ∨ (55296 ≤ v ∧ v ≤ 57343) then (0, 0, false) else ((v : Nat), ((i + 1 + n : Nat) : Int), true)
theorem fb (hs : s.size ≤ 4000000) (h : i < s.size) {n least v k : Nat} (hn : n ≤ 3) (hk : k = n + 1) (hv : v < 100000000) : Af s i n least v k = some (iv i n least v) := by
 rw [Af, Wt (by omega)]
 simp only [Bool.false_eq_true, if_false, V6, A5]
 unfold iv
 by_cases c1 : v < least
 ·rw [Q3 (by omega)]; simp only [if_true, Bool.false_eq_true, if_false]; rw [if_pos (.inl c1)]
 ·rw [FR (by omega)]
  by_cases c2 : v > 1114111
  ·rw [Nt (by omega)]; simp only [if_true, Bool.false_eq_true, if_false]; rw [if_pos (.inr (.inl c2))]
  ·rw [RH (by omega)]
   simp only [Bool.false_eq_true, if_false]
   by_cases c3 : 55296 ≤ v ∧ v ≤ 57343
   ·have : decide ((55296 : Int) ≤ (v : Int) ∧ (v : Int) ≤ 57343) = true := by simp; omega
    rw [this, if_pos (show v < least ∨ v > 1114111 ∨ (55296 ≤ v ∧ v ≤ 57343) from .inr (.inr c3))]; rfl
   ·have : decide ((55296 : Int) ≤ (v : Int) ∧ (v : Int) ≤ 57343) = false := by simp; omega
    rw [this, Az (a := (i : Int)) (b := 1) (by omega) (by omega), Az (a := (i : Int) + 1) (b := (n : Int)) (by omega) (by omega), if_neg (show ¬(v < least ∨ v > 1114111 ∨ (55296 ≤ v ∧ v ≤ 57343)) by omega)]
    simp only [Bool.false_eq_true, if_false]
    congr 3
theorem P7 (hs : s.size ≤ 4000000) {n least v k : Nat} (hk : k ≤ n) (hn : n ≤ 3) (h : i + k < s.size) (hv : v < 1000000) :
  Af s i n least v k = if QD s (i + k) < 128 ∨ 191 < QD s (i + k) then some (0, 0, false) else Af s i n least ((v * 64 + QD s (i + k) - 128 : Nat) : Int) ((k + 1 : Nat) : Int) := by
 have hb := ZG s (i + k)
 have ea : Ac (i : Int) (k : Int) = ((i + k : Nat) : Int) := by rw [Az (by omega) (by omega)]; omega
 rw [Af, TF (by omega), ea, Tr rfl h]
 simp only [if_true, A5]
 rw [s9 (by omega) (by omega)]
 by_cases c1 : QD s (i + k) < 128
 ·rw [Q3 (by omega)]; simp only [if_true, Bool.false_eq_true, if_false]; rw [if_pos (.inl c1)]
 ·rw [FR (by omega)]
  by_cases c2 : 191 < QD s (i + k)
  ·rw [Nt (by omega)]; simp only [if_true, Bool.false_eq_true, if_false]; rw [if_pos (.inr c2)]
  ·rw [RH (by omega)]; simp only [if_true, Bool.false_eq_true, if_false]; rw [if_neg (by omega)]
   have em : UH (v : Int) 64 = ((v * 64 : Nat) : Int) := by
    show IntKind.i64.wrap _ = _
    rw [Pc (by omega) (by omega)]; omega
   rw [em, Az (by omega) (by omega), CF (by omega) (by omega), Az (by omega) (by omega)]
   congr 1
   omega
theorem lG (hs : s.size ≤ 4000000) (h : i < s.size) (n least v : Nat) (hn : 1 ≤ n ∧ n ≤ 3) : C5 s i n least v = if i + n < s.size then Af s i n least v ((1 : Nat) : Int) else some (0, 0, false) := by
 rw [C5, CF (a := AU s) (b := 1) (by simp only [AU]; omega) (by simp only [AU]; omega), CF (a := AU s - 1) (b := (n : Int)) (by simp only [AU]; omega) (by simp only [AU]; omega)]
 by_cases c : i + n < s.size
 ·rw [RH (by simp only [AU]; omega)]; simp only [if_true, Bool.false_eq_true, if_false]; rw [if_pos c]; rfl
 ·rw [Nt (by simp only [AU]; omega)]; simp only [if_true, Bool.false_eq_true, if_false]; rw [if_neg c]
end
def sB (n b0 b1 b2 b3 i : Nat) : Int × Int × Bool :=
 if b0 < 128 then ((b0 : Nat), ((i + 1 : Nat) : Int), true)
 else if b0 < 192 then (0, 0, false)
 else if b0 < 224 then (if 1 < n then (if b1 < 128 ∨ 191 < b1 then (0, 0, false) else iv i 1 128 (b0 % 32 * 64 + b1 - 128)) else (0, 0, false))
 else if b0 < 240 then (if 2 < n then (if b1 < 128 ∨ 191 < b1 then (0, 0, false) else if b2 < 128 ∨ 191 < b2 then (0, 0, false) else iv i 2 2048 ((b0 % 16 * 64 + b1 - 128) * 64 + b2 - 128)) else (0, 0, false))
 else if b0 < 248 then (if 3 < n then (if b1 < 128 ∨ 191 < b1 then (0, 0, false) else if b2 < 128 ∨ 191 < b2 then (0, 0, false) else if b3 < 128 ∨ 191 < b3 then (0, 0, false) else iv i 3 65536 (((b0 % 8 * 64 + b1 - 128) * 64 + b2 - 128) * 64 + b3 - 128)) else (0, 0, false))
 else (0, 0, false)
set_option maxRecDepth 100000 in
set_option maxHeartbeats 2000000 in
theorem sC (n b0 b1 b2 b3 i : Nat) (hn : 1 ≤ n) (h0 : b0 < 256) (h1 : b1 < 256) (h2 : b2 < 256) (h3 : b3 < 256) : sB n b0 b1 b2 b3 i = sgN n b0 b1 b2 b3 i := by
 unfold sB sgN Lib.decodeN
 by_cases c0 : b0 < 128
 ·simp only [if_pos c0]
  rw [if_neg (by omega)]
 ·simp only [if_neg c0]
  by_cases c1 : b0 < 192
  ·rw [if_pos c1]
   repeat' split
   all_goals first | rfl | (exfalso; omega)
  ·rw [if_neg c1]
   by_cases c2 : b0 < 224
   ·rw [if_pos c2]
    have e : b0 % 32 * 64 + b1 % 64 = b0 % 32 * 64 + b1 % 64 := rfl
    unfold iv
    repeat' split
    all_goals first | rfl | (exfalso; omega) | (refine Prod.ext ?_ (Prod.ext ?_ rfl) <;> simp only <;> omega)
   ·rw [if_neg c2]
    by_cases c3 : b0 < 240
    ·rw [if_pos c3]
     unfold iv
     repeat' split
     all_goals first | rfl | (exfalso; omega) | (refine Prod.ext ?_ (Prod.ext ?_ rfl) <;> simp only <;> omega)
    ·rw [if_neg c3]
     unfold iv
     repeat' split
     all_goals first | rfl | (exfalso; omega) | (refine Prod.ext ?_ (Prod.ext ?_ rfl) <;> simp only <;> omega)
theorem mA {s : ByteArray} {i : Nat} (h : i < s.size) (hs : s.size ≤ 4000000) : Da s i = some (sg s i) := by
 have h0 := ZG s i
 have h1 := ZG s (i + 1)
 have h2 := ZG s (i + 2)
 have h3 := ZG s (i + 3)
 rw [A06, ← sC _ _ _ _ _ _ (by omega) h0 h1 h2 h3]
 have hx : wr .i64 ((QD s i : Nat) : Int) = ((QD s i : Nat) : Int) := s9 (by omega) (by omega)
 have n1 : (1 < s.size - i) = (i + 1 < s.size) := propext ⟨fun h => by omega, fun h => by omega⟩
 have n2 : (2 < s.size - i) = (i + 2 < s.size) := propext ⟨fun h => by omega, fun h => by omega⟩
 have n3 : (3 < s.size - i) = (i + 3 < s.size) := propext ⟨fun h => by omega, fun h => by omega⟩
 unfold sB
 simp only [n1, n2, n3]
 rw [Da, FR (by omega), RG (by simp only [AU]; omega), Tr rfl h]
 simp only [Bool.false_eq_true, if_false, A5, hx]
 rw [Az (by omega) (by omega)]
 generalize hb0 : QD s i = b0 at *
 by_cases c0 : b0 < 128
 ·rw [Q3 (by omega), if_pos c0]; rfl
 ·rw [FR (by omega), if_neg c0]
  simp only [Bool.false_eq_true, if_false]
  by_cases c1 : b0 < 192
  ·rw [RG (by omega), if_pos c1]
   simp only [Bool.false_eq_true, if_false, Cf, Ce, hx]
   rw [RG (by omega), RG (by omega)]
   rfl
  ·rw [Q4 (by omega), if_neg c1]
   simp only [if_true, Cf]
   by_cases c2 : b0 < 224
   ·rw [Q3 (by omega), if_pos c2]
    simp only [if_true, hx, zm h0]
    refine Eq.trans (lG hs h 1 128 (b0 % 32) (by omega)) ?_
    by_cases d1 : i + 1 < s.size
    ·rw [if_pos d1, if_pos d1, P7 hs (by omega) (by omega) d1 (by omega)]
     split
     ·rfl
     ·exact fb hs h (by omega) (by omega) (by omega)
    ·rw [if_neg d1, if_neg d1]
   ·rw [FR (by omega), if_neg c2]
    simp only [Bool.false_eq_true, if_false, hx]
    rw [Q4 (by omega)]
    simp only [if_true, Ce]
    by_cases c3 : b0 < 240
    ·rw [Q3 (by omega), if_pos c3]
     simp only [if_true, hx, zn h0]
     refine Eq.trans (lG hs h 2 2048 (b0 % 16) (by omega)) ?_
     by_cases d1 : i + 2 < s.size
     ·rw [if_pos d1, if_pos d1, P7 hs (by omega) (by omega) (by omega) (by omega)]
      split
      ·rfl
      ·rw [P7 hs (by omega) (by omega) d1 (by omega)]
       split
       ·rfl
       ·exact fb hs h (by omega) (by omega) (by omega)
     ·rw [if_neg d1, if_neg d1]
    ·rw [FR (by omega), if_neg c3]
     simp only [Bool.false_eq_true, if_false, hx]
     rw [Q4 (by omega)]
     simp only [if_true]
     by_cases c4 : b0 < 248
     ·rw [Q3 (by omega), if_pos c4]
      simp only [if_true, A05 h0]
      refine Eq.trans (lG hs h 3 65536 (b0 % 8) (by omega)) ?_
      by_cases d1 : i + 3 < s.size
      ·rw [if_pos d1, if_pos d1, P7 hs (by omega) (by omega) (by omega) (by omega)]
       split
       ·rfl
       ·rw [P7 hs (by omega) (by omega) (by omega) (by omega)]
        split
        ·rfl
        ·rw [P7 hs (by omega) (by omega) d1 (by omega)]
         split
         ·rfl
         ·exact fb hs h (by omega) (by omega) (by omega)
      ·rw [if_neg d1, if_neg d1]
     ·rw [FR (by omega), if_neg c4]; rfl
end TT
namespace TT
open Go
def isR (n : Int) (l : List (Int × Int)) : Bool := l.any fun p => decide (p.1 ≤ n ∧ n ≤ p.2)
def P8 : List (Int × Int) → List Int
 | [] => []
 | p :: l => p.1 :: p.2 :: P8 l
theorem o5 (l : List (Int × Int)) : (P8 l).length = 2 * l.length := by
 induction l with
 | nil => rfl
 | cons p l ih => simp [P8, ih]; omega
theorem X1 (n : Int) (L : List Int) (hL : L.length ≤ 4000000) : ∀ (rest : List (Int × Int)) (pre : List Int), pre ++ P8 rest = L → AW n L pre.length = some (isR n rest)
 | [], pre, hp => by
  have hl : pre.length = L.length := by rw [← hp]; simp [P8]
  rw [AW, Az (by omega) (by omega), FR (by simp only [AC]; omega)]; rfl
 | p :: rest, pre, hp => by
  have hl : pre.length + 2 ≤ L.length := by rw [← hp]; simp [P8]
  have e1 : getI L (pre.length : Int) = some p.1 := C8 (rest := p.2 :: P8 rest) hp
  have e2 : getI L ((pre.length : Int) + 1) = some p.2 := by
   have := C8 (pre := pre ++ [p.1]) (rest := P8 rest) (x := p.2) (l := L) (by rw [← hp]; simp [P8])
   simpa using this
  have ih := X1 n L hL rest (pre ++ [p.1, p.2]) (by rw [← hp]; simp [P8])
  rw [AW, Az (a := (pre.length : Int)) (b := 1) (by omega) (by omega), Q3 (by simp only [AC]; omega), Az (a := (pre.length : Int)) (b := 2) (by omega) (by omega)]
  simp only [if_true, e1, e2, A5, V6]
  have e3 : ((pre.length : Int) + 2) = (((pre ++ [p.1, p.2]).length : Nat) : Int) := by simp
  rw [e3, ih]
  simp only [isR, List.any_cons]
  cases decide (p.1 ≤ n ∧ n ≤ p.2) <;> simp
theorem X2 (n : Int) (L : List A7) (hL : L.length ≤ 4000000) : ∀ (rest : List (Int × Int)) (pre : List A7), pre ++ rest.map (fun p => A7.mk p.1 p.2) = L → ∃ k, AM L pre.length n = some (k, n) ∧ geI k 0 = isR n rest
 | [], pre, hp => by
  refine ⟨-1, ?_, rfl⟩
  rw [AM, Fa (by simpa using hp)]; rfl
 | p :: rest, pre, hp => by
  obtain ⟨k, h1, h2⟩ := X2 n L hL rest (pre ++ [A7.mk p.1 p.2]) (by rw [← hp]; simp)
  have hp' : pre ++ A7.mk p.1 p.2 :: rest.map (fun p => A7.mk p.1 p.2) = L := by rw [← hp]; rfl
  rw [AM, Ec hp', C8 hp', DU hp' (by rw [Ba]; omega)]
  simp only [if_true, A5, Mn, sA, isR, List.any_cons]
  cases hd : decide (p.1 ≤ n ∧ n ≤ p.2) with
  | true => exact ⟨pre.length, by simp, by rw [Q4 (by omega)]; rfl⟩
  | false => exact ⟨k, by simpa using h1, by rw [h2]; rfl⟩
theorem ZI (n : Int) (l : List (Int × Int)) (hl : l.length ≤ 1000) : Hv n (l.map fun p => A7.mk p.1 p.2) = some (isR n l) := by
 obtain ⟨k, h1, h2⟩ := X2 n _ (by simp; omega) l [] rfl
 rw [Hv, BO, Bo]
 have h1' : AM (l.map fun p => A7.mk p.1 p.2) 0 n = some (k, n) := h1
 rw [h1']
 simp only [A5, h2]
theorem d9 (n : Int) (l : List (Int × Int)) (hl : l.length ≤ 1000) : D6 n (P8 l) = some (isR n l) := by
 rw [D6]
 exact X1 n _ (by rw [o5]; omega) l [] rfl
def ZJ : List (Int × Int) := [(65, 90), (95, 95), (97, 122), (192, 214), (216, 246), (248, 767), (880, 893), (895, 8191), (8204, 8205), (8304, 8591), (11264, 12271), (12289, 55295), (63744, 64975), (65008, 65533), (65536, 983039)]
def iw : List (Int × Int) := [(45, 46), (48, 57), (183, 183), (768, 879), (8255, 8256)]
def mB : List (Int × Int) := [(9, 10), (13, 13), (32, 55295), (57344, 65533), (65536, 1114111)]
def RJ (n : Int) : Bool := isR n ZJ
def iy (n : Int) : Bool := RJ n || isR n iw
theorem ZK (n : Int) : CT n = some (RJ n) := by
 have e := d9 n ZJ (by decide)
 simp only [ZJ, P8] at e
 rw [CT, e]; rfl
theorem ZL (n : Int) : Gd n = some (RJ n) := by
 have e := ZI n ZJ (by decide)
 simp only [ZJ, List.map_cons, List.map_nil] at e
 rw [Gd, e]; rfl
theorem o6 (n : Int) : D9 n = some (iy n) := by
 have e := d9 n iw (by decide)
 simp only [iw, P8] at e
 rw [D9, ZK, e]
 simp only [A5, iy]
 cases RJ n <;> rfl
theorem o7 (n : Int) : IG n = some (iy n) := by
 have e := ZI n iw (by decide)
 simp only [iw, List.map_cons, List.map_nil] at e
 rw [IG, ZL, e]
 simp only [A5, iy]
 cases RJ n <;> rfl
def iz (n : Int) : Bool := isR n mB
theorem o8 (n : Int) : LP n = some (iz n) := by
 have e := ZI n mB (by decide)
 simp only [mB, List.map_cons, List.map_nil] at e
 rw [LP, e]; rfl
theorem o9 (n : Int) : GE n = some (iz n) := by
 have hb : iz n = (decide (n = 9) || (decide (n = 10) || (decide (n = 13) || (decide (32 ≤ n ∧ n ≤ 55295) || (decide (57344 ≤ n ∧ n ≤ 65533) || decide (65536 ≤ n ∧ n ≤ 1114111)))))) := by
  rw [Bool.eq_iff_iff]
  simp [iz, isR, mB]
  omega
 have e (m : Int) : BE n m = decide (n = m) := by
  by_cases h : n = m
  ·rw [Wu h]; simp [h]
  ·rw [P5 h]; simp [h]
 rw [GE, hb]
 simp only [e, V6, A5]
 cases decide (n = 9) <;> cases decide (n = 10) <;> cases decide (n = 13) <;> cases decide (32 ≤ n ∧ n ≤ 55295) <;> cases decide (57344 ≤ n ∧ n ≤ 65533) <;> simp
theorem wE {s : ByteArray} {i : Nat} (h : i < s.size) : (sg s i).2.2 = true → ∃ k, (sg s i).2.1 = ((i + k : Nat) : Int) ∧ 1 ≤ k ∧ i + k ≤ s.size ∧ ((k = 1 ∧ (sg s i).1 = QD s i) ∨ ∀ j, i ≤ j → j < i + k → 128 ≤ QD s j) := by
 obtain ⟨b1, b2, b3⟩ := ZH h
 unfold sg
 split
 ·intro h; cases h
 ·intro _
  refine ⟨(Utf8.decode s i).2, rfl, b2, b3, ?_⟩
  rename_i hne
  have h0 := ZG s i
  simp only
  rw [Lib.decode_at] at hne ⊢
  simp only [show (s.get! i).toNat = QD s i from rfl, show (s.get! (i + 1)).toNat = QD s (i + 1) from rfl, show (s.get! (i + 2)).toNat = QD s (i + 2) from rfl, show (s.get! (i + 3)).toNat = QD s (i + 3) from rfl] at hne ⊢
  revert hne
  unfold Lib.decodeN
  by_cases c0 : QD s i < 128
  ·simp only [if_pos c0]; intro _; left; simp
  ·simp only [if_neg c0]
   have hj : ∀ j, j = i ∨ j = i + 1 ∨ j = i + 2 ∨ j = i + 3 → (j = i + 1 → 128 ≤ QD s (i + 1)) → (j = i + 2 → 128 ≤ QD s (i + 2)) → (j = i + 3 → 128 ≤ QD s (i + 3)) → 128 ≤ QD s j := by
    rintro j (rfl | rfl | rfl | rfl) a b c
    ·omega
    ·exact a rfl
    ·exact b rfl
    ·exact c rfl
   repeat' split
   all_goals intro hne
   all_goals first
    | (exfalso; exact hne ⟨rfl, Nat.le_refl _⟩)
    | (refine .inr fun j h1 h2 => hj j (by omega) (fun _ => by omega) (fun _ => by omega) (fun _ => by omega))
def sD (s : ByteArray) : Bool := decide ((1 : Int) ≤ AU s ∧ AU s ≤ 16)
theorem ZM (s : ByteArray) (hs : s.size ≤ 4000000) : ∀ (m i : Nat), i ≤ s.size → s.size - i ≤ m → ∃ b, AQ s i = some b ∧ C7 s i = some (b && sD s) ∧ (b = true → ∀ j, i ≤ j → j < s.size → QD s j ≠ 58)
 | 0, i, h, hm => ⟨true, by rw [AQ, FR (by simp only [AU]; omega)]; rfl, by rw [C7, FR (by simp only [AU]; omega), sA]; rfl, fun _ j h1 h2 => by omega⟩
 | m + 1, i, h, hm => by
  by_cases hi : i < s.size
  ·rw [AQ, C7, Q3 (by simp only [AU]; omega), mA hi hs, m9 hi hs]
   simp only [if_true, A5, ZK, ZL, o6, o7]
   cases hok : (sg s i).2.2 with
   | false => exact ⟨false, by simp, by simp, by simp⟩
   | true =>
    obtain ⟨k, e1, e2, e3, e4⟩ := wE hi hok
    obtain ⟨b, f1, f2, f3⟩ := ZM s hs m (i + k) e3 (by omega)
    rw [e1]
    simp only [if_true, f1, f2]
    by_cases hp : iy (sg s i).1 = true
    ·have hc : b = true → ∀ j, i ≤ j → j < s.size → QD s j ≠ 58 := fun hb j h1 h2 h3 => by
      by_cases hj : j < i + k
      ·rcases e4 with ⟨r1, r2⟩ | r
       ·have : j = i := by omega
        subst this
        rw [r2, h3] at hp
        revert hp; decide
       ·have := r j h1 hj; omega
      ·exact f3 hb j (by omega) h2 h3
     by_cases h0 : BE (i : Int) 0 = true
     ·by_cases hst : RJ (sg s i).1 = true
      ·exact ⟨b, by simp [h0, hst, hp], by simp [h0, hst, hp], hc⟩
      ·exact ⟨false, by simp [h0, hst], by simp [h0, hst], by simp⟩
     ·exact ⟨b, by simp [h0, hp], by simp [h0, hp], hc⟩
    ·refine ⟨false, ?_, ?_, by simp⟩
     ·by_cases h0 : BE (i : Int) 0 = true <;> by_cases hst : RJ (sg s i).1 = true <;> simp [h0, hst, hp]
     ·by_cases h0 : BE (i : Int) 0 = true <;> by_cases hst : RJ (sg s i).1 = true <;> simp [h0, hst, hp]
  ·exact ⟨true, by rw [AQ, FR (by simp only [AU]; omega)]; rfl, by rw [C7, FR (by simp only [AU]; omega), sA]; rfl, fun _ j h1 h2 => by omega⟩
def I4 (s : ByteArray) : Bool := (B6 s).getD false
theorem KK (s : ByteArray) (hs : s.size ≤ 4000000) : B6 s = some (I4 s) ∧ EP s = some (I4 s) ∧ (I4 s = true → 1 ≤ s.size ∧ ∀ j, j < s.size → QD s j ≠ 58) := by
 obtain ⟨b, h1, h2, h3⟩ := ZM s hs s.size 0 (Nat.zero_le _) (by omega)
 have e1 : B6 s = some (b && sD s) := by
  rw [B6, V6]
  simp only [A5]
  have h1' : AQ s 0 = some b := h1
  have : sD s = decide ((1 : Int) ≤ AU s ∧ AU s ≤ 16) := rfl
  rw [← this, h1']
  cases sD s <;> cases b <;> rfl
 have e2 : I4 s = (b && sD s) := by rw [I4, e1]; rfl
 refine ⟨by rw [e1, e2], by rw [EP, e2]; exact h2, fun h => ?_⟩
 rw [e2, Bool.and_eq_true] at h
 refine ⟨?_, fun j hj => h3 h.1 j (Nat.zero_le _) hj⟩
 obtain ⟨t1, _⟩ := of_decide_eq_true h.2
 simp only [AU] at t1
 omega
theorem ZN (s : ByteArray) (hs : s.size ≤ 1500) : ∀ (m i : Nat), i ≤ s.size → s.size - i ≤ m → ∃ b, B8 s i = some b ∧ Ch s i = some b
 | 0, i, h, hm => ⟨true, by rw [B8, FR (by simp only [AU]; omega), TF (by simp only [AU]; omega)]; rfl, by rw [Ch, FR (by simp only [AU]; omega)]; rfl⟩
 | m + 1, i, h, hm => by
  by_cases hi : i < s.size
  ·rw [B8, Ch, Q3 (by simp only [AU]; omega), mA hi (by omega), m9 hi (by omega)]
   simp only [if_true, A5, o9, o8]
   cases hok : (sg s i).2.2 with
   | false => exact ⟨false, by simp, by simp⟩
   | true =>
    obtain ⟨k, e1, e2, e3, e4⟩ := wE hi hok
    obtain ⟨b, f1, f2⟩ := ZN s hs m (i + k) e3 (by omega)
    rw [e1]
    simp only [if_true, f1, f2]
    cases iz (sg s i).1
    ·exact ⟨false, by simp, by simp⟩
    ·exact ⟨b, by simp, by simp⟩
  ·exact ⟨true, by rw [B8, FR (by simp only [AU]; omega), TF (by simp only [AU]; omega)]; rfl, by rw [Ch, FR (by simp only [AU]; omega)]; rfl⟩
theorem sE (s : ByteArray) (hs : s.size ≤ 4000000) : ∃ b, Ax s = some b ∧ Dc s = some b := by
 rw [Ax, Dc]
 by_cases h : s.size ≤ 600
 ·obtain ⟨b, h1, h2⟩ := ZN s (by omega) s.size 0 (Nat.zero_le _) (by omega)
  have h1' : EK s = some b := by rw [EK]; exact h1
  have h2' : JX s = some b := by rw [JX]; exact h2
  rw [TF (by simp only [AU]; omega)]
  exact ⟨b, by simp [h1', A5], by simp [h2', A5]⟩
 ·rw [Wt (by simp only [AU]; omega)]
  exact ⟨false, rfl, rfl⟩
end TT
