import Derived.Test.YtaeegkjcjlnanaaGreatDoorTP0
import Derived.Test.YtaeegkjcjlnanaaGreatDoorTDefs
import Derived.Lib.IndexAny
set_option linter.unusedVariables false
set_option linter.unusedSimpArgs false
namespace TT
open Go
theorem wm (s : ByteArray) (i k : Nat) : (s.extract i s.size).get! k = s.get! (i + k) := by
 have e : (s.extract i s.size).data = s.data.extract i s.data.size := by
  first | rfl | simp
 show (s.extract i s.size).data[k]! = s.data[i + k]!
 rw [e]
 simp only [getElem!_def]
 rw [Array.getElem?_extract]
 have hz : s.size = s.data.size := rfl
 by_cases h : k < s.data.size - i
 ·rw [if_pos (by omega)]
 ·have : s.data[i + k]? = none := Array.getElem?_eq_none (by omega)
  rw [if_neg (by omega), this]
theorem gl (s : ByteArray) (i : Nat) (h : i < s.size) : Lib.decodeGo (s.extract i s.size) = Utf8.decode s i := by
 have hz : (s.extract i s.size).size = s.size - i := by simp
 unfold Lib.decodeGo
 rw [if_neg (by omega), Lib.decode_at, Lib.decode_at, hz]
 simp only [wm, Nat.sub_zero, Nat.add_zero, Nat.zero_add]
def QK (s : ByteArray) (i : Nat) : Nat := (s.get! i).toNat
theorem Zr (s : ByteArray) (i : Nat) : QK s i < 256 := (s.get! i).toNat_lt
theorem U6 {s : ByteArray} {i : Int} {k : Nat} (hi : i = k) (h : k < s.size) : PU s i = some ((QK s k : Nat) : Int) := by
 subst hi
 unfold PU
 rw [dif_pos ⟨by omega, by simpa using h⟩]
 have h' : k < s.data.size := h
 have e : s.get! k = s[k]'h := by
  show s.data[k]! = s.data[k]
  rw [getElem!_pos s.data k h']
 simp only [QK, e, Int.toNat_natCast]
theorem A0e {x : Nat} (h : x < 256) : QD .i64 (x : Int) 31 = ((x % 32 : Nat) : Int) := (show ∀ n : Fin 256, QD .i64 ((n.val : Nat) : Int) 31 = ((n.val % 32 : Nat) : Int) by decide +kernel) ⟨x, h⟩
theorem A0f {x : Nat} (h : x < 256) : QD .i64 (x : Int) 15 = ((x % 16 : Nat) : Int) := (show ∀ n : Fin 256, QD .i64 ((n.val : Nat) : Int) 15 = ((n.val % 16 : Nat) : Int) by decide +kernel) ⟨x, h⟩
theorem A0r {x : Nat} (h : x < 256) : QD .i64 (x : Int) 7 = ((x % 8 : Nat) : Int) := (show ∀ n : Fin 256, QD .i64 ((n.val : Nat) : Int) 7 = ((n.val % 8 : Nat) : Int) by decide +kernel) ⟨x, h⟩
theorem tB {x : Int} (h1 : -9223372036854775808 ≤ x) (h2 : x < 9223372036854775808) : wr .i64 x = x := Po h1 h2
def sg (s : ByteArray) (i : Nat) : Int × Int × Bool :=
 if (Utf8.decode s i).1 = 65533 ∧ (Utf8.decode s i).2 ≤ 1 then (0, 0, false) else (((Utf8.decode s i).1 : Nat), ((i + (Utf8.decode s i).2 : Nat) : Int), true)
theorem jj {n b0 b1 b2 b3 : Nat} (hn : 1 ≤ n) (h0 : b0 < 256) : (Lib.decodeN n b0 b1 b2 b3).1 ≤ 1114111 ∧ 1 ≤ (Lib.decodeN n b0 b1 b2 b3).2 ∧ (Lib.decodeN n b0 b1 b2 b3).2 ≤ n := by
 unfold Lib.decodeN
 repeat' split
 all_goals simp only
 all_goals omega
theorem Zs {s : ByteArray} {i : Nat} (h : i < s.size) : (Utf8.decode s i).1 ≤ 1114111 ∧ 1 ≤ (Utf8.decode s i).2 ∧ i + (Utf8.decode s i).2 ≤ s.size := by
 rw [Lib.decode_at]
 have := jj (n := s.size - i) (b0 := (s.get! i).toNat) (b1 := (s.get! (i + 1)).toNat) (b2 := (s.get! (i + 2)).toNat) (b3 := (s.get! (i + 3)).toNat) (by omega) (Zr s i)
 omega
theorem nC {s : ByteArray} {i : Nat} (h : i < s.size) (hs : s.size ≤ 4000000) : I4 s i = some (sg s i) := by
 obtain ⟨b1, b2, b3⟩ := Zs h
 have e1 : HY (i : Int) 0 (BA (AS s) 1) = some true := by
  rw [HY, Q9 (by omega), BT (by simp only [AS]; omega) (by simp only [AS]; omega), TQ (by simp only [AS]; omega)]; rfl
 have e2 : PV s i (AS s) = some (s.extract i s.size) := by
  unfold PV AS
  rw [if_pos ⟨by omega, by omega, by omega⟩]
  simp
 have e3 : YL (s.extract i s.size) = ((((Utf8.decode s i).1 : Nat) : Int), (((Utf8.decode s i).2 : Nat) : Int)) := by
  rw [YL, gl s i h]
 rw [I4, e1]
 simp only [A5, if_true, e2, Cm, e3]
 rw [tB (by omega) (by omega), Al (by omega) (by omega)]
 unfold sg
 by_cases c1 : (Utf8.decode s i).1 = 65533
 ·rw [QB (by omega)]
  by_cases c2 : (Utf8.decode s i).2 ≤ 1
  ·rw [TQ (by omega)]; simp only [if_true, Bool.false_eq_true, if_false]; rw [if_pos ⟨c1, c2⟩]
  ·rw [XI (by omega)]; simp only [if_true, Bool.false_eq_true, if_false]; rw [if_neg (fun h => c2 h.2)]
   simp
 ·rw [LS (by omega)]; simp only [if_true, Bool.false_eq_true, if_false]; rw [if_neg (fun h => c1 h.1)]
  simp
def sgN (n b0 b1 b2 b3 i : Nat) : Int × Int × Bool :=
 if (Lib.decodeN n b0 b1 b2 b3).1 = 65533 ∧ (Lib.decodeN n b0 b1 b2 b3).2 ≤ 1 then (0, 0, false) else (((Lib.decodeN n b0 b1 b2 b3).1 : Nat), ((i + (Lib.decodeN n b0 b1 b2 b3).2 : Nat) : Int), true)
theorem A0s (s : ByteArray) (i : Nat) : sg s i = sgN (s.size - i) (QK s i) (QK s (i + 1)) (QK s (i + 2)) (QK s (i + 3)) i := by
 unfold sg sgN QK
 rw [Lib.decode_at]
theorem VW (a lo hi : Int) : CW a lo hi = some (decide (lo ≤ a ∧ a ≤ hi)) := by
 rw [CW]
 by_cases h : lo ≤ a
 ·rw [Q9 h]
  by_cases h2 : a ≤ hi
  ·rw [TQ h2]; simp [h, h2]
  ·rw [XI h2]; simp [h2]
 ·rw [QA h]; simp [h]
theorem tC (a lo hi : Int) : HY a lo hi = some (decide (lo ≤ a ∧ a ≤ hi)) := by
 rw [← VW, HY, CW]
section
variable {s : ByteArray} {i : Nat}
def jk (i n least v : Nat) : Int × Int × Bool := if v < least ∨ v > 1114111 ∨ (55296 ≤ v ∧ v ≤ 57343) then (0, 0, false) else ((v : Nat), ((i + 1 + n : Nat) : Int), true)
theorem gm (hs : s.size ≤ 4000000) (h : i < s.size) {n least v k : Nat} (hn : n ≤ 3) (hk : k = n + 1) (hv : v < 100000000) : Aa s i n least v k = some (jk i n least v) := by
 rw [Aa, XI (by omega)]
 simp only [Bool.false_eq_true, if_false, VW, A5]
 unfold jk
 by_cases c1 : v < least
 ·rw [O6 (by omega)]; simp only [if_true, Bool.false_eq_true, if_false]; rw [if_pos (.inl c1)]
 ·rw [Eg (by omega)]
  by_cases c2 : v > 1114111
  ·rw [PG (by omega)]; simp only [if_true, Bool.false_eq_true, if_false]; rw [if_pos (.inr (.inl c2))]
  ·rw [TR (by omega)]
   simp only [Bool.false_eq_true, if_false]
   by_cases c3 : 55296 ≤ v ∧ v ≤ 57343
   ·have : decide ((55296 : Int) ≤ (v : Int) ∧ (v : Int) ≤ 57343) = true := by simp; omega
    rw [this, if_pos (show v < least ∨ v > 1114111 ∨ (55296 ≤ v ∧ v ≤ 57343) from .inr (.inr c3))]; rfl
   ·have : decide ((55296 : Int) ≤ (v : Int) ∧ (v : Int) ≤ 57343) = false := by simp; omega
    rw [this, Al (a := (i : Int)) (b := 1) (by omega) (by omega), Al (a := (i : Int) + 1) (b := (n : Int)) (by omega) (by omega), if_neg (show ¬(v < least ∨ v > 1114111 ∨ (55296 ≤ v ∧ v ≤ 57343)) by omega)]
    simp only [Bool.false_eq_true, if_false]
    congr 3
theorem PJ (hs : s.size ≤ 4000000) {n least v k : Nat} (hk : k ≤ n) (hn : n ≤ 3) (h : i + k < s.size) (hv : v < 1000000) :
  Aa s i n least v k = if QK s (i + k) < 128 ∨ 191 < QK s (i + k) then some (0, 0, false) else Aa s i n least ((v * 64 + QK s (i + k) - 128 : Nat) : Int) ((k + 1 : Nat) : Int) := by
 have hb := Zr s (i + k)
 have ea : AP (i : Int) (k : Int) = ((i + k : Nat) : Int) := by rw [Al (by omega) (by omega)]; omega
 rw [Aa, TQ (by omega), ea, U6 rfl h]
 simp only [if_true, A5]
 rw [tB (by omega) (by omega)]
 by_cases c1 : QK s (i + k) < 128
 ·rw [O6 (by omega)]; simp only [if_true, Bool.false_eq_true, if_false]; rw [if_pos (.inl c1)]
 ·rw [Eg (by omega)]
  by_cases c2 : 191 < QK s (i + k)
  ·rw [PG (by omega)]; simp only [if_true, Bool.false_eq_true, if_false]; rw [if_pos (.inr c2)]
  ·rw [TR (by omega)]; simp only [if_true, Bool.false_eq_true, if_false]; rw [if_neg (by omega)]
   have em : UY (v : Int) 64 = ((v * 64 : Nat) : Int) := by
    show IntKind.i64.wrap _ = _
    rw [Po (by omega) (by omega)]; omega
   rw [em, Al (by omega) (by omega), BT (by omega) (by omega), Al (by omega) (by omega)]
   congr 1
   omega
theorem mL (hs : s.size ≤ 4000000) (h : i < s.size) (n least v : Nat) (hn : 1 ≤ n ∧ n ≤ 3) : C6 s i n least v = if i + n < s.size then Aa s i n least v ((1 : Nat) : Int) else some (0, 0, false) := by
 rw [C6, BT (a := AS s) (b := 1) (by simp only [AS]; omega) (by simp only [AS]; omega), BT (a := AS s - 1) (b := (n : Int)) (by simp only [AS]; omega) (by simp only [AS]; omega)]
 by_cases c : i + n < s.size
 ·rw [TR (by simp only [AS]; omega)]; simp only [if_true, Bool.false_eq_true, if_false]; rw [if_pos c]; rfl
 ·rw [PG (by simp only [AS]; omega)]; simp only [if_true, Bool.false_eq_true, if_false]; rw [if_neg c]
end
def tD (n b0 b1 b2 b3 i : Nat) : Int × Int × Bool :=
 if b0 < 128 then ((b0 : Nat), ((i + 1 : Nat) : Int), true)
 else if b0 < 192 then (0, 0, false)
 else if b0 < 224 then (if 1 < n then (if b1 < 128 ∨ 191 < b1 then (0, 0, false) else jk i 1 128 (b0 % 32 * 64 + b1 - 128)) else (0, 0, false))
 else if b0 < 240 then (if 2 < n then (if b1 < 128 ∨ 191 < b1 then (0, 0, false) else if b2 < 128 ∨ 191 < b2 then (0, 0, false) else jk i 2 2048 ((b0 % 16 * 64 + b1 - 128) * 64 + b2 - 128)) else (0, 0, false))
 else if b0 < 248 then (if 3 < n then (if b1 < 128 ∨ 191 < b1 then (0, 0, false) else if b2 < 128 ∨ 191 < b2 then (0, 0, false) else if b3 < 128 ∨ 191 < b3 then (0, 0, false) else jk i 3 65536 (((b0 % 8 * 64 + b1 - 128) * 64 + b2 - 128) * 64 + b3 - 128)) else (0, 0, false))
 else (0, 0, false)
set_option maxRecDepth 100000 in
set_option maxHeartbeats 2000000 in
theorem tE (n b0 b1 b2 b3 i : Nat) (hn : 1 ≤ n) (h0 : b0 < 256) (h1 : b1 < 256) (h2 : b2 < 256) (h3 : b3 < 256) : tD n b0 b1 b2 b3 i = sgN n b0 b1 b2 b3 i := by
 unfold tD sgN Lib.decodeN
 by_cases c0 : b0 < 128
 ·simp only [if_pos c0]
  rw [if_neg (by omega)]
 ·simp only [if_neg c0]
  by_cases c1 : b0 < 192
  ·rw [if_pos c1]
   repeat' split
   all_goals first | rfl | (exfalso; omega)
  ·rw [if_neg c1]
   by_cases c2 : b0 < 224
   ·rw [if_pos c2]
    have e : b0 % 32 * 64 + b1 % 64 = b0 % 32 * 64 + b1 % 64 := rfl
    unfold jk
    repeat' split
    all_goals first | rfl | (exfalso; omega) | (refine Prod.ext ?_ (Prod.ext ?_ rfl) <;> simp only <;> omega)
   ·rw [if_neg c2]
    by_cases c3 : b0 < 240
    ·rw [if_pos c3]
     unfold jk
     repeat' split
     all_goals first | rfl | (exfalso; omega) | (refine Prod.ext ?_ (Prod.ext ?_ rfl) <;> simp only <;> omega)
    ·rw [if_neg c3]
     unfold jk
     repeat' split
     all_goals first | rfl | (exfalso; omega) | (refine Prod.ext ?_ (Prod.ext ?_ rfl) <;> simp only <;> omega)
theorem nE {s : ByteArray} {i : Nat} (h : i < s.size) (hs : s.size ≤ 4000000) : FO s i = some (sg s i) := by
 have h0 := Zr s i
 have h1 := Zr s (i + 1)
 have h2 := Zr s (i + 2)
 have h3 := Zr s (i + 3)
 rw [A0s, ← tE _ _ _ _ _ _ (by omega) h0 h1 h2 h3]
 have hx : wr .i64 ((QK s i : Nat) : Int) = ((QK s i : Nat) : Int) := tB (by omega) (by omega)
 have n1 : (1 < s.size - i) = (i + 1 < s.size) := propext ⟨fun h => by omega, fun h => by omega⟩
 have n2 : (2 < s.size - i) = (i + 2 < s.size) := propext ⟨fun h => by omega, fun h => by omega⟩
 have n3 : (3 < s.size - i) = (i + 3 < s.size) := propext ⟨fun h => by omega, fun h => by omega⟩
 unfold tD
 simp only [n1, n2, n3]
 rw [FO, Eg (by omega), QA (by simp only [AS]; omega), U6 rfl h]
 simp only [Bool.false_eq_true, if_false, A5, hx]
 rw [Al (by omega) (by omega)]
 generalize hb0 : QK s i = b0 at *
 by_cases c0 : b0 < 128
 ·rw [O6 (by omega), if_pos c0]; rfl
 ·rw [Eg (by omega), if_neg c0]
  simp only [Bool.false_eq_true, if_false]
  by_cases c1 : b0 < 192
  ·rw [QA (by omega), if_pos c1]
   simp only [Bool.false_eq_true, if_false, Cc, Cb, hx]
   rw [QA (by omega), QA (by omega)]
   rfl
  ·rw [Q9 (by omega), if_neg c1]
   simp only [if_true, Cc]
   by_cases c2 : b0 < 224
   ·rw [O6 (by omega), if_pos c2]
    simp only [if_true, hx, A0e h0]
    refine Eq.trans (mL hs h 1 128 (b0 % 32) (by omega)) ?_
    by_cases d1 : i + 1 < s.size
    ·rw [if_pos d1, if_pos d1, PJ hs (by omega) (by omega) d1 (by omega)]
     split
     ·rfl
     ·exact gm hs h (by omega) (by omega) (by omega)
    ·rw [if_neg d1, if_neg d1]
   ·rw [Eg (by omega), if_neg c2]
    simp only [Bool.false_eq_true, if_false, hx]
    rw [Q9 (by omega)]
    simp only [if_true, Cb]
    by_cases c3 : b0 < 240
    ·rw [O6 (by omega), if_pos c3]
     simp only [if_true, hx, A0f h0]
     refine Eq.trans (mL hs h 2 2048 (b0 % 16) (by omega)) ?_
     by_cases d1 : i + 2 < s.size
     ·rw [if_pos d1, if_pos d1, PJ hs (by omega) (by omega) (by omega) (by omega)]
      split
      ·rfl
      ·rw [PJ hs (by omega) (by omega) d1 (by omega)]
       split
       ·rfl
       ·exact gm hs h (by omega) (by omega) (by omega)
     ·rw [if_neg d1, if_neg d1]
    ·rw [Eg (by omega), if_neg c3]
     simp only [Bool.false_eq_true, if_false, hx]
     rw [Q9 (by omega)]
     simp only [if_true]
     by_cases c4 : b0 < 248
     ·rw [O6 (by omega), if_pos c4]
      simp only [if_true, A0r h0]
      refine Eq.trans (mL hs h 3 65536 (b0 % 8) (by omega)) ?_
      by_cases d1 : i + 3 < s.size
      ·rw [if_pos d1, if_pos d1, PJ hs (by omega) (by omega) (by omega) (by omega)]
       split
       ·rfl
       ·rw [PJ hs (by omega) (by omega) (by omega) (by omega)]
        split
        ·rfl
        ·rw [PJ hs (by omega) (by omega) d1 (by omega)]
         split
         ·rfl
         ·exact gm hs h (by omega) (by omega) (by omega)
      ·rw [if_neg d1, if_neg d1]
     ·rw [Eg (by omega), if_neg c4]; rfl
end TT
namespace TT
open Go
def isR (n : Int) (l : List (Int × Int)) : Bool := l.any fun p => decide (p.1 ≤ n ∧ n ≤ p.2)
def PK : List (Int × Int) → List Int
 | [] => []
 | p :: l => p.1 :: p.2 :: PK l
theorem pE (l : List (Int × Int)) : (PK l).length = 2 * l.length := by
 induction l with
 | nil => rfl
 | cons p l ih => simp [PK, ih]; omega
theorem XS (n : Int) (L : List Int) (hL : L.length ≤ 4000000) : ∀ (rest : List (Int × Int)) (pre : List Int), pre ++ PK rest = L → BL n L pre.length = some (isR n rest)
 | [], pre, hp => by
  have hl : pre.length = L.length := by rw [← hp]; simp [PK]
  rw [BL, Al (by omega) (by omega), Eg (by simp only [AC]; omega)]; rfl
 | p :: rest, pre, hp => by
  have hl : pre.length + 2 ≤ L.length := by rw [← hp]; simp [PK]
  have e1 : getI L (pre.length : Int) = some p.1 := CT (rest := p.2 :: PK rest) hp
  have e2 : getI L ((pre.length : Int) + 1) = some p.2 := by
   have := CT (pre := pre ++ [p.1]) (rest := PK rest) (x := p.2) (l := L) (by rw [← hp]; simp [PK])
   simpa using this
  have ih := XS n L hL rest (pre ++ [p.1, p.2]) (by rw [← hp]; simp [PK])
  rw [BL, Al (a := (pre.length : Int)) (b := 1) (by omega) (by omega), O6 (by simp only [AC]; omega), Al (a := (pre.length : Int)) (b := 2) (by omega) (by omega)]
  simp only [if_true, e1, e2, A5, VW]
  have e3 : ((pre.length : Int) + 2) = (((pre ++ [p.1, p.2]).length : Nat) : Int) := by simp
  rw [e3, ih]
  simp only [isR, List.any_cons]
  cases decide (p.1 ≤ n ∧ n ≤ p.2) <;> simp
theorem XT (n : Int) (L : List A7) (hL : L.length ≤ 4000000) : ∀ (rest : List (Int × Int)) (pre : List A7), pre ++ rest.map (fun p => A7.mk p.1 p.2) = L → ∃ k, AM L pre.length n = some (k, n) ∧ geI k 0 = isR n rest
 | [], pre, hp => by
  refine ⟨-1, ?_, rfl⟩
  rw [AM, Fd (by simpa using hp)]; rfl
 | p :: rest, pre, hp => by
  obtain ⟨k, h1, h2⟩ := XT n L hL rest (pre ++ [A7.mk p.1 p.2]) (by rw [← hp]; simp)
  have hp' : pre ++ A7.mk p.1 p.2 :: rest.map (fun p => A7.mk p.1 p.2) = L := by rw [← hp]; rfl
  rw [AM, EV hp', CT hp', DN hp' (by rw [BX]; omega)]
  simp only [if_true, A5, Mz, tC, isR, List.any_cons]
  cases hd : decide (p.1 ≤ n ∧ n ≤ p.2) with
  | true => exact ⟨pre.length, by simp, by rw [Q9 (by omega)]; rfl⟩
  | false => exact ⟨k, by simpa using h1, by rw [h2]; rfl⟩
theorem Zt (n : Int) (l : List (Int × Int)) (hl : l.length ≤ 1000) : Hn n (l.map fun p => A7.mk p.1 p.2) = some (isR n l) := by
 obtain ⟨k, h1, h2⟩ := XT n _ (by simp; omega) l [] rfl
 rw [Hn, BI, Bm]
 have h1' : AM (l.map fun p => A7.mk p.1 p.2) 0 n = some (k, n) := h1
 rw [h1']
 simp only [A5, h2]
theorem eE (n : Int) (l : List (Int × Int)) (hl : l.length ≤ 1000) : DU n (PK l) = some (isR n l) := by
 rw [DU]
 exact XS n _ (by rw [pE]; omega) l [] rfl
def Zu : List (Int × Int) := [(65, 90), (95, 95), (97, 122), (192, 214), (216, 246), (248, 767), (880, 893), (895, 8191), (8204, 8205), (8304, 8591), (11264, 12271), (12289, 55295), (63744, 64975), (65008, 65533), (65536, 983039)]
def jl : List (Int × Int) := [(45, 46), (48, 57), (183, 183), (768, 879), (8255, 8256)]
def nF : List (Int × Int) := [(9, 10), (13, 13), (32, 55295), (57344, 65533), (65536, 1114111)]
def RT (n : Int) : Bool := isR n Zu
def jm (n : Int) : Bool := RT n || isR n jl
theorem Zv (n : Int) : ED n = some (RT n) := by
 have e := eE n Zu (by decide)
 simp only [Zu, PK] at e
 rw [ED, e]; rfl
theorem Zw (n : Int) : Gg n = some (RT n) := by
 have e := Zt n Zu (by decide)
 simp only [Zu, List.map_cons, List.map_nil] at e
 rw [Gg, e]; rfl
theorem pF (n : Int) : FP n = some (jm n) := by
 have e := eE n jl (by decide)
 simp only [jl, PK] at e
 rw [FP, Zv, e]
 simp only [A5, jm]
 cases RT n <;> rfl
theorem pG (n : Int) : I5 n = some (jm n) := by
 have e := Zt n jl (by decide)
 simp only [jl, List.map_cons, List.map_nil] at e
 rw [I5, Zw, e]
 simp only [A5, jm]
 cases RT n <;> rfl
def jn (n : Int) : Bool := isR n nF
theorem pH (n : Int) : LP n = some (jn n) := by
 have e := Zt n nF (by decide)
 simp only [nF, List.map_cons, List.map_nil] at e
 rw [LP, e]; rfl
theorem pI (n : Int) : GE n = some (jn n) := by
 have hb : jn n = (decide (n = 9) || (decide (n = 10) || (decide (n = 13) || (decide (32 ≤ n ∧ n ≤ 55295) || (decide (57344 ≤ n ∧ n ≤ 65533) || decide (65536 ≤ n ∧ n ≤ 1114111)))))) := by
  rw [Bool.eq_iff_iff]
  simp [jn, isR, nF]
  omega
 have e (m : Int) : Av n m = decide (n = m) := by
  by_cases h : n = m
  ·rw [QB h]; simp [h]
  ·rw [LS h]; simp [h]
 rw [GE, hb]
 simp only [e, VW, A5]
 cases decide (n = 9) <;> cases decide (n = 10) <;> cases decide (n = 13) <;> cases decide (32 ≤ n ∧ n ≤ 55295) <;> cases decide (57344 ≤ n ∧ n ≤ 65533) <;> simp
theorem xR {s : ByteArray} {i : Nat} (h : i < s.size) : (sg s i).2.2 = true → ∃ k, (sg s i).2.1 = ((i + k : Nat) : Int) ∧ 1 ≤ k ∧ i + k ≤ s.size ∧ ((k = 1 ∧ (sg s i).1 = QK s i) ∨ ∀ j, i ≤ j → j < i + k → 128 ≤ QK s j) := by
 obtain ⟨b1, b2, b3⟩ := Zs h
 unfold sg
 split
 ·intro h; cases h
 ·intro _
  refine ⟨(Utf8.decode s i).2, rfl, b2, b3, ?_⟩
  rename_i hne
  have h0 := Zr s i
  simp only
  rw [Lib.decode_at] at hne ⊢
  simp only [show (s.get! i).toNat = QK s i from rfl, show (s.get! (i + 1)).toNat = QK s (i + 1) from rfl, show (s.get! (i + 2)).toNat = QK s (i + 2) from rfl, show (s.get! (i + 3)).toNat = QK s (i + 3) from rfl] at hne ⊢
  revert hne
  unfold Lib.decodeN
  by_cases c0 : QK s i < 128
  ·simp only [if_pos c0]; intro _; left; simp
  ·simp only [if_neg c0]
   have hj : ∀ j, j = i ∨ j = i + 1 ∨ j = i + 2 ∨ j = i + 3 → (j = i + 1 → 128 ≤ QK s (i + 1)) → (j = i + 2 → 128 ≤ QK s (i + 2)) → (j = i + 3 → 128 ≤ QK s (i + 3)) → 128 ≤ QK s j := by
    rintro j (rfl | rfl | rfl | rfl) a b c
    ·omega
    ·exact a rfl
    ·exact b rfl
    ·exact c rfl
   repeat' split
   all_goals intro hne
   all_goals first
    | (exfalso; exact hne ⟨rfl, Nat.le_refl _⟩)
    | (refine .inr fun j h1 h2 => hj j (by omega) (fun _ => by omega) (fun _ => by omega) (fun _ => by omega))
def tF (s : ByteArray) : Bool := decide ((1 : Int) ≤ AS s ∧ AS s ≤ 16)
theorem Zx (s : ByteArray) (hs : s.size ≤ 4000000) : ∀ (m i : Nat), i ≤ s.size → s.size - i ≤ m → ∃ b, Ag s i = some b ∧ C7 s i = some (b && tF s) ∧ (b = true → ∀ j, i ≤ j → j < s.size → QK s j ≠ 58)
 | 0, i, h, hm => ⟨true, by rw [Ag, Eg (by simp only [AS]; omega)]; rfl, by rw [C7, Eg (by simp only [AS]; omega), tC]; rfl, fun _ j h1 h2 => by omega⟩
 | m + 1, i, h, hm => by
  by_cases hi : i < s.size
  ·rw [Ag, C7, O6 (by simp only [AS]; omega), nE hi hs, nC hi hs]
   simp only [if_true, A5, Zv, Zw, pF, pG]
   cases hok : (sg s i).2.2 with
   | false => exact ⟨false, by simp, by simp, by simp⟩
   | true =>
    obtain ⟨k, e1, e2, e3, e4⟩ := xR hi hok
    obtain ⟨b, f1, f2, f3⟩ := Zx s hs m (i + k) e3 (by omega)
    rw [e1]
    simp only [if_true, f1, f2]
    by_cases hp : jm (sg s i).1 = true
    ·have hc : b = true → ∀ j, i ≤ j → j < s.size → QK s j ≠ 58 := fun hb j h1 h2 h3 => by
      by_cases hj : j < i + k
      ·rcases e4 with ⟨r1, r2⟩ | r
       ·have : j = i := by omega
        subst this
        rw [r2, h3] at hp
        revert hp; decide
       ·have := r j h1 hj; omega
      ·exact f3 hb j (by omega) h2 h3
     by_cases h0 : Av (i : Int) 0 = true
     ·by_cases hst : RT (sg s i).1 = true
      ·exact ⟨b, by simp [h0, hst, hp], by simp [h0, hst, hp], hc⟩
      ·exact ⟨false, by simp [h0, hst], by simp [h0, hst], by simp⟩
     ·exact ⟨b, by simp [h0, hp], by simp [h0, hp], hc⟩
    ·refine ⟨false, ?_, ?_, by simp⟩
     ·by_cases h0 : Av (i : Int) 0 = true <;> by_cases hst : RT (sg s i).1 = true <;> simp [h0, hst, hp]
     ·by_cases h0 : Av (i : Int) 0 = true <;> by_cases hst : RT (sg s i).1 = true <;> simp [h0, hst, hp]
  ·exact ⟨true, by rw [Ag, Eg (by simp only [AS]; omega)]; rfl, by rw [C7, Eg (by simp only [AS]; omega), tC]; rfl, fun _ j h1 h2 => by omega⟩
def Hs (s : ByteArray) : Bool := (Bj s).getD false
theorem KI (s : ByteArray) (hs : s.size ≤ 4000000) : Bj s = some (Hs s) ∧ EJ s = some (Hs s) ∧ (Hs s = true → 1 ≤ s.size ∧ ∀ j, j < s.size → QK s j ≠ 58) := by
 obtain ⟨b, h1, h2, h3⟩ := Zx s hs s.size 0 (Nat.zero_le _) (by omega)
 have e1 : Bj s = some (b && tF s) := by
  rw [Bj, VW]
  simp only [A5]
  have h1' : Ag s 0 = some b := h1
  have : tF s = decide ((1 : Int) ≤ AS s ∧ AS s ≤ 16) := rfl
  rw [← this, h1']
  cases tF s <;> cases b <;> rfl
 have e2 : Hs s = (b && tF s) := by rw [Hs, e1]; rfl
 refine ⟨by rw [e1, e2], by rw [EJ, e2]; exact h2, fun h => ?_⟩
 rw [e2, Bool.and_eq_true] at h
 refine ⟨?_, fun j hj => h3 h.1 j (Nat.zero_le _) hj⟩
 obtain ⟨t1, _⟩ := of_decide_eq_true h.2
 simp only [AS] at t1
 omega
theorem Zy (s : ByteArray) (hs : s.size ≤ 1500) : ∀ (m i : Nat), i ≤ s.size → s.size - i ≤ m → ∃ b, BC s i = some b ∧ Ch s i = some b
 | 0, i, h, hm => ⟨true, by rw [BC, Eg (by simp only [AS]; omega), TQ (by simp only [AS]; omega)]; rfl, by rw [Ch, Eg (by simp only [AS]; omega)]; rfl⟩
 | m + 1, i, h, hm => by
  by_cases hi : i < s.size
  ·rw [BC, Ch, O6 (by simp only [AS]; omega), nE hi (by omega), nC hi (by omega)]
   simp only [if_true, A5, pI, pH]
   cases hok : (sg s i).2.2 with
   | false => exact ⟨false, by simp, by simp⟩
   | true =>
    obtain ⟨k, e1, e2, e3, e4⟩ := xR hi hok
    obtain ⟨b, f1, f2⟩ := Zy s hs m (i + k) e3 (by omega)
    rw [e1]
    simp only [if_true, f1, f2]
    cases jn (sg s i).1
    ·exact ⟨false, by simp, by simp⟩
    ·exact ⟨b, by simp, by simp⟩
  ·exact ⟨true, by rw [BC, Eg (by simp only [AS]; omega), TQ (by simp only [AS]; omega)]; rfl, by rw [Ch, Eg (by simp only [AS]; omega)]; rfl⟩
theorem tG (s : ByteArray) (hs : s.size ≤ 4000000) : ∃ b, BN s = some b ∧ DY s = some b := by
 rw [BN, DY]
 by_cases h : s.size ≤ 600
 ·obtain ⟨b, h1, h2⟩ := Zy s (by omega) s.size 0 (Nat.zero_le _) (by omega)
  have h1' : Ge s = some b := by rw [Ge]; exact h1
  have h2' : JQ s = some b := by rw [JQ]; exact h2
  rw [TQ (by simp only [AS]; omega)]
  exact ⟨b, by simp [h1', A5], by simp [h2', A5]⟩
 ·rw [XI (by simp only [AS]; omega)]
  exact ⟨false, rfl, rfl⟩
end TT
