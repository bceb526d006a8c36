import Derived.Test.YtaeegkjcjlnanaaGreatDoorTP0
import Derived.Test.YtaeegkjcjlnanaaGreatDoorTDefs
import Derived.Lib.IndexAny
set_option linter.unusedVariables false
set_option linter.unusedSimpArgs false
namespace TT
open Go
theorem xI (s : ByteArray) (i k : Nat) : (s.extract i s.size).get! k = s.get! (i + k) := by
 have e : (s.extract i s.size).data = s.data.extract i s.data.size := by
  first | rfl | simp
 show (s.extract i s.size).data[k]! = s.data[i + k]!
 rw [e]
 simp only [getElem!_def]
 rw [Array.getElem?_extract]
 have hz : s.size = s.data.size := rfl
 by_cases h : k < s.data.size - i
 ·rw [if_pos (by omega)]
 ·have : s.data[i + k]? = none := Array.getElem?_eq_none (by omega)
  rw [if_neg (by omega), this]
theorem iI (s : ByteArray) (i : Nat) (h : i < s.size) : Lib.decodeGo (s.extract i s.size) = Utf8.decode s i := by
 have hz : (s.extract i s.size).size = s.size - i := by simp
 unfold Lib.decodeGo
 rw [if_neg (by omega), Lib.decode_at, Lib.decode_at, hz]
 simp only [xI, Nat.sub_zero, Nat.add_zero, Nat.zero_add]
def Qn (s : ByteArray) (i : Nat) : Nat := (s.get! i).toNat
theorem af (s : ByteArray) (i : Nat) : Qn s i < 256 := (s.get! i).toNat_lt
theorem UX {s : ByteArray} {i : Int} {k : Nat} (hi : i = k) (h : k < s.size) : Q1 s i = some ((Qn s k : Nat) : Int) := by
 subst hi
 unfold Q1
 rw [dif_pos ⟨by omega, by simpa using h⟩]
 have h' : k < s.data.size := h
 have e : s.get! k = s[k]'h := by
  show s.data[k]! = s.data[k]
  rw [getElem!_pos s.data k h']
 simp only [Qn, e, Int.toNat_natCast]
theorem A10 {x : Nat} (h : x < 256) : Qf .i64 (x : Int) 31 = ((x % 32 : Nat) : Int) := (show ∀ n : Fin 256, Qf .i64 ((n.val : Nat) : Int) 31 = ((n.val % 32 : Nat) : Int) by decide +kernel) ⟨x, h⟩
theorem A11 {x : Nat} (h : x < 256) : Qf .i64 (x : Int) 15 = ((x % 16 : Nat) : Int) := (show ∀ n : Fin 256, Qf .i64 ((n.val : Nat) : Int) 15 = ((n.val % 16 : Nat) : Int) by decide +kernel) ⟨x, h⟩
theorem A1B {x : Nat} (h : x < 256) : Qf .i64 (x : Int) 7 = ((x % 8 : Nat) : Int) := (show ∀ n : Fin 256, Qf .i64 ((n.val : Nat) : Int) 7 = ((n.val % 8 : Nat) : Int) by decide +kernel) ⟨x, h⟩
theorem ta {x : Int} (h1 : -9223372036854775808 ≤ x) (h2 : x < 9223372036854775808) : wr .i64 x = x := QH h1 h2
def sg (s : ByteArray) (i : Nat) : Int × Int × Bool :=
 if (Utf8.decode s i).1 = 65533 ∧ (Utf8.decode s i).2 ≤ 1 then (0, 0, false) else (((Utf8.decode s i).1 : Nat), ((i + (Utf8.decode s i).2 : Nat) : Int), true)
theorem kM {n b0 b1 b2 b3 : Nat} (hn : 1 ≤ n) (h0 : b0 < 256) : (Lib.decodeN n b0 b1 b2 b3).1 ≤ 1114111 ∧ 1 ≤ (Lib.decodeN n b0 b1 b2 b3).2 ∧ (Lib.decodeN n b0 b1 b2 b3).2 ≤ n := by
 unfold Lib.decodeN
 repeat' split
 all_goals simp only
 all_goals omega
theorem ah {s : ByteArray} {i : Nat} (h : i < s.size) : (Utf8.decode s i).1 ≤ 1114111 ∧ 1 ≤ (Utf8.decode s i).2 ∧ i + (Utf8.decode s i).2 ≤ s.size := by
 rw [Lib.decode_at]
 have := kM (n := s.size - i) (b0 := (s.get! i).toNat) (b1 := (s.get! (i + 1)).toNat) (b2 := (s.get! (i + 2)).toNat) (b3 := (s.get! (i + 3)).toNat) (by omega) (af s i)
 omega
theorem ng {s : ByteArray} {i : Nat} (h : i < s.size) (hs : s.size ≤ 4000000) : IE s i = some (sg s i) := by
 obtain ⟨b1, b2, b3⟩ := ah h
 have e1 : Hl (i : Int) 0 (BE (AU s) 1) = some true := by
  rw [Hl, Qc (by omega), Bw (by simp only [AU]; omega) (by simp only [AU]; omega), Tp (by simp only [AU]; omega)]; rfl
 have e2 : Q2 s i (AU s) = some (s.extract i s.size) := by
  unfold Q2 AU
  rw [if_pos ⟨by omega, by omega, by omega⟩]
  simp
 have e3 : Yx (s.extract i s.size) = ((((Utf8.decode s i).1 : Nat) : Int), (((Utf8.decode s i).2 : Nat) : Int)) := by
  rw [Yx, iI s i h]
 rw [IE, e1]
 simp only [A3, if_true, e2, Cr, e3]
 rw [ta (by omega) (by omega), Af (by omega) (by omega)]
 unfold sg
 by_cases c1 : (Utf8.decode s i).1 = 65533
 ·rw [G9 (by omega)]
  by_cases c2 : (Utf8.decode s i).2 ≤ 1
  ·rw [Tp (by omega)]; simp only [if_true, Bool.false_eq_true, if_false]; rw [if_pos ⟨c1, c2⟩]
  ·rw [Xk (by omega)]; simp only [if_true, Bool.false_eq_true, if_false]; rw [if_neg (fun h => c2 h.2)]
   simp
 ·rw [DJ (by omega)]; simp only [if_true, Bool.false_eq_true, if_false]; rw [if_neg (fun h => c1 h.1)]
  simp
def sgN (n b0 b1 b2 b3 i : Nat) : Int × Int × Bool :=
 if (Lib.decodeN n b0 b1 b2 b3).1 = 65533 ∧ (Lib.decodeN n b0 b1 b2 b3).2 ≤ 1 then (0, 0, false) else (((Lib.decodeN n b0 b1 b2 b3).1 : Nat), ((i + (Lib.decodeN n b0 b1 b2 b3).2 : Nat) : Int), true)
theorem A1C (s : ByteArray) (i : Nat) : sg s i = sgN (s.size - i) (Qn s i) (Qn s (i + 1)) (Qn s (i + 2)) (Qn s (i + 3)) i := by
 unfold sg sgN Qn
 rw [Lib.decode_at]
theorem Vt (a lo hi : Int) : Cb a lo hi = some (decide (lo ≤ a ∧ a ≤ hi)) := by
 rw [Cb]
 by_cases h : lo ≤ a
 ·rw [Qc h]
  by_cases h2 : a ≤ hi
  ·rw [Tp h2]; simp [h, h2]
  ·rw [Xk h2]; simp [h2]
 ·rw [Pf h]; simp [h]
theorem tb (a lo hi : Int) : Hl a lo hi = some (decide (lo ≤ a ∧ a ≤ hi)) := by
 rw [← Vt, Hl, Cb]
section
variable {s : ByteArray} {i : Nat}
def kN (i n least v : Nat) : Int × Int × Bool := if v < least ∨ v > 1114111 ∨ (55296 ≤ v ∧ v ≤ 57343) then (0, 0, false) else ((v : Nat), ((i + 1 + n : Nat) : Int), true)
theorem iJ (hs : s.size ≤ 4000000) (h : i < s.size) {n least v k : Nat} (hn : n ≤ 3) (hk : k = n + 1) (hv : v < 100000000) : Ac s i n least v k = some (kN i n least v) := by
 rw [Ac, Xk (by omega)]
 simp only [Bool.false_eq_true, if_false, Vt, A3]
 unfold kN
 by_cases c1 : v < least
 ·rw [Qb (by omega)]; simp only [if_true, Bool.false_eq_true, if_false]; rw [if_pos (.inl c1)]
 ·rw [Fd (by omega)]
  by_cases c2 : v > 1114111
  ·rw [Lp (by omega)]; simp only [if_true, Bool.false_eq_true, if_false]; rw [if_pos (.inr (.inl c2))]
  ·rw [Pg (by omega)]
   simp only [Bool.false_eq_true, if_false]
   by_cases c3 : 55296 ≤ v ∧ v ≤ 57343
   ·have : decide ((55296 : Int) ≤ (v : Int) ∧ (v : Int) ≤ 57343) = true := by simp; omega
    rw [this, if_pos (show v < least ∨ v > 1114111 ∨ (55296 ≤ v ∧ v ≤ 57343) from .inr (.inr c3))]; rfl
   ·have : decide ((55296 : Int) ≤ (v : Int) ∧ (v : Int) ≤ 57343) = false := by simp; omega
    rw [this, Af (a := (i : Int)) (b := 1) (by omega) (by omega), Af (a := (i : Int) + 1) (b := (n : Int)) (by omega) (by omega), if_neg (show ¬(v < least ∨ v > 1114111 ∨ (55296 ≤ v ∧ v ≤ 57343)) by omega)]
    simp only [Bool.false_eq_true, if_false]
    congr 3
theorem Po (hs : s.size ≤ 4000000) {n least v k : Nat} (hk : k ≤ n) (hn : n ≤ 3) (h : i + k < s.size) (hv : v < 1000000) :
  Ac s i n least v k = if Qn s (i + k) < 128 ∨ 191 < Qn s (i + k) then some (0, 0, false) else Ac s i n least ((v * 64 + Qn s (i + k) - 128 : Nat) : Int) ((k + 1 : Nat) : Int) := by
 have hb := af s (i + k)
 have ea : AY (i : Int) (k : Int) = ((i + k : Nat) : Int) := by rw [Af (by omega) (by omega)]; omega
 rw [Ac, Tp (by omega), ea, UX rfl h]
 simp only [if_true, A3]
 rw [ta (by omega) (by omega)]
 by_cases c1 : Qn s (i + k) < 128
 ·rw [Qb (by omega)]; simp only [if_true, Bool.false_eq_true, if_false]; rw [if_pos (.inl c1)]
 ·rw [Fd (by omega)]
  by_cases c2 : 191 < Qn s (i + k)
  ·rw [Lp (by omega)]; simp only [if_true, Bool.false_eq_true, if_false]; rw [if_pos (.inr c2)]
  ·rw [Pg (by omega)]; simp only [if_true, Bool.false_eq_true, if_false]; rw [if_neg (by omega)]
   have em : Uz (v : Int) 64 = ((v * 64 : Nat) : Int) := by
    show IntKind.i64.wrap _ = _
    rw [QH (by omega) (by omega)]; omega
   rw [em, Af (by omega) (by omega), Bw (by omega) (by omega), Af (by omega) (by omega)]
   congr 1
   omega
theorem my (hs : s.size ≤ 4000000) (h : i < s.size) (n least v : Nat) (hn : 1 ≤ n ∧ n ≤ 3) : C8 s i n least v = if i + n < s.size then Ac s i n least v ((1 : Nat) : Int) else some (0, 0, false) := by
 rw [C8, Bw (a := AU s) (b := 1) (by simp only [AU]; omega) (by simp only [AU]; omega), Bw (a := AU s - 1) (b := (n : Int)) (by simp only [AU]; omega) (by simp only [AU]; omega)]
 by_cases c : i + n < s.size
 ·rw [Pg (by simp only [AU]; omega)]; simp only [if_true, Bool.false_eq_true, if_false]; rw [if_pos c]; rfl
 ·rw [Lp (by simp only [AU]; omega)]; simp only [if_true, Bool.false_eq_true, if_false]; rw [if_neg c]
end
def tc (n b0 b1 b2 b3 i : Nat) : Int × Int × Bool :=
 if b0 < 128 then ((b0 : Nat), ((i + 1 : Nat) : Int), true)
 else if b0 < 192 then (0, 0, false)
 else if b0 < 224 then (if 1 < n then (if b1 < 128 ∨ 191 < b1 then (0, 0, false) else kN i 1 128 (b0 % 32 * 64 + b1 - 128)) else (0, 0, false))
 else if b0 < 240 then (if 2 < n then (if b1 < 128 ∨ 191 < b1 then (0, 0, false) else if b2 < 128 ∨ 191 < b2 then (0, 0, false) else kN i 2 2048 ((b0 % 16 * 64 + b1 - 128) * 64 + b2 - 128)) else (0, 0, false))
 else if b0 < 248 then (if 3 < n then (if b1 < 128 ∨ 191 < b1 then (0, 0, false) else if b2 < 128 ∨ 191 < b2 then (0, 0, false) else if b3 < 128 ∨ 191 < b3 then (0, 0, false) else kN i 3 65536 (((b0 % 8 * 64 + b1 - 128) * 64 + b2 - 128) * 64 + b3 - 128)) else (0, 0, false))
 else (0, 0, false)
set_option maxRecDepth 100000 in
set_option maxHeartbeats 2000000 in
theorem td (n b0 b1 b2 b3 i : Nat) (hn : 1 ≤ n) (h0 : b0 < 256) (h1 : b1 < 256) (h2 : b2 < 256) (h3 : b3 < 256) : tc n b0 b1 b2 b3 i = sgN n b0 b1 b2 b3 i := by
 unfold tc sgN Lib.decodeN
 by_cases c0 : b0 < 128
 ·simp only [if_pos c0]
  rw [if_neg (by omega)]
 ·simp only [if_neg c0]
  by_cases c1 : b0 < 192
  ·rw [if_pos c1]
   repeat' split
   all_goals first | rfl | (exfalso; omega)
  ·rw [if_neg c1]
   by_cases c2 : b0 < 224
   ·rw [if_pos c2]
    have e : b0 % 32 * 64 + b1 % 64 = b0 % 32 * 64 + b1 % 64 := rfl
    unfold kN
    repeat' split
    all_goals first | rfl | (exfalso; omega) | (refine Prod.ext ?_ (Prod.ext ?_ rfl) <;> simp only <;> omega)
   ·rw [if_neg c2]
    by_cases c3 : b0 < 240
    ·rw [if_pos c3]
     unfold kN
     repeat' split
     all_goals first | rfl | (exfalso; omega) | (refine Prod.ext ?_ (Prod.ext ?_ rfl) <;> simp only <;> omega)
    ·rw [if_neg c3]
     unfold kN
     repeat' split
     all_goals first | rfl | (exfalso; omega) | (refine Prod.ext ?_ (Prod.ext ?_ rfl) <;> simp only <;> omega)
theorem nh {s : ByteArray} {i : Nat} (h : i < s.size) (hs : s.size ≤ 4000000) : FZ s i = some (sg s i) := by
 have h0 := af s i
 have h1 := af s (i + 1)
 have h2 := af s (i + 2)
 have h3 := af s (i + 3)
 rw [A1C, ← td _ _ _ _ _ _ (by omega) h0 h1 h2 h3]
 have hx : wr .i64 ((Qn s i : Nat) : Int) = ((Qn s i : Nat) : Int) := ta (by omega) (by omega)
 have n1 : (1 < s.size - i) = (i + 1 < s.size) := propext ⟨fun h => by omega, fun h => by omega⟩
 have n2 : (2 < s.size - i) = (i + 2 < s.size) := propext ⟨fun h => by omega, fun h => by omega⟩
 have n3 : (3 < s.size - i) = (i + 3 < s.size) := propext ⟨fun h => by omega, fun h => by omega⟩
 unfold tc
 simp only [n1, n2, n3]
 rw [FZ, Fd (by omega), Pf (by simp only [AU]; omega), UX rfl h]
 simp only [Bool.false_eq_true, if_false, A3, hx]
 rw [Af (by omega) (by omega)]
 generalize hb0 : Qn s i = b0 at *
 by_cases c0 : b0 < 128
 ·rw [Qb (by omega), if_pos c0]; rfl
 ·rw [Fd (by omega), if_neg c0]
  simp only [Bool.false_eq_true, if_false]
  by_cases c1 : b0 < 192
  ·rw [Pf (by omega), if_pos c1]
   simp only [Bool.false_eq_true, if_false, Ci, Ch, hx]
   rw [Pf (by omega), Pf (by omega)]
   rfl
  ·rw [Qc (by omega), if_neg c1]
   simp only [if_true, Ci]
   by_cases c2 : b0 < 224
   ·rw [Qb (by omega), if_pos c2]
    simp only [if_true, hx, A10 h0]
    refine Eq.trans (my hs h 1 128 (b0 % 32) (by omega)) ?_
    by_cases d1 : i + 1 < s.size
    ·rw [if_pos d1, if_pos d1, Po hs (by omega) (by omega) d1 (by omega)]
     split
     ·rfl
     ·exact iJ hs h (by omega) (by omega) (by omega)
    ·rw [if_neg d1, if_neg d1]
   ·rw [Fd (by omega), if_neg c2]
    simp only [Bool.false_eq_true, if_false, hx]
    rw [Qc (by omega)]
    simp only [if_true, Ch]
    by_cases c3 : b0 < 240
    ·rw [Qb (by omega), if_pos c3]
     simp only [if_true, hx, A11 h0]
     refine Eq.trans (my hs h 2 2048 (b0 % 16) (by omega)) ?_
     by_cases d1 : i + 2 < s.size
     ·rw [if_pos d1, if_pos d1, Po hs (by omega) (by omega) (by omega) (by omega)]
      split
      ·rfl
      ·rw [Po hs (by omega) (by omega) d1 (by omega)]
       split
       ·rfl
       ·exact iJ hs h (by omega) (by omega) (by omega)
     ·rw [if_neg d1, if_neg d1]
    ·rw [Fd (by omega), if_neg c3]
     simp only [Bool.false_eq_true, if_false, hx]
     rw [Qc (by omega)]
     simp only [if_true]
     by_cases c4 : b0 < 248
     ·rw [Qb (by omega), if_pos c4]
      simp only [if_true, A1B h0]
      refine Eq.trans (my hs h 3 65536 (b0 % 8) (by omega)) ?_
      by_cases d1 : i + 3 < s.size
      ·rw [if_pos d1, if_pos d1, Po hs (by omega) (by omega) (by omega) (by omega)]
       split
       ·rfl
       ·rw [Po hs (by omega) (by omega) (by omega) (by omega)]
        split
        ·rfl
        ·rw [Po hs (by omega) (by omega) d1 (by omega)]
         split
         ·rfl
         ·exact iJ hs h (by omega) (by omega) (by omega)
      ·rw [if_neg d1, if_neg d1]
     ·rw [Fd (by omega), if_neg c4]; rfl
end TT
namespace TT
open Go
def isR (n : Int) (l : List (Int × Int)) : Bool := l.any fun p => decide (p.1 ≤ n ∧ n ≤ p.2)
def Pp : List (Int × Int) → List Int
 | [] => []
 | p :: l => p.1 :: p.2 :: Pp l
theorem pd (l : List (Int × Int)) : (Pp l).length = 2 * l.length := by
 induction l with
 | nil => rfl
 | cons p l ih => simp [Pp, ih]; omega
theorem Xv (n : Int) (L : List Int) (hL : L.length ≤ 4000000) : ∀ (rest : List (Int × Int)) (pre : List Int), pre ++ Pp rest = L → BM n L pre.length = some (isR n rest)
 | [], pre, hp => by
  have hl : pre.length = L.length := by rw [← hp]; simp [Pp]
  rw [BM, Af (by omega) (by omega), Fd (by simp only [A8]; omega)]; rfl
 | p :: rest, pre, hp => by
  have hl : pre.length + 2 ≤ L.length := by rw [← hp]; simp [Pp]
  have e1 : getI L (pre.length : Int) = some p.1 := Bb (rest := p.2 :: Pp rest) hp
  have e2 : getI L ((pre.length : Int) + 1) = some p.2 := by
   have := Bb (pre := pre ++ [p.1]) (rest := Pp rest) (x := p.2) (l := L) (by rw [← hp]; simp [Pp])
   simpa using this
  have ih := Xv n L hL rest (pre ++ [p.1, p.2]) (by rw [← hp]; simp [Pp])
  rw [BM, Af (a := (pre.length : Int)) (b := 1) (by omega) (by omega), Qb (by simp only [A8]; omega), Af (a := (pre.length : Int)) (b := 2) (by omega) (by omega)]
  simp only [if_true, e1, e2, A3, Vt]
  have e3 : ((pre.length : Int) + 2) = (((pre ++ [p.1, p.2]).length : Nat) : Int) := by simp
  rw [e3, ih]
  simp only [isR, List.any_cons]
  cases decide (p.1 ≤ n ∧ n ≤ p.2) <;> simp
theorem Xw (n : Int) (L : List A7) (hL : L.length ≤ 4000000) : ∀ (rest : List (Int × Int)) (pre : List A7), pre ++ rest.map (fun p => A7.mk p.1 p.2) = L → ∃ k, AM L pre.length n = some (k, n) ∧ geI k 0 = isR n rest
 | [], pre, hp => by
  refine ⟨-1, ?_, rfl⟩
  rw [AM, FU (by simpa using hp)]; rfl
 | p :: rest, pre, hp => by
  obtain ⟨k, h1, h2⟩ := Xw n L hL rest (pre ++ [A7.mk p.1 p.2]) (by rw [← hp]; simp)
  have hp' : pre ++ A7.mk p.1 p.2 :: rest.map (fun p => A7.mk p.1 p.2) = L := by rw [← hp]; rfl
  rw [AM, EC hp', Bb hp', Cw hp' (by rw [B9]; omega)]
  simp only [if_true, A3, NB, tb, isR, List.any_cons]
  cases hd : decide (p.1 ≤ n ∧ n ≤ p.2) with
  | true => exact ⟨pre.length, by simp, by rw [Qc (by omega)]; rfl⟩
  | false => exact ⟨k, by simpa using h1, by rw [h2]; rfl⟩
theorem ai (n : Int) (l : List (Int × Int)) (hl : l.length ≤ 1000) : Hw n (l.map fun p => A7.mk p.1 p.2) = some (isR n l) := by
 obtain ⟨k, h1, h2⟩ := Xw n _ (by simp; omega) l [] rfl
 rw [Hw, BJ, Bq]
 have h1' : AM (l.map fun p => A7.mk p.1 p.2) 0 n = some (k, n) := h1
 rw [h1']
 simp only [A3, h2]
theorem el (n : Int) (l : List (Int × Int)) (hl : l.length ≤ 1000) : Dd n (Pp l) = some (isR n l) := by
 rw [Dd]
 exact Xv n _ (by rw [pd]; omega) l [] rfl
def aj : List (Int × Int) := [(65, 90), (95, 95), (97, 122), (192, 214), (216, 246), (248, 767), (880, 893), (895, 8191), (8204, 8205), (8304, 8591), (11264, 12271), (12289, 55295), (63744, 64975), (65008, 65533), (65536, 983039)]
def kO : List (Int × Int) := [(45, 46), (48, 57), (183, 183), (768, 879), (8255, 8256)]
def ni : List (Int × Int) := [(9, 10), (13, 13), (32, 55295), (57344, 65533), (65536, 1114111)]
def S7 (n : Int) : Bool := isR n aj
def kP (n : Int) : Bool := S7 n || isR n kO
theorem al (n : Int) : ER n = some (S7 n) := by
 have e := el n aj (by decide)
 simp only [aj, Pp] at e
 rw [ER, e]; rfl
theorem am (n : Int) : Gv n = some (S7 n) := by
 have e := ai n aj (by decide)
 simp only [aj, List.map_cons, List.map_nil] at e
 rw [Gv, e]; rfl
theorem pe (n : Int) : Fa n = some (kP n) := by
 have e := el n kO (by decide)
 simp only [kO, Pp] at e
 rw [Fa, al, e]
 simp only [A3, kP]
 cases S7 n <;> rfl
theorem pf (n : Int) : IF n = some (kP n) := by
 have e := ai n kO (by decide)
 simp only [kO, List.map_cons, List.map_nil] at e
 rw [IF, am, e]
 simp only [A3, kP]
 cases S7 n <;> rfl
def kQ (n : Int) : Bool := isR n ni
theorem pg (n : Int) : Lm n = some (kQ n) := by
 have e := ai n ni (by decide)
 simp only [ni, List.map_cons, List.map_nil] at e
 rw [Lm, e]; rfl
theorem ph (n : Int) : GS n = some (kQ n) := by
 have hb : kQ n = (decide (n = 9) || (decide (n = 10) || (decide (n = 13) || (decide (32 ≤ n ∧ n ≤ 55295) || (decide (57344 ≤ n ∧ n ≤ 65533) || decide (65536 ≤ n ∧ n ≤ 1114111)))))) := by
  rw [Bool.eq_iff_iff]
  simp [kQ, isR, ni]
  omega
 have e (m : Int) : Al n m = decide (n = m) := by
  by_cases h : n = m
  ·rw [G9 h]; simp [h]
  ·rw [DJ h]; simp [h]
 rw [GS, hb]
 simp only [e, Vt, A3]
 cases decide (n = 9) <;> cases decide (n = 10) <;> cases decide (n = 13) <;> cases decide (32 ≤ n ∧ n ≤ 55295) <;> cases decide (57344 ≤ n ∧ n ≤ 65533) <;> simp
theorem xn {s : ByteArray} {i : Nat} (h : i < s.size) : (sg s i).2.2 = true → ∃ k, (sg s i).2.1 = ((i + k : Nat) : Int) ∧ 1 ≤ k ∧ i + k ≤ s.size ∧ ((k = 1 ∧ (sg s i).1 = Qn s i) ∨ ∀ j, i ≤ j → j < i + k → 128 ≤ Qn s j) := by
 obtain ⟨b1, b2, b3⟩ := ah h
 unfold sg
 split
 ·intro h; cases h
 ·intro _
  refine ⟨(Utf8.decode s i).2, rfl, b2, b3, ?_⟩
  rename_i hne
  have h0 := af s i
  simp only
  rw [Lib.decode_at] at hne ⊢
  simp only [show (s.get! i).toNat = Qn s i from rfl, show (s.get! (i + 1)).toNat = Qn s (i + 1) from rfl, show (s.get! (i + 2)).toNat = Qn s (i + 2) from rfl, show (s.get! (i + 3)).toNat = Qn s (i + 3) from rfl] at hne ⊢
  revert hne
  unfold Lib.decodeN
  by_cases c0 : Qn s i < 128
  ·simp only [if_pos c0]; intro _; left; simp
  ·simp only [if_neg c0]
   have hj : ∀ j, j = i ∨ j = i + 1 ∨ j = i + 2 ∨ j = i + 3 → (j = i + 1 → 128 ≤ Qn s (i + 1)) → (j = i + 2 → 128 ≤ Qn s (i + 2)) → (j = i + 3 → 128 ≤ Qn s (i + 3)) → 128 ≤ Qn s j := by
    rintro j (rfl | rfl | rfl | rfl) a b c
    ·omega
    ·exact a rfl
    ·exact b rfl
    ·exact c rfl
   repeat' split
   all_goals intro hne
   all_goals first
    | (exfalso; exact hne ⟨rfl, Nat.le_refl _⟩)
    | (refine .inr fun j h1 h2 => hj j (by omega) (fun _ => by omega) (fun _ => by omega) (fun _ => by omega))
def te (s : ByteArray) : Bool := decide ((1 : Int) ≤ AU s ∧ AU s ≤ 16)
theorem ao (s : ByteArray) (hs : s.size ≤ 4000000) : ∀ (m i : Nat), i ≤ s.size → s.size - i ≤ m → ∃ b, Aj s i = some b ∧ CA s i = some (b && te s) ∧ (b = true → ∀ j, i ≤ j → j < s.size → Qn s j ≠ 58)
 | 0, i, h, hm => ⟨true, by rw [Aj, Fd (by simp only [AU]; omega)]; rfl, by rw [CA, Fd (by simp only [AU]; omega), tb]; rfl, fun _ j h1 h2 => by omega⟩
 | m + 1, i, h, hm => by
  by_cases hi : i < s.size
  ·rw [Aj, CA, Qb (by simp only [AU]; omega), nh hi hs, ng hi hs]
   simp only [if_true, A3, al, am, pe, pf]
   cases hok : (sg s i).2.2 with
   | false => exact ⟨false, by simp, by simp, by simp⟩
   | true =>
    obtain ⟨k, e1, e2, e3, e4⟩ := xn hi hok
    obtain ⟨b, f1, f2, f3⟩ := ao s hs m (i + k) e3 (by omega)
    rw [e1]
    simp only [if_true, f1, f2]
    by_cases hp : kP (sg s i).1 = true
    ·have hc : b = true → ∀ j, i ≤ j → j < s.size → Qn s j ≠ 58 := fun hb j h1 h2 h3 => by
      by_cases hj : j < i + k
      ·rcases e4 with ⟨r1, r2⟩ | r
       ·have : j = i := by omega
        subst this
        rw [r2, h3] at hp
        revert hp; decide
       ·have := r j h1 hj; omega
      ·exact f3 hb j (by omega) h2 h3
     by_cases h0 : Al (i : Int) 0 = true
     ·by_cases hst : S7 (sg s i).1 = true
      ·exact ⟨b, by simp [h0, hst, hp], by simp [h0, hst, hp], hc⟩
      ·exact ⟨false, by simp [h0, hst], by simp [h0, hst], by simp⟩
     ·exact ⟨b, by simp [h0, hp], by simp [h0, hp], hc⟩
    ·refine ⟨false, ?_, ?_, by simp⟩
     ·by_cases h0 : Al (i : Int) 0 = true <;> by_cases hst : S7 (sg s i).1 = true <;> simp [h0, hst, hp]
     ·by_cases h0 : Al (i : Int) 0 = true <;> by_cases hst : S7 (sg s i).1 = true <;> simp [h0, hst, hp]
  ·exact ⟨true, by rw [Aj, Fd (by simp only [AU]; omega)]; rfl, by rw [CA, Fd (by simp only [AU]; omega), tb]; rfl, fun _ j h1 h2 => by omega⟩
def I5 (s : ByteArray) : Bool := (Bo s).getD false
theorem Ka (s : ByteArray) (hs : s.size ≤ 4000000) : Bo s = some (I5 s) ∧ EY s = some (I5 s) ∧ (I5 s = true → 1 ≤ s.size ∧ ∀ j, j < s.size → Qn s j ≠ 58) := by
 obtain ⟨b, h1, h2, h3⟩ := ao s hs s.size 0 (Nat.zero_le _) (by omega)
 have e1 : Bo s = some (b && te s) := by
  rw [Bo, Vt]
  simp only [A3]
  have h1' : Aj s 0 = some b := h1
  have : te s = decide ((1 : Int) ≤ AU s ∧ AU s ≤ 16) := rfl
  rw [← this, h1']
  cases te s <;> cases b <;> rfl
 have e2 : I5 s = (b && te s) := by rw [I5, e1]; rfl
 refine ⟨by rw [e1, e2], by rw [EY, e2]; exact h2, fun h => ?_⟩
 rw [e2, Bool.and_eq_true] at h
 refine ⟨?_, fun j hj => h3 h.1 j (Nat.zero_le _) hj⟩
 obtain ⟨t1, _⟩ := of_decide_eq_true h.2
 simp only [AU] at t1
 omega
theorem aq (s : ByteArray) (hs : s.size ≤ 1500) : ∀ (m i : Nat), i ≤ s.size → s.size - i ≤ m → ∃ b, BG s i = some b ∧ Cm s i = some b
 | 0, i, h, hm => ⟨true, by rw [BG, Fd (by simp only [AU]; omega), Tp (by simp only [AU]; omega)]; rfl, by rw [Cm, Fd (by simp only [AU]; omega)]; rfl⟩
 | m + 1, i, h, hm => by
  by_cases hi : i < s.size
  ·rw [BG, Cm, Qb (by simp only [AU]; omega), nh hi (by omega), ng hi (by omega)]
   simp only [if_true, A3, ph, pg]
   cases hok : (sg s i).2.2 with
   | false => exact ⟨false, by simp, by simp⟩
   | true =>
    obtain ⟨k, e1, e2, e3, e4⟩ := xn hi hok
    obtain ⟨b, f1, f2⟩ := aq s hs m (i + k) e3 (by omega)
    rw [e1]
    simp only [if_true, f1, f2]
    cases kQ (sg s i).1
    ·exact ⟨false, by simp, by simp⟩
    ·exact ⟨b, by simp, by simp⟩
  ·exact ⟨true, by rw [BG, Fd (by simp only [AU]; omega), Tp (by simp only [AU]; omega)]; rfl, by rw [Cm, Fd (by simp only [AU]; omega)]; rfl⟩
theorem tf (s : ByteArray) (hs : s.size ≤ 4000000) : ∃ b, BN s = some b ∧ Dh s = some b := by
 rw [BN, Dh]
 by_cases h : s.size ≤ 600
 ·obtain ⟨b, h1, h2⟩ := aq s (by omega) s.size 0 (Nat.zero_le _) (by omega)
  have h1' : Gs s = some b := by rw [Gs]; exact h1
  have h2' : Jh s = some b := by rw [Jh]; exact h2
  rw [Tp (by simp only [AU]; omega)]
  exact ⟨b, by simp [h1', A3], by simp [h2', A3]⟩
 ·rw [Xk (by simp only [AU]; omega)]
  exact ⟨false, rfl, rfl⟩
end TT
