import Derived.Test.YtgihjlfmnfbcaaaDoorTP2Sign
set_option linter.unusedVariables false
set_option linter.unusedSimpArgs false
namespace TT
open Go
def isR (n : Int) (l : List (Int × Int)) : Bool := l.any fun p => decide (p.1 ≤ n ∧ n ≤ p.2)
def G4 : List (Int × Int) → List Int
 | [] => []
 | p :: l => p.1 :: p.2 :: G4 l
theorem SN (l : List (Int × Int)) : (G4 l).length = 2 * l.length := by
 induction l with
 | nil => rfl
 | cons p l ih => simp [G4, ih]; omega
theorem Jd (n : Int) (L : List Int) (hL : L.length ≤ 4000000) : ∀ (rest : List (Int × Int)) (pre : List Int), pre ++ G4 rest = L → BN n L pre.length = some (isR n rest)
 | [], pre, hp => by
  have hl : pre.length = L.length := by rw [← hp]; simp [G4]
  rw [BN, Bj (by omega) (by omega), E3 (by simp only [Be]; omega)]; rfl
 | p :: rest, pre, hp => by
  have hl : pre.length + 2 ≤ L.length := by rw [← hp]; simp [G4]
  have e1 : getI L (pre.length : Int) = some p.1 := NT (rest := p.2 :: G4 rest) hp
  have e2 : getI L ((pre.length : Int) + 1) = some p.2 := by
   have := NT (pre := pre ++ [p.1]) (rest := G4 rest) (x := p.2) (l := L) (by rw [← hp]; simp [G4])
   simpa using this
  have ih := Jd n L hL rest (pre ++ [p.1, p.2]) (by rw [← hp]; simp [G4])
  rw [BN, Bj (a := (pre.length : Int)) (b := 1) (by omega) (by omega), H9 (by simp only [Be]; omega), Bj (a := (pre.length : Int)) (b := 2) (by omega) (by omega)]
  simp only [if_true, e1, e2, BL, K4]
  have e3 : ((pre.length : Int) + 2) = (((pre ++ [p.1, p.2]).length : Nat) : Int) := by simp
  rw [e3, ih]
  simp only [isR, List.any_cons]
  cases decide (p.1 ≤ n ∧ n ≤ p.2) <;> simp
theorem Je (n : Int) (L : List A2) (hL : L.length ≤ 4000000) : ∀ (rest : List (Int × Int)) (pre : List A2), pre ++ rest.map (fun p => A2.mk p.1 p.2) = L → ∃ k, AB L pre.length n = some (k, n) ∧ ST k 0 = isR n rest
 | [], pre, hp => by
  refine ⟨-1, ?_, rfl⟩
  rw [AB, Zn (by simpa using hp)]; rfl
 | p :: rest, pre, hp => by
  obtain ⟨k, h1, h2⟩ := Je n L hL rest (pre ++ [A2.mk p.1 p.2]) (by rw [← hp]; simp)
  have hp' : pre ++ A2.mk p.1 p.2 :: rest.map (fun p => A2.mk p.1 p.2) = L := by rw [← hp]; rfl
  rw [AB, Xc hp', NT hp', Xd hp' (by rw [MV]; omega)]
  simp only [if_true, BL, FC, aq, isR, List.any_cons]
  cases hd : decide (p.1 ≤ n ∧ n ≤ p.2) with
  | true => exact ⟨pre.length, by simp, by rw [MT (by omega)]; rfl⟩
  | false => exact ⟨k, by simpa using h1, by rw [h2]; rfl⟩
theorem Kz (n : Int) (l : List (Int × Int)) (hl : l.length ≤ 1000) : DN n (l.map fun p => A2.mk p.1 p.2) = some (isR n l) := by
 obtain ⟨k, h1, h2⟩ := Je n _ (by simp; omega) l [] rfl
 rw [DN, Ac, Aj]
 have h1' : AB (l.map fun p => A2.mk p.1 p.2) 0 n = some (k, n) := h1
 rw [h1']
 simp only [BL, h2]
theorem MW (n : Int) (l : List (Int × Int)) (hl : l.length ≤ 1000) : Cc n (G4 l) = some (isR n l) := by
 rw [Cc]
 exact Jd n _ (by rw [SN]; omega) l [] rfl
def J9 : List (Int × Int) := [(65, 90), (95, 95), (97, 122), (192, 214), (216, 246), (248, 767), (880, 893), (895, 8191), (8204, 8205), (8304, 8591), (11264, 12271), (12289, 55295), (63744, 64975), (65008, 65533), (65536, 983039)]
def MX : List (Int × Int) := [(45, 46), (48, 57), (183, 183), (768, 879), (8255, 8256)]
def Oy : List (Int × Int) := [(9, 10), (13, 13), (32, 55295), (57344, 65533), (65536, 1114111)]
def HA (n : Int) : Bool := isR n J9
def HB (n : Int) : Bool := HA n || isR n MX
theorem L1 (n : Int) : D2 n = some (HA n) := by
 have e := MW n J9 (by decide)
 simp only [J9, G4] at e
 rw [D2, e]; rfl
theorem L2 (n : Int) : CU n = some (HA n) := by
 have e := Kz n J9 (by decide)
 simp only [J9, List.map_cons, List.map_nil] at e
 rw [CU, e]; rfl
theorem SP (n : Int) : Ej n = some (HB n) := by
 have e := MW n MX (by decide)
 simp only [MX, G4] at e
 rw [Ej, L1, e]
 simp only [BL, HB]
 cases HA n <;> rfl
theorem SQ (n : Int) : BA n = some (HB n) := by
 have e := Kz n MX (by decide)
 simp only [MX, List.map_cons, List.map_nil] at e
 rw [BA, L2, e]
 simp only [BL, HB]
 cases HA n <;> rfl
def L3 (n : Int) : Bool := isR n Oy
theorem MY (n : Int) : CP n = some (L3 n) := by
 have e := Kz n Oy (by decide)
 simp only [Oy, List.map_cons, List.map_nil] at e
 rw [CP, e]; rfl
theorem MZ (n : Int) : DW n = some (L3 n) := by
 have hb : L3 n = (decide (n = 9) || (decide (n = 10) || (decide (n = 13) || (decide (32 ≤ n ∧ n ≤ 55295) || (decide (57344 ≤ n ∧ n ≤ 65533) || decide (65536 ≤ n ∧ n ≤ 1114111)))))) := by
  rw [Bool.eq_iff_iff]
  simp [L3, isR, Oy]
  omega
 have e (m : Int) : Ja n m = decide (n = m) := by
  by_cases h : n = m
  ·rw [VD h]; simp [h]
  ·rw [MU h]; simp [h]
 rw [DW, hb]
 simp only [e, K4, BL]
 cases decide (n = 9) <;> cases decide (n = 10) <;> cases decide (n = 13) <;> cases decide (32 ≤ n ∧ n ≤ 55295) <;> cases decide (57344 ≤ n ∧ n ≤ 65533) <;> simp
theorem ar {s : ByteArray} {i : Nat} (h : i < s.size) : (sg s i).2.2 = true → ∃ k, (sg s i).2.1 = ((i + k : Nat) : Int) ∧ 1 ≤ k ∧ i + k ≤ s.size ∧ ((k = 1 ∧ (sg s i).1 = Iq s i) ∨ ∀ j, i ≤ j → j < i + k → 128 ≤ Iq s j) := by
 obtain ⟨b1, b2, b3⟩ := Ky h
 unfold sg
 split
 ·intro h; cases h
 ·intro _
  refine ⟨(Utf8.decode s i).2, rfl, b2, b3, ?_⟩
  rename_i hne
  have h0 := Kx s i
  simp only
  rw [Lib.decode_at] at hne ⊢
  simp only [show (s.get! i).toNat = Iq s i from rfl, show (s.get! (i + 1)).toNat = Iq s (i + 1) from rfl, show (s.get! (i + 2)).toNat = Iq s (i + 2) from rfl, show (s.get! (i + 3)).toNat = Iq s (i + 3) from rfl] at hne ⊢
  revert hne
  unfold Lib.decodeN
  by_cases c0 : Iq s i < 128
  ·simp only [if_pos c0]; intro _; left; simp
  ·simp only [if_neg c0]
   have hj : ∀ j, j = i ∨ j = i + 1 ∨ j = i + 2 ∨ j = i + 3 → (j = i + 1 → 128 ≤ Iq s (i + 1)) → (j = i + 2 → 128 ≤ Iq s (i + 2)) → (j = i + 3 → 128 ≤ Iq s (i + 3)) → 128 ≤ Iq s j := by
    rintro j (rfl | rfl | rfl | rfl) a b c
    ·omega
    ·exact a rfl
    ·exact b rfl
    ·exact c rfl
   repeat' split
   all_goals intro hne
   all_goals first
    | (exfalso; exact hne ⟨rfl, Nat.le_refl _⟩)
    | (refine .inr fun j h1 h2 => hj j (by omega) (fun _ => by omega) (fun _ => by omega) (fun _ => by omega))
theorem L4 (s : ByteArray) (hs : s.size ≤ 1500) : ∀ (m i : Nat), i ≤ s.size → s.size - i ≤ m → ∃ b, BD s i = some b ∧ BB s i = some b
 | 0, i, h, hm => ⟨true, by rw [BD, E3 (by simp only [Bg]; omega), Kw (by simp only [Bg]; omega)]; rfl, by rw [BB, E3 (by simp only [Bg]; omega)]; rfl⟩
 | m + 1, i, h, hm => by
  by_cases hi : i < s.size
  ·rw [BD, BB, H9 (by simp only [Bg]; omega), Xh hi (by omega), Xg hi (by omega)]
   simp only [if_true, BL, MZ, MY]
   cases hok : (sg s i).2.2 with
   | false => exact ⟨false, by simp, by simp⟩
   | true =>
    obtain ⟨k, e1, e2, e3, e4⟩ := ar hi hok
    obtain ⟨b, f1, f2⟩ := L4 s hs m (i + k) e3 (by omega)
    rw [e1]
    simp only [if_true, f1, f2]
    cases L3 (sg s i).1
    ·exact ⟨false, by simp, by simp⟩
    ·exact ⟨b, by simp, by simp⟩
  ·exact ⟨true, by rw [BD, E3 (by simp only [Bg]; omega), Kw (by simp only [Bg]; omega)]; rfl, by rw [BB, E3 (by simp only [Bg]; omega)]; rfl⟩
theorem VI (s : ByteArray) (hs : s.size ≤ 4000000) : ∃ b, BE s = some b ∧ BC s = some b := by
 rw [BE, BC]
 by_cases h : s.size ≤ 600
 ·obtain ⟨b, h1, h2⟩ := L4 s (by omega) s.size 0 (Nat.zero_le _) (by omega)
  have h1' : E1 s = some b := by rw [E1]; exact h1
  have h2' : E0 s = some b := by rw [E0]; exact h2
  rw [Kw (by simp only [Bg]; omega)]
  exact ⟨b, by simp [h1', BL], by simp [h2', BL]⟩
 ·rw [R6 (by simp only [Bg]; omega)]
  exact ⟨false, rfl, rfl⟩
end TT
