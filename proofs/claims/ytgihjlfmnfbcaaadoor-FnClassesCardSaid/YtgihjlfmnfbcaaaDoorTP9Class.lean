import Derived.Test.YtgihjlfmnfbcaaaDoorTP3Cur
set_option linter.unusedVariables false
set_option linter.unusedSimpArgs false
namespace TT
open Go
theorem R7 {x y : ByteArray} (h : x.size + y.size ≤ 4000000000) : Pj x y = some (x ++ y) := by unfold Pj; rw [if_pos (by omega)]
theorem Mb (x y : ByteArray) : (x ++ y).size = x.size + y.size := ByteArray.size_append
theorem VK {a : Int} {n : Nat} (h0 : 0 ≤ a) (h1 : a < n ∨ a = 0) (hn : 0 < n) : ∃ k : Nat, a = k ∧ k < n := ⟨a.toNat, by omega, by omega⟩
theorem P0 : ∀ (m : Nat) (s : ByteArray) (c : A8), Ma c → s.size ≤ 601 → 601 - s.size ≤ m → Bd (Ba s c) fun r => r.1.size ≤ 601 ∧ Ma r.2
 | 0, s, c, hc, h1, h2 => by
  rw [Ba]
  refine (G5 c hc _ (by decide)).bnd fun r hr => ?_
  have hv : r.1 = 600 ∨ r.1 = 601 := by simpa using hr.1
  rw [E3 (by simp only [Bg]; omega), if_neg Bool.false_ne_true]
  exact Bd.ret ⟨h1, hr.2⟩
 | m + 1, s, c, hc, h1, h2 => by
  rw [Ba]
  refine (G5 c hc _ (by decide)).bnd fun r hr => ?_
  have hv : r.1 = 600 ∨ r.1 = 601 := by simpa using hr.1
  by_cases h : (s.size : Int) < r.1
  ·rw [H9 (by simp only [Bg]; exact h), if_pos rfl, R7 (by show s.size + 1 ≤ _; omega)]
   have e : (s ++ (⟨#[120]⟩ : ByteArray)).size = s.size + 1 := Mb s ⟨#[120]⟩
   exact P0 m _ _ hr.2 (by rw [e]; omega) (by rw [e]; omega)
  ·rw [E3 (by simp only [Bg]; exact h), if_neg Bool.false_ne_true]
   exact Bd.ret ⟨h1, hr.2⟩
theorem R8 : ∀ (k : Nat) (s : ByteArray) (c : A8), Ma c → s.size + 4 * k ≤ 100 → Bd (Bs s (k : Int) c) fun r => r.1.size ≤ 601 ∧ Ma r.2
 | 0, s, c, hc, h => by
  rw [Bs, Ov (by omega), if_neg Bool.false_ne_true]
  refine (I9 c hc 40).bnd fun r hr => Bd.ite (fun _ => ?_) fun _ => Bd.ret ⟨by show s.size ≤ 601; omega, hr⟩
  exact P0 601 s _ hr (by omega) (by omega)
 | k + 1, s, c, hc, h => by
  rw [Bs, Ou (by omega), if_pos rfl]
  refine (JA c hc _ (by decide)).bnd fun r hr => ?_
  have hz : r.1.size ≤ 4 := by
   have := hr.1
   simp only [List.mem_cons, List.not_mem_nil, or_false] at this
   rcases this with h | h | h | h | h | h | h | h | h | h | h | h | h | h | h | h | h | h | h | h <;> (rw [h]; decide)
  rw [R7 (by omega)]
  have e := Mb s r.1
  have ek : Mw ((k + 1 : Nat) : Int) 1 = (k : Int) := by
   by_cases hk : k < 1000
   ·rw [Io (by omega) (by omega)]; omega
   ·omega
  rw [ek]
  exact R8 k _ _ hr.2 (by rw [e]; omega)
theorem VL (c : A8) (hc : Ma c) : Bd (Eh c) fun r => r.1.size ≤ 601 ∧ Ma r.2 := by
 rw [Eh]
 refine (BT c hc 4).bnd fun r hr => ?_
 obtain ⟨k, e, hk⟩ := VK (n := 4) hr.1 hr.2.1 (by decide)
 rw [e]
 exact R8 k _ _ hr.2.2 (by show 0 + 4 * k ≤ 100; omega)
theorem G7 (l : List Int) : (⟨(l.map fun n : Int => UInt8.ofNat n.toNat).toArray⟩ : ByteArray).size = l.length := by
 show ((l.map fun n : Int => UInt8.ofNat n.toNat).toArray).size = l.length
 simp
theorem FD (s : ByteArray) : (D4 s).length = s.size := by simp [D4]
theorem R9 {α : Type} (l : List α) {a b : Int} (h0 : 0 ≤ a) (h1 : a ≤ b) (h2 : b ≤ l.length) : Bd (slL l a b) fun x => x.length ≤ l.length := by
 unfold slL
 rw [if_pos ⟨h0, h1, h2⟩]
 exact Bd.ret (by rw [List.length_take, List.length_drop]; omega)
theorem VM (c : A8) (hc : Ma c) (s : ByteArray) (hs : s.size ≤ 601) : Bd (Ei c s) fun r => r.1.size ≤ 1300 ∧ Ma r.2 := by
 rw [Ei]
 have hM : maxLen = 9223372036854775807 := rfl
 have e0 : Gq s = some (D4 s) := if_pos (by omega)
 rw [e0]
 have hl := FD s
 generalize D4 s = x at hl
 show Bd (AT c 8 >>= _) _
 refine (BT c hc 8).bnd fun r hr => Bd.ite (fun _ => Bd.ite (fun hg => ?_) fun _ => Bd.ret ⟨by rw [G7]; omega, hr.2.2⟩) fun _ => Bd.ite (fun _ => Bd.ite (fun hg => ?_) fun _ => Bd.ret ⟨by rw [G7]; omega, hr.2.2⟩) fun _ => Bd.ite (fun _ => ?_) fun _ => Bd.ret ⟨by rw [G7]; omega, hr.2.2⟩
 ·have hp : 0 < x.length := by simpa [Rd, Be] using hg
  refine (BT r.2 hr.2.2 (Be x)).bnd fun r1 h1 => ?_
  have hb : r1.1 < x.length := by have := h1.2.1; simp only [Be] at this; omega
  have ef : Ps x = some () := if_neg (by omega)
  rw [ef]
  refine (Bd.getI h1.1 hb).bnd fun x1 _ => (BT r1.2 h1.2.2 255).bnd fun r2 h2 => (Bd.getI h1.1 hb).bnd fun x2 _ => Bd.ret ⟨?_, h2.2.2⟩
  rw [G7, List.length_set]; omega
 ·have hp : 0 < x.length := by simpa [Rd, Be] using hg
  refine (BT r.2 hr.2.2 (Be x)).bnd fun r1 h1 => ?_
  have hb : r1.1 < x.length := by have := h1.2.1; simp only [Be] at this; omega
  have ef : Ps x = some () := if_neg (by omega)
  have ea : C1 r1.1 1 = r1.1 + 1 := Bj (by omega) (by omega)
  have e1 : vwB x.length 0 r1.1 = some () := if_pos ⟨⟨by omega, by omega, by omega⟩, hp⟩
  have e2 : vwB x.length (r1.1 + 1) ((x.length : Nat) : Int) = some () := if_pos ⟨⟨by omega, by omega, by omega⟩, hp⟩
  have e3 : Kb x.length r1.1.toNat (r1.1 + 1).toNat = some () := if_pos ⟨by omega, by omega⟩
  rw [ef, ea, e1, e2, e3]
  refine Bd.ret ⟨?_, h1.2.2⟩
  rw [G7, List.length_append, List.length_take, List.length_drop]; omega
 ·have ea : C1 (Be x) 1 = x.length + 1 := Bj (by simp only [Be]; omega) (by simp only [Be]; omega)
  rw [ea]
  refine (BT r.2 hr.2.2 _).bnd fun r1 h1 => (JA r1.2 h1.2.2 _ (by decide)).bnd fun r2 h2 => ?_
  have hz : r2.1.size ≤ 4 := by
   have := h2.1
   simp only [List.mem_cons, List.not_mem_nil, or_false] at this
   rcases this with h | h | h | h | h | h | h | h | h | h | h | h | h <;> (rw [h]; decide)
  have hb : r1.1 ≤ x.length := by have := h1.2.1; omega
  refine (R9 x (by omega) h1.1 hb).bnd fun x3 h3 => (Bd.room (by omega)).bnd fun _ _ => (Bd.room (by rw [FD]; omega)).bnd fun _ _ => (R9 x h1.1 hb (Int.le_refl _)).bnd fun x4 h4 => (Bd.room (by rw [FD]; omega)).bnd fun _ _ => Bd.ret ⟨?_, h2.2⟩
  rw [G7]
  simp only [List.length_append, List.length_nil, FD]
  omega
end TT
