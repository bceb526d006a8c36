/- The program's Fold and the reference's Fold give the same sum for every number and every list (lists above 2^20 are answered with true by the statement itself). -/
import Derived.Test.YtabghncdppfllaaPFnExactFoldx1
namespace Go.Proofs.Ytabghncdppfllaa.Pure
open Go.RowKit Go.Proofs.Ytabghncdppfllaa.PFnExactFold Go.Proofs.YtabghncdppfllaaW.PrintWords Go.Proofs.YtabghncdppfllaaW.PrintLast

def stepS (h x : Int) : Int := Go.bits .and .i64 (wrap64 ((Go.bits .xor .i64 h x) * 16777619)) 4294967295
def stepI (h x : Int) : Int := (((Go.bits .xor .i64 h x) % 4294967296) * 16777619) % 4294967296

theorem wrap_up {i : Int} {n : Nat} (h0 : 0 ≤ i) (h : i < (n : Int)) (hn : n ≤ 1048576) : wrap64 (i + 1) = i + 1 := by
  unfold wrap64
  omega

theorem toInt_tells (l : List Int) (hl : l.length ≤ 1048576) (d : Nat) : ∀ (k : Nat) (i : Int) (o : List Int), 0 ≤ i → i ≤ l.length → (l.length : Int) - i = d → d < k → o.length = l.length → o.take i.toNat = l.take i.toNat →
    laws_toIntS.l0 k l o i = some l := by
  induction d with
  | zero =>
    intro k i o h0 h1 hd hk ho hp
    obtain ⟨k, rfl⟩ : ∃ m, k = m + 1 := ⟨k - 1, by omega⟩
    have hi : i.toNat = l.length := by omega
    simp only [laws_toIntS.l0]
    rw [if_neg (by omega)]
    rw [hi, List.take_length, ← ho, List.take_length] at hp
    rw [hp]
  | succ d ih =>
    intro k i o h0 h1 hd hk ho hp
    obtain ⟨k, rfl⟩ : ∃ m, k = m + 1 := ⟨k - 1, by omega⟩
    have hlt : i < (l.length : Int) := by omega
    simp only [laws_toIntS.l0]
    rw [if_pos hlt, if_pos h0, if_pos (by omega), wrap_up h0 hlt hl]
    refine ih k (i + 1) _ (by omega) (by omega) (by omega) (by omega) (by simpa using ho) ?_
    have hi : (i + 1).toNat = i.toNat + 1 := by omega
    have hb : i.toNat < o.length := by omega
    have hb' : i.toNat < l.length := by omega
    rw [hi, List.take_succ_eq_append_getElem (by simpa using hb), List.take_succ_eq_append_getElem hb', List.take_set_of_le (by omega), hp]
    simp [rd, hb', List.getD_eq_getElem?_getD]

theorem toInt_all (l : List Int) (hl : l.length ≤ 1048576) (k : Nat) (hk : l.length < k) : laws_toIntS.f k l = some l := by
  unfold laws_toIntS.f
  rw [if_pos (by omega), if_pos (by omega)]
  exact toInt_tells l hl l.length k 0 _ (by omega) (by omega) (by omega) hk (by simp) (by simp)

theorem eqInt_tells (l : List Int) (hl : l.length ≤ 1048576) (d : Nat) : ∀ (k : Nat) (i : Int), 0 ≤ i → i ≤ l.length → (l.length : Int) - i = d → d < k →
    laws_eqIntS.l0 k l l i = some true := by
  induction d with
  | zero =>
    intro k i h0 h1 hd hk
    obtain ⟨k, rfl⟩ : ∃ m, k = m + 1 := ⟨k - 1, by omega⟩
    simp only [laws_eqIntS.l0]
    rw [if_neg (by omega)]
  | succ d ih =>
    intro k i h0 h1 hd hk
    obtain ⟨k, rfl⟩ : ∃ m, k = m + 1 := ⟨k - 1, by omega⟩
    have hlt : i < (l.length : Int) := by omega
    simp only [laws_eqIntS.l0]
    rw [if_pos hlt, if_pos h0, if_pos hlt, if_pos trivial, wrap_up h0 hlt hl]
    exact ih k (i + 1) (by omega) (by omega) (by omega) (by omega)

theorem eqInt_all (l : List Int) (hl : l.length ≤ 1048576) (k : Nat) (hk : l.length < k) : laws_eqIntS.f k l l = some true := by
  unfold laws_eqIntS.f
  rw [if_pos rfl]
  exact eqInt_tells l hl l.length k 0 (by omega) (by omega) (by omega) hk

theorem specFold_tells (l : List Int) (hl : l.length ≤ 1048576) (d : Nat) : ∀ (k : Nat) (i h : Int), 0 ≤ i → i ≤ l.length → (l.length : Int) - i = d → d < k →
    spec_Fold.l0 k l h i = some ((l.drop i.toNat).foldl stepS h) := by
  induction d with
  | zero =>
    intro k i h h0 h1 hd hk
    obtain ⟨k, rfl⟩ : ∃ m, k = m + 1 := ⟨k - 1, by omega⟩
    simp only [spec_Fold.l0]
    rw [if_neg (by omega), List.drop_of_length_le (by omega)]
    rfl
  | succ d ih =>
    intro k i h h0 h1 hd hk
    obtain ⟨k, rfl⟩ : ∃ m, k = m + 1 := ⟨k - 1, by omega⟩
    have hlt : i < (l.length : Int) := by omega
    have hi : (i + 1).toNat = i.toNat + 1 := by omega
    have hb : i.toNat < l.length := by omega
    simp only [spec_Fold.l0]
    rw [if_pos hlt, if_pos h0, wrap_up h0 hlt hl, ih k (i + 1) _ (by omega) (by omega) (by omega) (by omega), hi, List.drop_eq_getElem_cons hb, List.foldl_cons]
    simp [stepS, rd, hb, List.getD_eq_getElem?_getD]

theorem implFold_tells (l : List Int) (hl : l.length ≤ 1048576) (d : Nat) : ∀ (k : Nat) (i h : Int), 0 ≤ i → i ≤ l.length → (l.length : Int) - i = d → d < k →
    impl_Fold.l0 k h l (l.length : Int) i = some ((l.drop i.toNat).foldl stepI h) := by
  induction d with
  | zero =>
    intro k i h h0 h1 hd hk
    obtain ⟨k, rfl⟩ : ∃ m, k = m + 1 := ⟨k - 1, by omega⟩
    simp only [impl_Fold.l0]
    rw [if_neg (by omega), List.drop_of_length_le (by omega)]
    rfl
  | succ d ih =>
    intro k i h h0 h1 hd hk
    obtain ⟨k, rfl⟩ : ∃ m, k = m + 1 := ⟨k - 1, by omega⟩
    have hlt : i < (l.length : Int) := by omega
    have hi : (i + 1).toNat = i.toNat + 1 := by omega
    have hb : i.toNat < l.length := by omega
    simp only [impl_Fold.l0, impl_summed.f, Option.bind_some]
    rw [if_pos hlt, if_pos h0, if_pos hlt, wrap_up h0 hlt hl, ih k (i + 1) _ (by omega) (by omega) (by omega) (by omega), hi, List.drop_eq_getElem_cons hb, List.foldl_cons]
    simp [stepI, rd, hb, List.getD_eq_getElem?_getD]

theorem and32 (x : Int) : Go.bits .and .i64 x 4294967295 = x % 4294967296 := by
  have e : (BitVec.ofInt 64 x &&& BitVec.ofInt 64 4294967295).toNat = (x % 4294967296).toNat := by
    rw [BitVec.toNat_and, BitVec.toNat_ofInt, show (BitVec.ofInt 64 4294967295).toNat = 2 ^ 32 - 1 from by decide, Nat.and_two_pow_sub_one_eq_mod]
    omega
  show IntKind.i64.wrap ((BitVec.ofInt 64 x &&& BitVec.ofInt 64 4294967295).toNat : Int) = _
  rw [e, IntKind.wrap_i64]
  omega

theorem step_same (h x : Int) : stepS h x = stepI h x := by
  unfold stepS stepI
  generalize Go.bits .xor .i64 h x = y
  rw [and32]
  unfold wrap64
  omega

theorem FnExactFold : laws_FnExactFold.Pure := by
  intro a0 l hw hm hs he
  by_cases hl : (l.length : Int) > 1048576
  · exact ⟨0, by unfold laws_FnExactFold.f; rw [if_pos hl]⟩
  · have hl' : l.length ≤ 1048576 := by omega
    refine ⟨l.length + 1, ?_⟩
    have hS : spec_Fold.f (l.length + 1) a0 l = some (l.foldl stepS a0) := by
      have := specFold_tells l hl' l.length (l.length + 1) 0 a0 (by omega) (by omega) (by omega) (by omega)
      simpa [spec_Fold.f] using this
    have hI : impl_Fold.f (l.length + 1) a0 l = some (l.foldl stepI a0) := by
      have := implFold_tells l hl' l.length (l.length + 1) 0 a0 (by omega) (by omega) (by omega) (by omega)
      simpa [impl_Fold.f] using this
    have hst : stepS = stepI := by funext h x; exact step_same h x
    unfold laws_FnExactFold.f
    rw [if_neg hl, toInt_all l hl' _ (by omega)]
    simp only [Option.bind_some]
    rw [hS, hI, hst]
    simp only [Option.bind_some]
    rw [eqInt_all l hl' _ (by omega)]
    simp

end Go.Proofs.Ytabghncdppfllaa.Pure
