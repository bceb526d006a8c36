import Derived.Test.YtgihjlfmnfbcaaaDoorTP9Class
import Derived.Test.YtgihjlfmnfbcaaaDoorTP2PlainA
set_option linter.unusedVariables false
set_option linter.unusedSimpArgs false
namespace TT
open Go
theorem Qh {n : Int} (h : HA n = true) : HB n = true := by simp [HB, h]
theorem SR {n : Int} (h : HB n = true) : L3 n = true := by
 simp only [HB, HA, L3, isR, J9, MX, Oy, List.any_cons, List.any_nil, Bool.or_false, Bool.or_eq_true, decide_eq_true_eq] at h ⊢
 omega
theorem Qi (n : Int) : Ak n = some (decide (n = 9 ∨ n = 10 ∨ n = 13 ∨ n = 32)) ∧ AR n = some (decide (n = 9 ∨ n = 10 ∨ n = 13 ∨ n = 32)) := by
 rw [Ak, AR]
 by_cases h1 : n = 9
 ·subst h1; exact ⟨rfl, rfl⟩
 by_cases h2 : n = 10
 ·subst h2; exact ⟨rfl, rfl⟩
 by_cases h3 : n = 13
 ·subst h3; exact ⟨rfl, rfl⟩
 simp only [MU h1, MU h2, MU h3, Bool.false_eq_true, if_false, h1, h2, h3, false_or]
 exact ⟨rfl, rfl⟩
theorem Qj {n : Int} (h : n = 9 ∨ n = 10 ∨ n = 13 ∨ n = 32) : HB n = false := by
 rcases h with rfl | rfl | rfl | rfl <;> decide
theorem NW (code : List Int) (hl : code.length ≤ 1048576) : Bd (CY code) fun _ => True := by
 rw [CY]
 refine (G6 code hl).bnd fun c hc => (I9 c hc 2).bnd fun r hr => Bd.ite (fun _ => ?_) fun _ => (BT r.2 hr _).bnd fun r1 h1 => Bd.ret trivial
 rw [Ct]
 exact ((G5 r.2 hr _ (by decide)).bnd fun r1 h1 => Bd.ret (P := fun _ => True) trivial).bnd fun _ _ => Bd.ret trivial
theorem Lj (code : List Int) (hl : code.length ≤ 1048576) : Bd (CM code) fun _ => True := by
 rw [CM]
 refine (G6 code hl).bnd fun c hc => (I9 c hc 2).bnd fun r hr => Bd.ite (fun _ => ?_) fun _ => (BT r.2 hr _).bnd fun r1 h1 => Bd.ret trivial
 rw [Ct]
 exact ((G5 r.2 hr _ (by decide)).bnd fun r1 h1 => Bd.ret (P := fun _ => True) trivial).bnd fun _ _ => Bd.ret trivial
theorem NX (code : List Int) (hl : code.length ≤ 1048576) : Bd (CZ code) fun _ => True := by
 rw [CZ]
 refine (G6 code hl).bnd fun c hc => ?_
 rw [Ct]
 exact ((G5 c hc _ (by decide)).bnd fun r1 h1 => Bd.ret (P := fun _ => True) trivial).bnd fun _ _ => Bd.ret trivial
theorem NY (code : List Int) (hl : code.length ≤ 1048576) : Bd (Ca code) fun s => s.size ≤ 1300 := by
 rw [Ca]
 exact (G6 code hl).bnd fun c hc => (VL c hc).bnd fun r hr => (VM r.2 hr.2 r.1 hr.1).bnd fun r1 h1 => Bd.ret h1.1
theorem Lk (code : List Int) (hl : code.length ≤ 1048576) : Bd (C5 code) fun s => s.size ≤ 10 := by
 rw [C5]
 refine (G6 code hl).bnd fun c hc => (JA c hc _ (by decide)).bnd fun r hr => Bd.ret ?_
 have := hr.1
 simp only [List.mem_cons, List.not_mem_nil, or_false] at this
 rcases this with h | h | h | h | h | h | h <;> (rw [h]; decide)
theorem P2 (s : ByteArray) (hs : s.size ≤ 4000000) : ∀ (m i : Nat), i ≤ s.size → s.size - i ≤ m → ∃ k : Nat, k ≤ s.size ∧ BF s (i : Int) = some (k : Int) ∧ Av s (i : Int) = some (decide (k = s.size) && neS s ⟨#[]⟩) := by
 intro m
 induction m with
 | zero =>
  intro i h1 h2
  rw [BF, Av, E3 (by simp only [Bg]; omega), if_neg Bool.false_ne_true, if_neg Bool.false_ne_true]
  exact ⟨i, h1, rfl, by rw [decide_eq_true (show i = s.size by omega), Bool.true_and]⟩
 | succ m ih =>
  intro i h1 h2
  rw [BF, Av]
  by_cases h : i < s.size
  ·rw [H9 (by simp only [Bg]; omega), if_pos rfl, if_pos rfl, Qe (k := i) rfl h]
   simp only [BL]
   obtain ⟨b1, b2⟩ := Qi (wr .i64 ((Iq s i : Nat) : Int))
   rw [b1, b2]
   simp only [BL]
   split
   ·rename_i hb
    have ea : C1 (i : Int) 1 = ((i + 1 : Nat) : Int) := by rw [Bj (by omega) (by omega)]; omega
    rw [ea]
    exact ih (i + 1) (by omega) (by omega)
   ·exact ⟨i, h1, rfl, by rw [decide_eq_false (show ¬ i = s.size by omega)]; rfl⟩
  ·rw [E3 (by simp only [Bg]; omega), if_neg Bool.false_ne_true, if_neg Bool.false_ne_true]
   exact ⟨i, h1, rfl, by rw [decide_eq_true (show i = s.size by omega), Bool.true_and]⟩
theorem VN (s : ByteArray) (hs : s.size ≤ 4000000) : ∃ b, Ag s = some b ∧ Ah s = some b := by
 obtain ⟨k, h1, h2, h3⟩ := P2 s hs s.size 0 (by omega) (by omega)
 have h2' : BF s 0 = some (k : Int) := h2
 have h3' : Av s 0 = some (decide (k = s.size) && neS s ⟨#[]⟩) := h3
 refine ⟨_, ?_, (by rw [Ah]; exact h3')⟩
 rw [Ag]
 cases hn : neS s ⟨#[]⟩ with
 | false => rw [Bool.and_false]; rfl
 | true =>
  rw [Ff, E3 (by omega), if_neg Bool.false_ne_true, h2', Bool.and_true]
  simp only [if_true, BL, Bg]
  by_cases hk : k = s.size
  ·rw [VD (by omega), decide_eq_true hk]
  ·rw [MU (by omega), decide_eq_false hk]
theorem Xi (code : List Int) (hl : code.length ≤ 1048576) (hc : ∀ y ∈ code, 0 ≤ y ∧ y < 256) : Bd (BY code 2) fun x => True := by
 rw [BY]
 refine Bd.ite (fun h => ?_) fun _ => ?_
 ·have h' : (2 : Int) < code.length := of_decide_eq_true h
  exact (Bd.getI (by omega) h').bnd fun _ _ => Bd.ret trivial
 ·refine (show Bd (E5 _ 256) fun _ => True from ?_).bnd fun _ _ => Bd.ret trivial
  unfold E5
  rw [if_neg (by decide)]
  exact Bd.ret trivial
theorem law_FnClasses (code : List Int) (hl : code.length ≤ maxLen) (hc : ∀ y ∈ code, 0 ≤ y ∧ y < 256) : E2 code = some true := by
 rw [E2, Ie]
 by_cases hb : code.length ≤ 1048576
 case neg => rw [Ou (by simp only [Be]; omega)]; rfl
 rw [Ov (by simp only [Be]; omega)]
 obtain ⟨n, en, _⟩ := NW code hb
 obtain ⟨m, em, _⟩ := Lj code hb
 obtain ⟨k, ek, _⟩ := NX code hb
 obtain ⟨s, es, hs⟩ := NY code hb
 obtain ⟨u, eu, hu⟩ := Lk code hb
 obtain ⟨bt, t1, t2⟩ := VI s (by omega)
 obtain ⟨bu, u1, u2⟩ := VN u (by omega)
 obtain ⟨x, ex, _⟩ := Xi code hb hc
 obtain ⟨y, ey, _⟩ : Bd (E5 x 40) fun _ => True := by unfold E5; rw [if_neg (by decide)]; exact Bd.ret trivial
 obtain ⟨y1, y2⟩ := Qi y
 have hms := @Qh m
 have hps := @SR n
 have hbp := @Qj n
 simp only [BL, Bool.false_eq_true, if_false, en, em, ek, es, eu, SQ, SP, L2, L1, MY, MZ, (Qi n).2, t1, t2, u1, u2, ex, ey, y1, y2, VE, if_true]
 cases h1 : HA m with
 | false =>
  simp only [Bool.false_eq_true, if_false]
  cases h3 : HB n with
  | false => simp only [Bool.false_eq_true, if_false, ite_self]
  | true =>
   have h4 := hps h3
   have h5 : decide (n = 9 ∨ n = 10 ∨ n = 13 ∨ n = 32) = false := decide_eq_false fun h => by rw [hbp h] at h3; cases h3
   simp only [h4, h5, Bool.false_eq_true, if_false, if_true]
 | true =>
  have h2 := hms h1
  simp only [h2, if_true]
  cases h3 : HB n with
  | false => simp only [Bool.false_eq_true, if_false, ite_self]
  | true =>
   have h4 := hps h3
   have h5 : decide (n = 9 ∨ n = 10 ∨ n = 13 ∨ n = 32) = false := decide_eq_false fun h => by rw [hbp h] at h3; cases h3
   simp only [h4, h5, Bool.false_eq_true, if_false, if_true]
end TT
