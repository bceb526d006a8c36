import Derived.Test.YtgihjlfmnfbcaaaDoorTP0
import Derived.Test.YtgihjlfmnfbcaaaDoorTP1
set_option linter.unusedVariables false
set_option linter.unusedSimpArgs false
namespace TT
open Go
def Bd {α : Type} (x : Option α) (P : α → Prop) : Prop := ∃ a, x = some a ∧ P a
theorem Bd.ret {α : Type} {a : α} {P : α → Prop} (h : P a) : Bd (some a) P := ⟨a, rfl, h⟩
theorem Bd.bnd {α β : Type} {x : Option α} {f : α → Option β} {P : α → Prop} {Q : β → Prop} (h : Bd x P) (k : ∀ a, P a → Bd (f a) Q) : Bd (x >>= f) Q := by
 obtain ⟨a, rfl, h⟩ := h
 exact k a h
theorem Bd.ite {α : Type} {b : Bool} {x y : Option α} {P : α → Prop} (h1 : b = true → Bd x P) (h2 : b = false → Bd y P) : Bd (if b then x else y) P := by
 cases b
 ·exact h2 rfl
 ·exact h1 rfl
theorem Bd.mono {α : Type} {x : Option α} {P Q : α → Prop} (h : Bd x P) (hpq : ∀ a, P a → Q a) : Bd x Q := by
 obtain ⟨a, e, h⟩ := h
 exact ⟨a, e, hpq a h⟩
theorem Bd.room {n byt : Nat} (h : n ≤ 4000000) (hb : 0 < byt := by decide) (hb2 : byt ≤ 1000 := by decide) : Bd (room n byt) fun _ => True := ⟨(), Xe h hb hb2, trivial⟩
theorem Bd.getI {α : Type} {l : List α} {i : Int} (h0 : 0 ≤ i) (h1 : i < l.length) : Bd (getI l i) fun x => x ∈ l ∧ l[i.toNat]? = some x := by
 have h : i.toNat < l.length := by omega
 refine ⟨l[i.toNat], ?_, List.getElem_mem h, List.getElem?_eq_getElem h⟩
 unfold TT.getI
 rw [if_pos h0]
 exact List.getElem?_eq_getElem h
structure Ma (c : A8) : Prop where
 len : c.xb.length ≤ 1048576
 lo : 0 ≤ c.xi
 hi : c.xi ≤ c.xb.length
theorem VJ (a : Int) : 0 ≤ Gd .i64 a 255 ∧ Gd .i64 a 255 < 256 := by
 have e : Gd .i64 a 255 = IntKind.i64.wrap ((BitVec.ofInt 64 a &&& BitVec.ofInt 64 255).toNat : Int) := rfl
 have h : (BitVec.ofInt 64 a &&& BitVec.ofInt 64 255).toNat ≤ 255 := by
  rw [BitVec.toNat_and]; exact Nat.le_trans Nat.and_le_right (by decide)
 rw [e, GM (by omega) (by omega)]
 omega
theorem Bd.shr {a b : Int} (h : 0 ≤ b) : Bd (Pk .i64 a b) fun _ => True := by
 refine ⟨a.fdiv (2 ^ (min b.toNat IntKind.i64.bits)), ?_, trivial⟩
 unfold Pk
 rw [if_neg (by omega)]
theorem GN (c : A8) (h : Ma c) : Bd (CO c) fun r => (0 ≤ r.1 ∧ r.1 < 256) ∧ Ma r.2 := by
 rw [CO]
 refine (Bd.shr (by decide)).bnd fun x _ => (Bd.shr (by decide)).bnd fun y _ => Bd.ite (fun hi => ?_) fun _ => ?_
 ·have hl := NS.1 hi
  simp only [Be] at hl
  refine (Bd.getI h.lo hl).bnd fun z _ => Bd.ret ⟨VJ _, h.len, ?_, ?_⟩
  ·show 0 ≤ C1 c.xi 1
   have := h.lo; have := h.len
   rw [Bj (by omega) (by omega)]; omega
  ·show C1 c.xi 1 ≤ c.xb.length
   have := h.lo; have := h.len
   rw [Bj (by omega) (by omega)]; omega
 ·exact Bd.ret ⟨VJ _, h.len, h.lo, h.hi⟩
theorem Oz {a n : Int} (h0 : 0 ≤ a) (hn : 0 < n) : Bd (E5 a n) fun x => 0 ≤ x ∧ x < n := by
 refine ⟨a.tmod n, ?_, Int.tmod_nonneg _ h0, Int.tmod_lt_of_pos _ hn⟩
 unfold E5
 rw [if_neg (by omega)]
theorem BT (c : A8) (h : Ma c) (n : Int) : Bd (AT c n) fun r => 0 ≤ r.1 ∧ (r.1 < n ∨ r.1 = 0) ∧ Ma r.2 := by
 rw [AT]
 refine Bd.ite (fun _ => Bd.ret ⟨Int.le_refl _, .inr rfl, h⟩) fun h0 => Bd.ite (fun _ => ?_) fun _ => ?_
 ·have hn : 0 < n := by have := decide_eq_false_iff_not.1 h0; omega
  exact (GN c h).bnd fun r hr => (Oz hr.1.1 hn).bnd fun x hx => Bd.ret ⟨hx.1, .inl hx.2, hr.2⟩
 ·have hn : 0 < n := by have := decide_eq_false_iff_not.1 h0; omega
  refine (GN c h).bnd fun r hr => (GN _ hr.2).bnd fun s hs => (GN _ hs.2).bnd fun t ht => ?_
  have e : C1 (C1 (HM r.1 65536) (HM s.1 256)) t.1 = r.1 * 65536 + s.1 * 256 + t.1 := by
   have m1 : HM r.1 65536 = r.1 * 65536 := GM (by omega) (by omega)
   have m2 : HM s.1 256 = s.1 * 256 := GM (by omega) (by omega)
   rw [m1, m2, show C1 (r.1 * 65536) (s.1 * 256) = r.1 * 65536 + s.1 * 256 from Bj (by omega) (by omega), Bj (by omega) (by omega)]
  rw [e]
  exact (Oz (by omega) hn).bnd fun x hx => Bd.ret ⟨hx.1, .inl hx.2, ht.2⟩
theorem I9 (c : A8) (h : Ma c) (n : Int) : Bd (Cs c n) fun r => Ma r.2 := by
 rw [Cs]
 exact (BT c h n).bnd fun r hr => Bd.ret hr.2.2
theorem JA (c : A8) (h : Ma c) (l : List ByteArray) (hl : 0 < l.length) : Bd (DM c l) fun r => r.1 ∈ l ∧ Ma r.2 := by
 rw [DM]
 exact (BT c h _).bnd fun r hr => (Bd.getI hr.1 (by have := hr.2.1; simp only [Be] at this; omega)).bnd fun x hx => Bd.ret ⟨hx.1, hr.2.2⟩
theorem G5 (c : A8) (h : Ma c) (l : List Int) (hl : 0 < l.length) : Bd (EE c l) fun r => r.1 ∈ l ∧ Ma r.2 := by
 rw [EE]
 exact (BT c h _).bnd fun r hr => (Bd.getI hr.1 (by have := hr.2.1; simp only [Be] at this; omega)).bnd fun x hx => Bd.ret ⟨hx.1, hr.2.2⟩
theorem Qg (code : List Int) (hl : code.length ≤ 1048576) : ∀ (m : Nat) (h : Int) (k : Nat), code.length ≤ k + m → Bd (CB code h k) Ma := by
 intro m
 induction m with
 | zero =>
  intro h k hk
  rw [CB, E3 (by simp only [Be]; omega)]
  exact Bd.ret ⟨hl, by show (0 : Int) ≤ 0; omega, by show (0 : Int) ≤ _; omega⟩
 | succ m ih =>
  intro h k hk
  rw [CB]
  refine Bd.ite (fun hi => Bd.ite (fun _ => ?_) fun _ => ?_) fun _ => ?_
  ·have hlt := NS.1 hi
   simp only [Be] at hlt
   refine (Bd.getI (by omega) hlt).bnd fun x _ => ?_
   rw [show C1 (k : Int) 1 = ((k + 1 : Nat) : Int) by rw [Bj (by omega) (by omega)]; omega]
   exact ih _ _ (by omega)
  ·exact Bd.ret ⟨hl, by show (0 : Int) ≤ 0; omega, by show (0 : Int) ≤ _; omega⟩
  ·exact Bd.ret ⟨hl, by show (0 : Int) ≤ 0; omega, by show (0 : Int) ≤ _; omega⟩
theorem G6 (code : List Int) (hl : code.length ≤ 1048576) : Bd (CT code) Ma := by
 rw [CT]
 exact Qg code hl code.length _ 0 (by omega)
end TT
