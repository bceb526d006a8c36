import Derived.Test.YtejfgkcjhmmjkaaGreatDoorTP0
import Derived.Test.YtejfgkcjhmmjkaaGreatDoorTP1
set_option linter.unusedVariables false
set_option linter.unusedSimpArgs false
namespace TT
open Go
def Tot {α : Type} (x : Option α) (P : α → Prop) : Prop := ∃ a, x = some a ∧ P a
theorem Tot.ret {α : Type} {a : α} {P : α → Prop} (h : P a) : Tot (some a) P := ⟨a, rfl, h⟩
theorem Tot.bnd {α β : Type} {x : Option α} {f : α → Option β} {P : α → Prop} {Q : β → Prop} (h : Tot x P) (k : ∀ a, P a → Tot (f a) Q) : Tot (x >>= f) Q := by
 obtain ⟨a, rfl, h⟩ := h
 exact k a h
theorem Tot.ite {α : Type} {b : Bool} {x y : Option α} {P : α → Prop} (h1 : b = true → Tot x P) (h2 : b = false → Tot y P) : Tot (if b then x else y) P := by
 cases b
 ·exact h2 rfl
 ·exact h1 rfl
theorem Tot.mono {α : Type} {x : Option α} {P Q : α → Prop} (h : Tot x P) (hpq : ∀ a, P a → Q a) : Tot x Q := by
 obtain ⟨a, e, h⟩ := h
 exact ⟨a, e, hpq a h⟩
theorem Tot.room {n byt : Nat} (h : n ≤ 4000000) (hb : 0 < byt := by decide) (hb2 : byt ≤ 1000 := by decide) : Tot (room n byt) fun _ => True := ⟨(), room_ok h hb hb2, trivial⟩
theorem Tot.getI {α : Type} {l : List α} {i : Int} (h0 : 0 ≤ i) (h1 : i < l.length) : Tot (getI l i) fun x => x ∈ l ∧ l[i.toNat]? = some x := by
 have h : i.toNat < l.length := by omega
 refine ⟨l[i.toNat], ?_, List.getElem_mem h, List.getElem?_eq_getElem h⟩
 unfold TT.getI
 rw [if_pos h0]
 exact List.getElem?_eq_getElem h
structure Cok (c : Gl1Cur) : Prop where
 len : c.xb.length ≤ 1048576
 lo : 0 ≤ c.xi
 hi : c.xi ≤ c.xb.length
theorem and255 (a : Int) : 0 ≤ andK .i64 a 255 ∧ andK .i64 a 255 < 256 := by
 have e : andK .i64 a 255 = IntKind.i64.wrap ((BitVec.ofInt 64 a &&& BitVec.ofInt 64 255).toNat : Int) := rfl
 have h : (BitVec.ofInt 64 a &&& BitVec.ofInt 64 255).toNat ≤ 255 := by
  rw [BitVec.toNat_and]; exact Nat.le_trans Nat.and_le_right (by decide)
 rw [e, wrap_eq (by omega) (by omega)]
 omega
theorem Tot.shr {a b : Int} (h : 0 ≤ b) : Tot (shrK .i64 a b) fun _ => True := by
 refine ⟨a.fdiv (2 ^ (min b.toNat IntKind.i64.bits)), ?_, trivial⟩
 unfold shrK
 rw [if_neg (by omega)]
theorem l1Byte_tot (c : Gl1Cur) (h : Cok c) : Tot (spec_l1Byte c) fun r => (0 ≤ r.1 ∧ r.1 < 256) ∧ Cok r.2 := by
 rw [spec_l1Byte]
 refine (Tot.shr (by decide)).bnd fun x _ => (Tot.shr (by decide)).bnd fun y _ => Tot.ite (fun hi => ?_) fun _ => ?_
 ·have hl := ltI_iff.1 hi
  simp only [lenL] at hl
  refine (Tot.getI h.lo hl).bnd fun z _ => Tot.ret ⟨and255 _, h.len, ?_, ?_⟩
  ·show 0 ≤ addI c.xi 1
   have := h.lo; have := h.len
   rw [addI_eq (by omega) (by omega)]; omega
  ·show addI c.xi 1 ≤ c.xb.length
   have := h.lo; have := h.len
   rw [addI_eq (by omega) (by omega)]; omega
 ·exact Tot.ret ⟨and255 _, h.len, h.lo, h.hi⟩
theorem remI_nat {a n : Int} (h0 : 0 ≤ a) (hn : 0 < n) : Tot (remI a n) fun x => 0 ≤ x ∧ x < n := by
 refine ⟨a.tmod n, ?_, Int.tmod_nonneg _ h0, Int.tmod_lt_of_pos _ hn⟩
 unfold remI
 rw [if_neg (by omega)]
theorem l1Below_tot (c : Gl1Cur) (h : Cok c) (n : Int) : Tot (spec_l1Below c n) fun r => 0 ≤ r.1 ∧ (r.1 < n ∨ r.1 = 0) ∧ Cok r.2 := by
 rw [spec_l1Below]
 refine Tot.ite (fun _ => Tot.ret ⟨Int.le_refl _, .inr rfl, h⟩) fun h0 => Tot.ite (fun _ => ?_) fun _ => ?_
 ·have hn : 0 < n := by have := decide_eq_false_iff_not.1 h0; omega
  exact (l1Byte_tot c h).bnd fun r hr => (remI_nat hr.1.1 hn).bnd fun x hx => Tot.ret ⟨hx.1, .inl hx.2, hr.2⟩
 ·have hn : 0 < n := by have := decide_eq_false_iff_not.1 h0; omega
  refine (l1Byte_tot c h).bnd fun r hr => (l1Byte_tot _ hr.2).bnd fun s hs => (l1Byte_tot _ hs.2).bnd fun t ht => ?_
  have e : addI (addI (mulI r.1 65536) (mulI s.1 256)) t.1 = r.1 * 65536 + s.1 * 256 + t.1 := by
   have m1 : mulI r.1 65536 = r.1 * 65536 := wrap_eq (by omega) (by omega)
   have m2 : mulI s.1 256 = s.1 * 256 := wrap_eq (by omega) (by omega)
   rw [m1, m2, show addI (r.1 * 65536) (s.1 * 256) = r.1 * 65536 + s.1 * 256 from addI_eq (by omega) (by omega), addI_eq (by omega) (by omega)]
  rw [e]
  exact (remI_nat (by omega) hn).bnd fun x hx => Tot.ret ⟨hx.1, .inl hx.2, ht.2⟩
theorem l1Once_tot (c : Gl1Cur) (h : Cok c) (n : Int) : Tot (spec_l1Once c n) fun r => Cok r.2 := by
 rw [spec_l1Once]
 exact (l1Below_tot c h n).bnd fun r hr => Tot.ret hr.2.2
theorem l1Str_tot (c : Gl1Cur) (h : Cok c) (l : List ByteArray) (hl : 0 < l.length) : Tot (spec_l1Str c l) fun r => r.1 ∈ l ∧ Cok r.2 := by
 rw [spec_l1Str]
 exact (l1Below_tot c h _).bnd fun r hr => (Tot.getI hr.1 (by have := hr.2.1; simp only [lenL] at this; omega)).bnd fun x hx => Tot.ret ⟨hx.1, hr.2.2⟩
theorem l1Int_tot (c : Gl1Cur) (h : Cok c) (l : List Int) (hl : 0 < l.length) : Tot (spec_l1Int c l) fun r => r.1 ∈ l ∧ Cok r.2 := by
 rw [spec_l1Int]
 exact (l1Below_tot c h _).bnd fun r hr => (Tot.getI hr.1 (by have := hr.2.1; simp only [lenL] at this; omega)).bnd fun x hx => Tot.ret ⟨hx.1, hr.2.2⟩
theorem l1New_loop (code : List Int) (hl : code.length ≤ 1048576) : ∀ (m : Nat) (h : Int) (k : Nat), code.length ≤ k + m → Tot (spec_l1New_l8 code h k) Cok := by
 intro m
 induction m with
 | zero =>
  intro h k hk
  rw [spec_l1New_l8, ltI_f (by simp only [lenL]; omega)]
  exact Tot.ret ⟨hl, by show (0 : Int) ≤ 0; omega, by show (0 : Int) ≤ _; omega⟩
 | succ m ih =>
  intro h k hk
  rw [spec_l1New_l8]
  refine Tot.ite (fun hi => Tot.ite (fun _ => ?_) fun _ => ?_) fun _ => ?_
  ·have hlt := ltI_iff.1 hi
   simp only [lenL] at hlt
   refine (Tot.getI (by omega) hlt).bnd fun x _ => ?_
   rw [show addI (k : Int) 1 = ((k + 1 : Nat) : Int) by rw [addI_eq (by omega) (by omega)]; omega]
   exact ih _ _ (by omega)
  ·exact Tot.ret ⟨hl, by show (0 : Int) ≤ 0; omega, by show (0 : Int) ≤ _; omega⟩
  ·exact Tot.ret ⟨hl, by show (0 : Int) ≤ 0; omega, by show (0 : Int) ≤ _; omega⟩
theorem l1New_tot (code : List Int) (hl : code.length ≤ 1048576) : Tot (spec_l1New code) Cok := by
 rw [spec_l1New]
 exact l1New_loop code hl code.length _ 0 (by omega)
end TT
