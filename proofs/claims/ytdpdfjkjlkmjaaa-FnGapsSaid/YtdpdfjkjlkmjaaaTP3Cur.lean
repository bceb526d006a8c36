import Derived.Test.YtdpdfjkjlkmjaaaTP0
import Derived.Test.YtdpdfjkjlkmjaaaTP1
set_option linter.unusedVariables false
set_option linter.unusedSimpArgs false
namespace TT
open Go
def Tot {α : Type} (x : Option α) (P : α → Prop) : Prop := ∃ a, x = some a ∧ P a
theorem Tot.ret {α : Type} {a : α} {P : α → Prop} (h : P a) : Tot (some a) P := ⟨a, rfl, h⟩
theorem Tot.bnd {α β : Type} {x : Option α} {f : α → Option β} {P : α → Prop} {Q : β → Prop} (h : Tot x P) (k : ∀ a, P a → Tot (f a) Q) : Tot (x >>= f) Q := by
 obtain ⟨a, rfl, h⟩ := h
 exact k a h
theorem Tot.ite {α : Type} {b : Bool} {x y : Option α} {P : α → Prop} (h1 : b = true → Tot x P) (h2 : b = false → Tot y P) : Tot (if b then x else y) P := by
 cases b
 ·exact h2 rfl
 ·exact h1 rfl
theorem Tot.mono {α : Type} {x : Option α} {P Q : α → Prop} (h : Tot x P) (hpq : ∀ a, P a → Q a) : Tot x Q := by
 obtain ⟨a, e, h⟩ := h
 exact ⟨a, e, hpq a h⟩
theorem Tot.room {n byt : Nat} (h : n ≤ 4000000) (hb : 0 < byt := by decide) (hb2 : byt ≤ 1000 := by decide) : Tot (room n byt) fun _ => True := ⟨(), room_ok h hb hb2, trivial⟩
theorem Tot.getI {α : Type} {l : List α} {i : Int} (h0 : 0 ≤ i) (h1 : i < l.length) : Tot (getI l i) fun x => x ∈ l ∧ l[i.toNat]? = some x := by
 have h : i.toNat < l.length := by omega
 refine ⟨l[i.toNat], ?_, List.getElem_mem h, List.getElem?_eq_getElem h⟩
 unfold TT.getI
 rw [if_pos h0]
 exact List.getElem?_eq_getElem h
structure Cok (c : Gl1Cur) : Prop where
 len : c.xb.length ≤ 1048576
 lo : 0 ≤ c.xi
 hi : c.xi ≤ c.xb.length
theorem and255 (a : Int) : 0 ≤ andK .i64 a 255 ∧ andK .i64 a 255 < 256 := by
 have e : andK .i64 a 255 = IntKind.i64.wrap ((BitVec.ofInt 64 a &&& BitVec.ofInt 64 255).toNat : Int) := rfl
 have h : (BitVec.ofInt 64 a &&& BitVec.ofInt 64 255).toNat ≤ 255 := by
  rw [BitVec.toNat_and]; exact Nat.le_trans Nat.and_le_right (by decide)
 rw [e, wrap_eq (by omega) (by omega)]
 omega
theorem Tot.shr {a b : Int} (h : 0 ≤ b) : Tot (shrK .i64 a b) fun _ => True := by
 refine ⟨a.fdiv (2 ^ (min b.toNat IntKind.i64.bits)), ?_, trivial⟩
 unfold shrK
 rw [if_neg (by omega)]
theorem l1Byte_tot (c : Gl1Cur) (h : Cok c) : Tot (spec_l1Byte c) fun r => (0 ≤ r.1 ∧ r.1 < 256) ∧ Cok r.2 := by
 rw [spec_l1Byte]
 refine (Tot.shr (by decide)).bnd fun x _ => (Tot.shr (by decide)).bnd fun y _ => Tot.ite (fun hi => ?_) fun _ => ?_
 ·have hl := ltI_iff.1 hi
  simp only [lenL] at hl
  refine (Tot.getI h.lo hl).bnd fun z _ => Tot.ret ⟨and255 _, h.len, ?_, ?_⟩
  ·show 0 ≤ addI c.xi 1
   have := h.lo; have := h.len
   rw [addI_eq (by omega) (by omega)]; omega
  ·show addI c.xi 1 ≤ c.xb.length
   have := h.lo; have := h.len
   rw [addI_eq (by omega) (by omega)]; omega
 ·exact Tot.ret ⟨and255 _, h.len, h.lo, h.hi⟩
theorem remI_nat {a n : Int} (h0 : 0 ≤ a) (hn : 0 < n) : Tot (remI a n) fun x => 0 ≤ x ∧ x < n := by
 refine ⟨a.tmod n, ?_, Int.tmod_nonneg _ h0, Int.tmod_lt_of_pos _ hn⟩
 unfold remI
 rw [if_neg (by omega)]
theorem l1Below_tot (c : Gl1Cur) (h : Cok c) (n : Int) : Tot (spec_l1Below c n) fun r => 0 ≤ r.1 ∧ (r.1 < n ∨ r.1 = 0) ∧ Cok r.2 := by
 rw [spec_l1Below]
 refine Tot.ite (fun _ => Tot.ret ⟨Int.le_refl _, .inr rfl, h⟩) fun h0 => Tot.ite (fun _ => ?_) fun _ => ?_
 ·have hn : 0 < n := by have := decide_eq_false_iff_not.1 h0; omega
  exact (l1Byte_tot c h).bnd fun r hr => (remI_nat hr.1.1 hn).bnd fun x hx => Tot.ret ⟨hx.1, .inl hx.2, hr.2⟩
 ·have hn : 0 < n := by have := decide_eq_false_iff_not.1 h0; omega
  refine (l1Byte_tot c h).bnd fun r hr => (l1Byte_tot _ hr.2).bnd fun s hs => (l1Byte_tot _ hs.2).bnd fun t ht => ?_
  have e : addI (addI (mulI r.1 65536) (mulI s.1 256)) t.1 = r.1 * 65536 + s.1 * 256 + t.1 := by
   have m1 : mulI r.1 65536 = r.1 * 65536 := wrap_eq (by omega) (by omega)
   have m2 : mulI s.1 256 = s.1 * 256 := wrap_eq (by omega) (by omega)
   rw [m1, m2, show addI (r.1 * 65536) (s.1 * 256) = r.1 * 65536 + s.1 * 256 from addI_eq (by omega) (by omega), addI_eq (by omega) (by omega)]
  rw [e]
  exact (remI_nat (by omega) hn).bnd fun x hx => Tot.ret ⟨hx.1, .inl hx.2, ht.2⟩
theorem l1Once_tot (c : Gl1Cur) (h : Cok c) (n : Int) : Tot (spec_l1Once c n) fun r => Cok r.2 := by
 rw [spec_l1Once]
 exact (l1Below_tot c h n).bnd fun r hr => Tot.ret hr.2.2
theorem l1Str_tot (c : Gl1Cur) (h : Cok c) (l : List ByteArray) (hl : 0 < l.length) : Tot (spec_l1Str c l) fun r => r.1 ∈ l ∧ Cok r.2 := by
 rw [spec_l1Str]
 exact (l1Below_tot c h _).bnd fun r hr => (Tot.getI hr.1 (by have := hr.2.1; simp only [lenL] at this; omega)).bnd fun x hx => Tot.ret ⟨hx.1, hr.2.2⟩
theorem l1New_loop (code : List Int) (hl : code.length ≤ 1048576) : ∀ (m : Nat) (h : Int) (k : Nat), code.length ≤ k + m → Tot (spec_l1New_l8 code h k) Cok := by
 intro m
 induction m with
 | zero =>
  intro h k hk
  rw [spec_l1New_l8, ltI_f (by simp only [lenL]; omega)]
  exact Tot.ret ⟨hl, by show (0 : Int) ≤ 0; omega, by show (0 : Int) ≤ _; omega⟩
 | succ m ih =>
  intro h k hk
  rw [spec_l1New_l8]
  refine Tot.ite (fun hi => Tot.ite (fun _ => ?_) fun _ => ?_) fun _ => ?_
  ·have hlt := ltI_iff.1 hi
   simp only [lenL] at hlt
   refine (Tot.getI (by omega) hlt).bnd fun x _ => ?_
   rw [show addI (k : Int) 1 = ((k + 1 : Nat) : Int) by rw [addI_eq (by omega) (by omega)]; omega]
   exact ih _ _ (by omega)
  ·exact Tot.ret ⟨hl, by show (0 : Int) ≤ 0; omega, by show (0 : Int) ≤ _; omega⟩
  ·exact Tot.ret ⟨hl, by show (0 : Int) ≤ 0; omega, by show (0 : Int) ≤ _; omega⟩
theorem l1New_tot (code : List Int) (hl : code.length ≤ 1048576) : Tot (spec_l1New code) Cok := by
 rw [spec_l1New]
 exact l1New_loop code hl code.length _ 0 (by omega)
end TT
namespace TT
open Go
def Ends {α : Type} (x : Option α) : Prop := ∃ a, x = some a
theorem Ends.ret {α : Type} {a : α} : Ends (some a) := ⟨a, rfl⟩
theorem Ends.bnd {α β : Type} {x : Option α} {f : α → Option β} (h : Ends x) (k : ∀ a, Ends (f a)) : Ends (x >>= f) := by obtain ⟨a, rfl⟩ := h; exact k a
theorem Ends.ite {α : Type} {b : Bool} {x y : Option α} (h1 : b = true → Ends x) (h2 : b = false → Ends y) : Ends (if b then x else y) := by
 cases b
 ·exact h2 rfl
 ·exact h1 rfl
theorem Tot.ends {α : Type} {x : Option α} {P : α → Prop} (h : Tot x P) : Ends x := by obtain ⟨a, e, _⟩ := h; exact ⟨a, e⟩
theorem Ends.tot {α : Type} {x : Option α} (h : Ends x) : Tot x fun _ => True := by obtain ⟨a, e⟩ := h; exact ⟨a, e, trivial⟩
theorem getI_k {α : Type} {l : List α} {k : Nat} {x : α} (h : l[k]? = some x) : getI l (k : Int) = some x := by
 unfold getI; rw [if_pos (by omega)]; simpa using h
theorem add_k {k : Nat} (h : k ≤ 4000000) : addI (k : Int) 1 = ((k + 1 : Nat) : Int) := by rw [addI_eq (by omega) (by omega)]; omega
theorem lt_k {α : Type} {l : List α} {k : Nat} {x : α} (h : l[k]? = some x) : ltI (k : Int) (lenL l) = true := by
 have := (List.getElem?_eq_some_iff.1 h).1
 exact ltI_t (by simp only [lenL]; omega)
theorem prev_k {α : Type} {l : List α} {k : Nat} {x : α} (h : l[k]? = some x) (hk : gtI (k : Int) 0 = true) (hl : l.length ≤ 4000000) : Ends (getI l (subI (k : Int) 1)) := by
 have h1 := (List.getElem?_eq_some_iff.1 h).1
 have h2 := of_decide_eq_true hk
 rw [subI_eq (by omega) (by omega)]
 exact (Tot.getI (l := l) (i := (k : Int) - 1) (by omega) (by omega)).ends
theorem loop_ends {α ρ : Type} (l : List α) (F : Int → Option ρ) (hF : ∀ (k : Nat) x, l[k]? = some x → Ends (F ((k + 1 : Nat) : Int)) → Ends (F (k : Int))) (h0 : Ends (F ((l.length : Nat) : Int))) : ∀ m k : Nat, k ≤ l.length → l.length ≤ k + m → Ends (F (k : Int)) := by
 intro m
 induction m with
 | zero => intro k h1 h2; rw [show k = l.length by omega]; exact h0
 | succ m ih =>
  intro k h1 h2
  by_cases e : k = l.length
  ·rw [e]; exact h0
  ·have hlt : k < l.length := by omega
   exact hF k _ (List.getElem?_eq_getElem hlt) (ih (k + 1) (by omega) (by omega))
theorem loop_ends0 {α ρ : Type} (l : List α) (F : Int → Option ρ) (hF : ∀ (k : Nat) x, l[k]? = some x → Ends (F ((k + 1 : Nat) : Int)) → Ends (F (k : Int))) (h0 : Ends (F ((l.length : Nat) : Int))) : Ends (F 0) := loop_ends l F hF h0 l.length 0 (by omega) (by omega)
theorem end_k {α : Type} (l : List α) : ltI ((l.length : Nat) : Int) (lenL l) = false := ltI_f (by simp only [lenL]; omega)
theorem atS_tot {s : ByteArray} {i : Int} (h0 : 0 ≤ i) (h1 : i < s.size) : Tot (atS s i) fun x => 0 ≤ x ∧ x < 256 := by
 unfold atS
 rw [dif_pos ⟨h0, by omega⟩]
 refine Tot.ret ⟨by omega, ?_⟩
 have := (s[i.toNat]'(by omega)).toNat_lt
 omega
theorem l1In_ends (a b c : Int) : Ends (spec_l1In a b c) := by
 rw [spec_l1In]; exact Ends.ite (fun _ => .ret) fun _ => .ret
theorem l55_tot (s : ByteArray) (hs : s.size ≤ 4000000) (at1 n : Nat) (hn : n ≤ 3) (ha : at1 + n < s.size) (least : Int) : ∀ (m i : Nat) (v : Int), n + 1 ≤ i + m → Tot (spec_SignAt_l55 s at1 n least v i) fun r => r.2.2 = true → r.2.1 = ((at1 + 1 + n : Nat) : Int) := by
 have fin : ∀ (i : Nat) (v : Int), n < i → Tot (spec_SignAt_l55 s at1 n least v i) fun r => r.2.2 = true → r.2.1 = ((at1 + 1 + n : Nat) : Int) := by
  intro i v hi
  rw [spec_SignAt_l55, leI_f (by omega)]
  simp only [Bool.false_eq_true, if_false]
  refine Tot.ite (fun _ => Tot.ret (by simp)) fun _ => Tot.ite (fun _ => Tot.ret (by simp)) fun _ => (l1In_ends v 55296 57343).tot.bnd fun r _ => Tot.ite (fun _ => Tot.ret (by simp)) fun _ => Tot.ret fun _ => ?_
  show addI (addI (at1 : Int) 1) n = _
  rw [add_k (by omega), addI_eq (by omega) (by omega)]; omega
 intro m
 induction m with
 | zero => intro i v hi; exact fin i v (by omega)
 | succ m ih =>
  intro i v hi
  by_cases hin : i ≤ n
  ·rw [spec_SignAt_l55, leI_t (by omega), addI_eq (by omega) (by omega)]
   simp only [if_true]
   refine (atS_tot (by omega) (by omega)).bnd fun x _ => Tot.ite (fun _ => Tot.ret (by simp)) fun _ => Tot.ite (fun _ => Tot.ret (by simp)) fun _ => ?_
   rw [add_k (by omega)]
   exact ih (i + 1) _ (by omega)
  ·exact fin i v (by omega)
theorem j26_tot (s : ByteArray) (hs : s.size ≤ 4000000) (at1 : Nat) (ha : at1 < s.size) (n : Nat) (hn : n ≤ 3) (least v : Int) : Tot (spec_SignAt_j26 s at1 n least v) fun r => r.2.2 = true → ((at1 : Int) < r.2.1 ∧ r.2.1 ≤ s.size) := by
 rw [spec_SignAt_j26]
 refine Tot.ite (fun _ => Tot.ret (by simp)) fun h => ?_
 have h1 : subI (lenS s) 1 = (s.size : Int) - 1 := subI_eq (by simp only [lenS]; omega) (by simp only [lenS]; omega)
 have h2 : subI ((s.size : Int) - 1) n = (s.size : Int) - 1 - n := subI_eq (by omega) (by omega)
 have h3 := of_decide_eq_false h
 rw [h1, h2] at h3
 exact (l55_tot s hs at1 n hn (by omega) least (n + 1) 1 v (by omega)).mono fun r hr hb => by have := hr hb; omega
theorem signAt_tot (s : ByteArray) (hs : s.size ≤ 4000000) (at1 : Nat) (ha : at1 < s.size) : Tot (spec_SignAt s at1) fun r => r.2.2 = true → ((at1 : Int) < r.2.1 ∧ r.2.1 ≤ s.size) := by
 have j32 : ∀ x b, Tot (spec_SignAt_j32 s at1 x b) fun r => r.2.2 = true → ((at1 : Int) < r.2.1 ∧ r.2.1 ≤ s.size) := fun x b => by
  rw [spec_SignAt_j32]
  exact Tot.ite (fun _ => j26_tot s hs at1 ha 2 (by omega) _ _) fun _ => Tot.ite (fun _ => Tot.ite (fun _ => j26_tot s hs at1 ha 3 (by omega) _ _) fun _ => Tot.ret (by simp)) fun _ => Tot.ret (by simp)
 have j28 : ∀ x b, Tot (spec_SignAt_j28 s at1 x b) fun r => r.2.2 = true → ((at1 : Int) < r.2.1 ∧ r.2.1 ≤ s.size) := fun x b => by
  rw [spec_SignAt_j28]
  exact Tot.ite (fun _ => j26_tot s hs at1 ha 1 (by omega) _ _) fun _ => Tot.ite (fun _ => j32 _ _) fun _ => j32 _ _
 rw [spec_SignAt]
 refine Tot.ite (fun _ => Tot.ret (by simp)) fun _ => Tot.ite (fun _ => Tot.ret (by simp)) fun _ => (atS_tot (by omega) (by omega)).bnd fun x _ => Tot.ite (fun _ => Tot.ret fun _ => ?_) fun _ => Tot.ite (fun _ => j28 _ _) fun _ => j28 _ _
 show (at1 : Int) < addI at1 1 ∧ addI at1 1 ≤ _
 rw [add_k (by omega)]; omega
theorem ranges_ends (n : Int) (l : List Int) (hl : l.length ≤ 1000) : Ends (spec_l1Ranges n l) := by
 rw [spec_l1Ranges]
 have key : ∀ (m k : Nat), k ≤ 1002 → l.length ≤ k + m → Ends (spec_l1Ranges_l6 n l k) := by
  intro m
  induction m with
  | zero =>
   intro k h1 h2
   rw [spec_l1Ranges_l6, add_k (by omega), ltI_f (by simp only [lenL]; omega)]; exact .ret
  | succ m ih =>
   intro k h1 h2
   rw [spec_l1Ranges_l6, add_k (by omega)]
   refine Ends.ite (fun h => ?_) fun _ => .ret
   have h3 := ltI_iff.1 h
   simp only [lenL] at h3
   refine (Tot.getI (by omega) (by omega)).ends.bnd fun x => (Tot.getI (by omega) (by omega)).ends.bnd fun y => (l1In_ends _ _ _).bnd fun b => Ends.ite (fun _ => .ret) fun _ => ?_
   rw [show addI (k : Int) 2 = ((k + 2 : Nat) : Int) by rw [addI_eq (by omega) (by omega)]; omega]
   exact ih (k + 2) (by omega) (by omega)
 exact key l.length 0 (by omega) (by omega)
theorem isStart_ends (n : Int) : Ends (spec_IsStart n) := by
 rw [spec_IsStart]; exact (ranges_ends _ _ (by decide)).bnd fun _ => .ret
theorem isPart_ends (n : Int) : Ends (spec_IsPart n) := by
 rw [spec_IsPart]; exact (isStart_ends _).bnd fun _ => Ends.ite (fun _ => .ret) fun _ => (ranges_ends _ _ (by decide)).bnd fun _ => .ret
theorem isSign_ends (n : Int) : Ends (spec_IsSign n) := by
 rw [spec_IsSign]
 exact Ends.ite (fun _ => .ret) fun _ => Ends.ite (fun _ => .ret) fun _ => Ends.ite (fun _ => .ret) fun _ => (l1In_ends _ _ _).bnd fun _ => Ends.ite (fun _ => .ret) fun _ => (l1In_ends _ _ _).bnd fun _ => Ends.ite (fun _ => .ret) fun _ => (l1In_ends _ _ _).bnd fun _ => .ret
theorem signs_ends {ρ : Type} (s : ByteArray) (hs : s.size ≤ 4000000) (F : Int → Option ρ) (hF : ∀ k : Nat, k < s.size → (∀ j : Nat, k < j → j ≤ s.size → Ends (F j)) → Ends (F (k : Int))) (h0 : Ends (F ((s.size : Nat) : Int))) : ∀ m k : Nat, k ≤ s.size → s.size ≤ k + m → Ends (F (k : Int)) := by
 intro m
 induction m with
 | zero => intro k h1 h2; rw [show k = s.size by omega]; exact h0
 | succ m ih =>
  intro k h1 h2
  by_cases e : k = s.size
  ·rw [e]; exact h0
  ·exact hF k (by omega) fun j hj hj2 => ih j hj2 (by omega)
theorem next_nat {a : Int} {k n : Nat} (h : (k : Int) < a ∧ a ≤ n) : ∃ j : Nat, a = j ∧ k < j ∧ j ≤ n := ⟨a.toNat, by omega, by omega, by omega⟩
theorem plain_ends (s : ByteArray) (hs : s.size ≤ 4000000) : Ends (spec_PlainOk s) := by
 rw [spec_PlainOk]
 refine (l1In_ends _ _ _).bnd fun _ => Ends.ite (fun _ => ?_) fun _ => .ret
 refine signs_ends s hs (spec_PlainOk_l14 s) (fun k hk ih => ?_) ?_ s.size 0 (by omega) (by omega)
 ·rw [spec_PlainOk_l14]
  refine Ends.ite (fun _ => ?_) fun _ => .ret
  obtain ⟨r, e, hr⟩ := signAt_tot s hs k hk
  rw [e]
  refine Ends.ite (fun h => ?_) fun _ => .ret
  obtain ⟨j, ej, j1, j2⟩ := next_nat (hr h)
  rw [ej]
  exact Ends.ite (fun _ => (isStart_ends _).bnd fun _ => Ends.ite (fun _ => (isPart_ends _).bnd fun _ => Ends.ite (fun _ => ih j j1 j2) fun _ => .ret) fun _ => .ret) fun _ => (isPart_ends _).bnd fun _ => Ends.ite (fun _ => ih j j1 j2) fun _ => .ret
 ·rw [spec_PlainOk_l14, ltI_f (by simp only [lenS]; omega)]; exact .ret
theorem text_ends (s : ByteArray) (hs : s.size ≤ 4000000) : Ends (spec_TextOk s) := by
 rw [spec_TextOk]
 refine Ends.ite (fun _ => ?_) fun _ => .ret
 rw [spec_l1Signs]
 refine Ends.bnd ?_ fun _ => .ret
 refine signs_ends s hs (spec_l1Signs_l6 s) (fun k hk ih => ?_) ?_ s.size 0 (by omega) (by omega)
 ·rw [spec_l1Signs_l6]
  refine Ends.ite (fun _ => ?_) fun _ => .ret
  obtain ⟨r, e, hr⟩ := signAt_tot s hs k hk
  rw [e]
  refine Ends.ite (fun h => ?_) fun _ => .ret
  obtain ⟨j, ej, j1, j2⟩ := next_nat (hr h)
  rw [ej]
  exact (isSign_ends _).bnd fun _ => Ends.ite (fun _ => ih j j1 j2) fun _ => .ret
 ·rw [spec_l1Signs_l6, ltI_f (by simp only [lenS]; omega)]; exact .ret
theorem subS_ends {s : ByteArray} {l h : Int} (h0 : 0 ≤ l) (h1 : l ≤ h) (h2 : h ≤ s.size) : Ends (subS s l h) := by unfold subS; rw [if_pos ⟨h0, h1, h2⟩]; exact .ret
theorem l4Xml_ends (s : ByteArray) : Ends (spec_l4Xml s) := by
 rw [spec_l4Xml]
 refine Ends.ite (fun h => ?_) fun _ => .ret
 have := of_decide_eq_true h
 simp only [lenS] at this
 exact (subS_ends (by omega) (by omega) (by omega)).bnd fun _ => .ret
theorem l5Pre_ends (s : ByteArray) (hs : s.size ≤ 4000000) : Ends (spec_l5Pre s) := by
 rw [spec_l5Pre]
 exact Ends.ite (fun _ => .ret) fun _ => (plain_ends s hs).bnd fun _ => Ends.ite (fun _ => (l4Xml_ends s).bnd fun _ => .ret) fun _ => .ret
theorem decl_ends (d : GDecl) (hs : d.sz ≤ 4000000) : Ends (spec_DeclOk d) := by
 rw [GDecl.sz_eq] at hs
 have j2 : Ends (spec_DeclOk_j2 d) := by rw [spec_DeclOk_j2]; exact (text_ends _ (by omega)).bnd fun _ => Ends.ite (fun _ => .ret) fun _ => .ret
 rw [spec_DeclOk]
 exact Ends.ite (fun _ => (plain_ends _ (by omega)).bnd fun _ => Ends.ite (fun _ => (l4Xml_ends _).bnd fun _ => Ends.ite (fun _ => .ret) fun _ => Ends.ite (fun _ => .ret) fun _ => j2) fun _ => .ret) fun _ => j2
theorem mem_k {α : Type} {l : List α} {k : Nat} {x : α} (h : l[k]? = some x) : x ∈ l := List.mem_of_getElem? h
theorem len_k {α : Type} {l : List α} {k : Nat} {x : α} (h : l[k]? = some x) : k < l.length := (List.getElem?_eq_some_iff.1 h).1
theorem decls_ends (l : List GDecl) (hl : l.length ≤ 4000000) (hs : ∀ d ∈ l, d.sz ≤ 4000000) : Ends (spec_DeclsOk l) := by
 rw [spec_DeclsOk]
 refine loop_ends0 l (spec_DeclsOk_l6 l) (fun k x hx ih => ?_) ?_
 ·have := len_k hx
  rw [spec_DeclsOk_l6, lt_k hx, getI_k hx, add_k (by omega)]
  exact (decl_ends x (hs x (mem_k hx))).bnd fun _ => Ends.ite (fun _ => Ends.ite (fun h => (prev_k hx h hl).bnd fun _ => Ends.ite (fun _ => .ret) fun _ => ih) fun _ => ih) fun _ => .ret
 ·rw [spec_DeclsOk_l6, end_k]; exact .ret
theorem bare_ends (n : GNode) : Ends (spec_l5Bare n) := by
 rw [spec_l5Bare]
 exact Ends.ite (fun _ => Ends.ite (fun _ => Ends.ite (fun _ => Ends.ite (fun _ => .ret) fun _ => .ret) fun _ => .ret) fun _ => .ret) fun _ => .ret
theorem has_ends (s t : ByteArray) (hs : s.size ≤ 4000000) (ht : 1 ≤ t.size ∧ t.size ≤ 4000000) : Ends (spec_l5Has s t) := by
 rw [spec_l5Has]
 have key : ∀ (m k : Nat), k ≤ s.size → s.size ≤ k + m → Ends (spec_l5Has_l6 s t k) := by
  intro m
  induction m with
  | zero => intro k h1 h2; rw [spec_l5Has_l6, addI_eq (by simp only [lenS]; omega) (by simp only [lenS]; omega), leI_f (by simp only [lenS]; omega)]; exact .ret
  | succ m ih =>
   intro k h1 h2
   rw [spec_l5Has_l6, addI_eq (by simp only [lenS]; omega) (by simp only [lenS]; omega)]
   refine Ends.ite (fun h => ?_) fun _ => .ret
   have h3 := of_decide_eq_true h
   simp only [lenS] at h3
   refine (subS_ends (by omega) (by simp only [lenS]; omega) (by simp only [lenS]; omega)).bnd fun _ => Ends.ite (fun _ => .ret) fun _ => ?_
   rw [add_k (by omega)]
   exact ih (k + 1) (by omega) (by omega)
 exact key s.size 0 (by omega) (by omega)
theorem xml_ends (s : ByteArray) : Ends (spec_l5Xml s) := by
 rw [spec_l5Xml]
 refine Ends.ite (fun _ => .ret) fun h => ?_
 have h3 : s.size = 3 := by simp only [neI, lenS, bne_eq_false_iff_eq] at h; omega
 have a0 : Ends (atS s 0) := (atS_tot (by omega) (by omega)).ends
 have a1 : Ends (atS s 1) := (atS_tot (by omega) (by omega)).ends
 have a2 : Ends (atS s 2) := (atS_tot (by omega) (by omega)).ends
 repeat' first
  | exact Ends.ret
  | refine Ends.ite (fun _ => ?_) fun _ => ?_
  | refine a0.bnd fun _ => ?_
  | refine a1.bnd fun _ => ?_
  | refine a2.bnd fun _ => ?_
theorem blank_ends (n : Int) : Ends (spec_IsBlank n) := by
 rw [spec_IsBlank]
 exact Ends.ite (fun _ => .ret) fun _ => Ends.ite (fun _ => .ret) fun _ => Ends.ite (fun _ => .ret) fun _ => .ret
theorem less_ends (a b : GAttr) : Ends (spec_l5Less a b) := by
 rw [spec_l5Less]; exact Ends.ite (fun _ => .ret) fun _ => Ends.ite (fun _ => .ret) fun _ => .ret
theorem attr_ends (a : GAttr) (hs : a.sz ≤ 4000000) : Ends (spec_l5AttrOk a) := by
 rw [GAttr.sz_eq] at hs
 have j2 : Ends (spec_l5AttrOk_j2 a) := by rw [spec_l5AttrOk_j2]; exact (text_ends _ (by omega)).bnd fun _ => Ends.ite (fun _ => (text_ends _ (by omega)).bnd fun _ => Ends.ite (fun _ => .ret) fun _ => .ret) fun _ => .ret
 rw [spec_l5AttrOk]
 exact (l5Pre_ends _ (by omega)).bnd fun _ => Ends.ite (fun _ => Ends.ite (fun _ => .ret) fun _ => (plain_ends _ (by omega)).bnd fun _ => Ends.ite (fun _ => Ends.ite (fun _ => Ends.ite (fun _ => .ret) fun _ => j2) fun _ => j2) fun _ => .ret) fun _ => .ret
theorem attrs_ends (n : GNode) (hl : n.Attrs.length ≤ 4000000) (hs : ∀ d ∈ n.Attrs, d.sz ≤ 4000000) : Ends (spec_l5One_j9 n) := by
 rw [spec_l5One_j9]
 refine loop_ends0 n.Attrs (fun i => spec_l5One_l21 i n) (fun k x hx ih => ?_) ?_
 ·have := len_k hx
  show Ends (spec_l5One_l21 k n)
  rw [spec_l5One_l21, lt_k hx, getI_k hx, add_k (by omega)]
  exact (attr_ends x (hs x (mem_k hx))).bnd fun _ => Ends.ite (fun _ => Ends.ite (fun h => (prev_k hx h hl).bnd fun _ => (less_ends _ _).bnd fun _ => Ends.ite (fun _ => ih) fun _ => .ret) fun _ => ih) fun _ => .ret
 ·show Ends (spec_l5One_l21 _ n)
  rw [spec_l5One_l21, end_k]; exact .ret
theorem one_ends (n : GNode) (hs : n.sz ≤ 1048576) : Ends (spec_l5One n) := by
 rw [GNode.sz_eq] at hs
 have t1 := text_ends n.Text (by omega)
 have t2 := text_ends n.Uri (by omega)
 have p1 := plain_ends n.Local (by omega)
 have p2 := l5Pre_ends n.Pre (by omega)
 have d1 := decls_ends n.Decls (by omega) (fun d hd => by have := szs_mem GDecl.sz hd; omega)
 have a1 := attrs_ends n (by omega) (fun d hd => by have := szs_mem GAttr.sz hd; omega)
 have b1 := bare_ends n
 have x1 := xml_ends n.Local
 have h1 : Ends (spec_l5Has n.Text (⟨#[45, 45]⟩)) := has_ends n.Text _ (by omega) ⟨by decide, by decide⟩
 have h2 : Ends (spec_l5Has n.Text (⟨#[13]⟩)) := has_ends n.Text _ (by omega) ⟨by decide, by decide⟩
 have h3 : Ends (spec_l5Has n.Text (⟨#[63, 62]⟩)) := has_ends n.Text _ (by omega) ⟨by decide, by decide⟩
 have ne : eqS n.Text (⟨#[]⟩) = false → 1 ≤ n.Text.size := fun h => by
  rcases Nat.eq_zero_or_pos n.Text.size with e | e
  ·exfalso
   have : n.Text = ⟨#[]⟩ := by
    have hh : n.Text.data = #[] := Array.eq_empty_of_size_eq_zero e
    cases hn : n.Text; rw [hn] at hh; simp only at hh; rw [hh]
   rw [this, eqS_self] at h; cases h
  ·exact e
 have f0 : eqS n.Text (⟨#[]⟩) = false → Ends (atS n.Text 0) := fun h => by have := ne h; exact (atS_tot (by omega) (by omega)).ends
 have f1 : eqS n.Text (⟨#[]⟩) = false → Ends (atS n.Text (subI (lenS n.Text) 1)) := fun h => by
  have := ne h
  rw [subI_eq (by simp only [lenS]; omega) (by simp only [lenS]; omega)]
  exact (atS_tot (by simp only [lenS]; omega) (by simp only [lenS]; omega)).ends
 rw [spec_l5One]
 repeat' first
  | exact Ends.ret
  | exact a1
  | refine Ends.ite (fun _ => ?_) fun hq => ?_
  | refine t1.bnd fun _ => ?_
  | refine t2.bnd fun _ => ?_
  | refine p1.bnd fun _ => ?_
  | refine p2.bnd fun _ => ?_
  | refine d1.bnd fun _ => ?_
  | refine b1.bnd fun _ => ?_
  | refine x1.bnd fun _ => ?_
  | refine h1.bnd fun _ => ?_
  | refine h2.bnd fun _ => ?_
  | refine h3.bnd fun _ => ?_
  | refine (blank_ends _).bnd fun _ => ?_
  | refine (f0 (by assumption)).bnd fun _ => ?_
  | refine (f1 (by assumption)).bnd fun _ => ?_
theorem kids_ends (N : Nat) : ∀ (l : List GNode), l.length + szs GNode.sz l ≤ N → N ≤ 1048576 → ∀ deep, Ends (spec_l5Kids l deep) := by
 induction N using Nat.strongRecOn with
 | _ N ih =>
  intro l hl hN deep
  rw [spec_l5Kids]
  refine loop_ends0 l (fun i => spec_l5Kids_l6 l deep i) (fun k x hx hk => ?_) ?_
  ·have h1 := len_k hx
   have h2 := szs_mem GNode.sz (mem_k hx)
   have h3 : x.Kids.length + szs GNode.sz x.Kids < N := by
    have := GNode.sz_eq x
    omega
   have j17 : Ends (spec_l5Kids_j17 l deep k x) := by
    rw [spec_l5Kids_j17, add_k (by omega)]
    exact Ends.ite (fun _ => Ends.ite (fun _ => .ret) fun _ => (ih _ h3 x.Kids (Nat.le_refl _) (by omega) _).bnd fun _ => Ends.ite (fun _ => hk) fun _ => .ret) fun _ => hk
   show Ends (spec_l5Kids_l6 l deep k)
   rw [spec_l5Kids_l6, lt_k hx, getI_k hx]
   exact (one_ends x (by omega)).bnd fun _ => Ends.ite (fun _ => Ends.ite (fun _ => Ends.ite (fun h => (prev_k hx h (by omega)).bnd fun _ => Ends.ite (fun _ => .ret) fun _ => j17) fun _ => j17) fun _ => j17) fun _ => .ret
  ·show Ends (spec_l5Kids_l6 l deep _)
   rw [spec_l5Kids_l6, end_k]; exact .ret
theorem loop_acc {α ρ : Type} (l : List α) (F : Int → Int → Option ρ) (hF : ∀ (k : Nat) x a, l[k]? = some x → (∀ b, Ends (F b ((k + 1 : Nat) : Int))) → Ends (F a (k : Int))) (h0 : ∀ a, Ends (F a ((l.length : Nat) : Int))) : ∀ a, Ends (F a 0) := by
 have key : ∀ (m k : Nat), k ≤ l.length → l.length ≤ k + m → ∀ a, Ends (F a k) := by
  intro m
  induction m with
  | zero => intro k h1 h2 a; rw [show k = l.length by omega]; exact h0 a
  | succ m ih =>
   intro k h1 h2 a
   by_cases e : k = l.length
   ·rw [e]; exact h0 a
   ·exact hF k _ a (List.getElem?_eq_getElem (by omega)) (ih (k + 1) (by omega) (by omega))
 exact key l.length 0 (by omega) (by omega)
theorem count_ends : ∀ n : GNode, n.sz ≤ 1048576 → Ends (spec_CountOf n) := by
 refine GNode.ind' fun n ih hs => ?_
 rw [GNode.sz_eq] at hs
 rw [spec_CountOf]
 refine loop_acc n.Kids (fun a i => spec_CountOf_l8 a i n) (fun k x a hx hk => ?_) (fun a => ?_) _
 ·have := len_k hx
  have h2 := szs_mem GNode.sz (mem_k hx)
  show Ends (spec_CountOf_l8 a k n)
  rw [spec_CountOf_l8, lt_k hx, getI_k hx, add_k (by omega)]
  exact (ih x (mem_k hx) (by omega)).bnd fun _ => hk _
 ·show Ends (spec_CountOf_l8 a _ n)
  rw [spec_CountOf_l8, end_k]; exact .ret
theorem nodeOk_ends (n : GNode) (hs : n.sz ≤ 1048575) : Ends (spec_NodeOk n) := by
 have hz := hs
 rw [GNode.sz_eq] at hz
 rw [spec_NodeOk]
 refine (count_ends n (by omega)).bnd fun _ => Ends.ite (fun _ => .ret) fun _ => Ends.ite (fun _ => (kids_ends 1048576 [n] (by rw [szs_cons]; show 1 + (n.sz + 0) ≤ _; omega) (by omega) _).bnd fun _ => .ret) fun _ => ?_
 refine loop_acc n.Kids (fun a i => spec_NodeOk_l24 a i n) (fun k x a hx hk => ?_) (fun a => ?_) _
 ·have := len_k hx
  have j33 : ∀ b, Ends (spec_NodeOk_j33 b k n) := fun b => by
   rw [spec_NodeOk_j33, getI_k hx, add_k (by omega)]
   exact Ends.ite (fun _ => .ret) fun _ => hk _
  show Ends (spec_NodeOk_l24 a k n)
  rw [spec_NodeOk_l24, lt_k hx, getI_k hx]
  simp only [if_true, some_bnd]
  exact Ends.ite (fun _ => j33 _) fun _ => j33 _
 ·show Ends (spec_NodeOk_l24 a _ n)
  rw [spec_NodeOk_l24, end_k]
  have kk := kids_ends 1048576 n.Kids (by omega) (by omega) 0
  simp only [Bool.false_eq_true, if_false]
  repeat' first
   | exact Ends.ret
   | refine Ends.ite (fun _ => ?_) fun _ => ?_
   | refine kk.bnd fun _ => ?_
theorem space_tot (l : List GDecl) (p : ByteArray) (hl : l.length ≤ 4000000) (B : Nat) (hB : ∀ d ∈ l, d.Uri.size ≤ B) : Tot (spec_SpaceOf l p) fun r => r.1.size ≤ B := by
 rw [spec_SpaceOf]
 have key : ∀ k : Nat, k ≤ l.length → Tot (spec_SpaceOf_l6 l p ((k : Int) - 1)) fun r => r.1.size ≤ B := by
  intro k
  induction k with
  | zero => intro _; rw [spec_SpaceOf_l6, geI_f (by omega)]; exact Tot.ret (Nat.zero_le _)
  | succ k ih =>
   intro hk
   rw [spec_SpaceOf_l6, geI_t (by omega), show ((k + 1 : Nat) : Int) - 1 = (k : Int) by omega]
   refine (Tot.getI (by omega) (by omega)).bnd fun x hx => Tot.ite (fun _ => Tot.ret (hB x hx.1)) fun _ => ?_
   rw [subI_eq (by omega) (by omega)]
   exact ih (by omega)
 rw [subI_eq (by simp only [lenL]; omega) (by simp only [lenL]; omega)]
 exact key l.length (Nat.le_refl _)
theorem space_ends (l : List GDecl) (p : ByteArray) (hl : l.length ≤ 4000000) : Ends (spec_SpaceOf l p) := by
 have : ∃ B, ∀ d ∈ l, d.Uri.size ≤ B := ⟨szs GDecl.sz l, fun d hd => by have := szs_mem GDecl.sz hd; rw [GDecl.sz_eq] at this; omega⟩
 obtain ⟨B, hB⟩ := this
 exact (space_tot l p hl B hB).ends
theorem inner_eq (l m : List GDecl) (hl : l.length + m.length ≤ 4000000) : spec_Inner l m = some (l ++ m) := by
 rw [spec_Inner, room_ok (by omega) (by omega) (by omega), room_ok (by omega) (by omega) (by omega)]; rfl
theorem fits_ends : ∀ n : GNode, n.sz ≤ 1048576 → ∀ l : List GDecl, l.length + n.sz ≤ 4000000 → Ends (spec_FitsIn n l) := by
 refine GNode.ind' fun n ih hs l hl => ?_
 have hz := GNode.sz_eq n
 rw [spec_FitsIn, inner_eq _ _ (by omega)]
 have hlen : (l ++ n.Decls).length ≤ 4000000 := by rw [List.length_append]; omega
 have l45 : Ends (spec_FitsIn_l45 (l ++ n.Decls) 0 n) := by
  refine loop_ends0 n.Kids (fun i => spec_FitsIn_l45 (l ++ n.Decls) i n) (fun k x hx hk => ?_) ?_
  ·have := len_k hx
   have h2 := szs_mem GNode.sz (mem_k hx)
   show Ends (spec_FitsIn_l45 _ k n)
   rw [spec_FitsIn_l45, lt_k hx, getI_k hx, add_k (by omega)]
   exact (ih x (mem_k hx) (by omega) _ (by rw [List.length_append]; have := GNode.sz_eq n; omega)).bnd fun _ => Ends.ite (fun _ => hk) fun _ => .ret
  ·show Ends (spec_FitsIn_l45 _ _ n)
   rw [spec_FitsIn_l45, end_k]; exact .ret
 have j4 : Ends (spec_FitsIn_j4 (l ++ n.Decls) n) := by
  rw [spec_FitsIn_j4]
  refine loop_ends0 n.Attrs (fun i => spec_FitsIn_l22 (l ++ n.Decls) i n) (fun k x hx hk => ?_) ?_
  ·have := len_k hx
   show Ends (spec_FitsIn_l22 _ k n)
   rw [spec_FitsIn_l22, lt_k hx, getI_k hx, add_k (by omega)]
   exact (space_ends _ _ hlen).bnd fun _ => Ends.ite (fun _ => Ends.ite (fun _ => Ends.ite (fun _ => .ret) fun _ => hk) fun _ => .ret) fun _ => hk
  ·show Ends (spec_FitsIn_l22 _ _ n)
   rw [spec_FitsIn_l22, end_k]; exact l45
 rw [some_bnd]
 exact Ends.ite (fun _ => (space_ends _ _ hlen).bnd fun _ => Ends.ite (fun _ => Ends.ite (fun _ => .ret) fun _ => j4) fun _ => .ret) fun _ => j4
theorem treeOk_ends (n : GNode) (hs : n.sz ≤ 1048575) : Ends (spec_TreeOk n) := by
 rw [spec_TreeOk]
 have h1 := nodeOk_ends n hs
 have h2 := fits_ends n (by omega) [] (by show 0 + _ ≤ _; omega)
 repeat' first
  | exact Ends.ret
  | refine Ends.ite (fun _ => ?_) fun _ => ?_
  | refine h1.bnd fun _ => ?_
  | refine h2.bnd fun _ => ?_
end TT
