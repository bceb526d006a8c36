import Derived.Test.YtaeegkjcjlnanaaGreatDoorTP0
import Derived.Test.YtaeegkjcjlnanaaGreatDoorTP1
set_option linter.unusedVariables false
set_option linter.unusedSimpArgs false
namespace TT
open Go
def AT {α : Type} (x : Option α) (P : α → Prop) : Prop := ∃ a, x = some a ∧ P a
theorem AT.ret {α : Type} {a : α} {P : α → Prop} (h : P a) : AT (some a) P := ⟨a, rfl, h⟩
theorem AT.bnd {α β : Type} {x : Option α} {f : α → Option β} {P : α → Prop} {Q : β → Prop} (h : AT x P) (k : ∀ a, P a → AT (f a) Q) : AT (x >>= f) Q := by
 obtain ⟨a, rfl, h⟩ := h
 exact k a h
theorem AT.ite {α : Type} {b : Bool} {x y : Option α} {P : α → Prop} (h1 : b = true → AT x P) (h2 : b = false → AT y P) : AT (if b then x else y) P := by
 cases b
 ·exact h2 rfl
 ·exact h1 rfl
theorem AT.mono {α : Type} {x : Option α} {P Q : α → Prop} (h : AT x P) (hpq : ∀ a, P a → Q a) : AT x Q := by
 obtain ⟨a, e, h⟩ := h
 exact ⟨a, e, hpq a h⟩
theorem AT.room {n byt : Nat} (h : n ≤ 4000000) (hb : 0 < byt := by decide) (hb2 : byt ≤ 1000 := by decide) : AT (room n byt) fun _ => True := ⟨(), DO h hb hb2, trivial⟩
theorem AT.getI {α : Type} {l : List α} {i : Int} (h0 : 0 ≤ i) (h1 : i < l.length) : AT (getI l i) fun x => x ∈ l ∧ l[i.toNat]? = some x := by
 have h : i.toNat < l.length := by omega
 refine ⟨l[i.toNat], ?_, List.getElem_mem h, List.getElem?_eq_getElem h⟩
 unfold TT.getI
 rw [if_pos h0]
 exact List.getElem?_eq_getElem h
structure Fe (c : A2) : Prop where
 len : c.xb.length ≤ 1048576
 lo : 0 ≤ c.xi
 hi : c.xi ≤ c.xb.length
theorem ss (a : Int) : 0 ≤ QD .i64 a 255 ∧ QD .i64 a 255 < 256 := by
 have e : QD .i64 a 255 = IntKind.i64.wrap ((BitVec.ofInt 64 a &&& BitVec.ofInt 64 255).toNat : Int) := rfl
 have h : (BitVec.ofInt 64 a &&& BitVec.ofInt 64 255).toNat ≤ 255 := by
  rw [BitVec.toNat_and]; exact Nat.le_trans Nat.and_le_right (by decide)
 rw [e, Po (by omega) (by omega)]
 omega
theorem AT.shr {a b : Int} (h : 0 ≤ b) : AT (kp .i64 a b) fun _ => True := by
 refine ⟨a.fdiv (2 ^ (min b.toNat IntKind.i64.bits)), ?_, trivial⟩
 unfold kp
 rw [if_neg (by omega)]
theorem Pq (c : A2) (h : Fe c) : AT (FM c) fun r => (0 ≤ r.1 ∧ r.1 < 256) ∧ Fe r.2 := by
 rw [FM]
 refine (AT.shr (by decide)).bnd fun x _ => (AT.shr (by decide)).bnd fun y _ => AT.ite (fun hi => ?_) fun _ => ?_
 ·have hl := YM.1 hi
  simp only [AC] at hl
  refine (AT.getI h.lo hl).bnd fun z _ => AT.ret ⟨ss _, h.len, ?_, ?_⟩
  ·show 0 ≤ AP c.xi 1
   have := h.lo; have := h.len
   rw [Al (by omega) (by omega)]; omega
  ·show AP c.xi 1 ≤ c.xb.length
   have := h.lo; have := h.len
   rw [Al (by omega) (by omega)]; omega
 ·exact AT.ret ⟨ss _, h.len, h.lo, h.hi⟩
theorem jZ {a n : Int} (h0 : 0 ≤ a) (hn : 0 < n) : AT (ko a n) fun x => 0 ≤ x ∧ x < n := by
 refine ⟨a.tmod n, ?_, Int.tmod_nonneg _ h0, Int.tmod_lt_of_pos _ hn⟩
 unfold ko
 rw [if_neg (by omega)]
theorem Ck (c : A2) (h : Fe c) (n : Int) : AT (At c n) fun r => 0 ≤ r.1 ∧ (r.1 < n ∨ r.1 = 0) ∧ Fe r.2 := by
 rw [At]
 refine AT.ite (fun _ => AT.ret ⟨Int.le_refl _, .inr rfl, h⟩) fun h0 => AT.ite (fun _ => ?_) fun _ => ?_
 ·have hn : 0 < n := by have := decide_eq_false_iff_not.1 h0; omega
  exact (Pq c h).bnd fun r hr => (jZ hr.1.1 hn).bnd fun x hx => AT.ret ⟨hx.1, .inl hx.2, hr.2⟩
 ·have hn : 0 < n := by have := decide_eq_false_iff_not.1 h0; omega
  refine (Pq c h).bnd fun r hr => (Pq _ hr.2).bnd fun s hs => (Pq _ hs.2).bnd fun t ht => ?_
  have e : AP (AP (UY r.1 65536) (UY s.1 256)) t.1 = r.1 * 65536 + s.1 * 256 + t.1 := by
   have m1 : UY r.1 65536 = r.1 * 65536 := Po (by omega) (by omega)
   have m2 : UY s.1 256 = s.1 * 256 := Po (by omega) (by omega)
   rw [m1, m2, show AP (r.1 * 65536) (s.1 * 256) = r.1 * 65536 + s.1 * 256 from Al (by omega) (by omega), Al (by omega) (by omega)]
  rw [e]
  exact (jZ (by omega) hn).bnd fun x hx => AT.ret ⟨hx.1, .inl hx.2, ht.2⟩
theorem Ed (c : A2) (h : Fe c) (n : Int) : AT (Bv c n) fun r => Fe r.2 := by
 rw [Bv]
 exact (Ck c h n).bnd fun r hr => AT.ret hr.2.2
theorem B4 (c : A2) (h : Fe c) (l : List ByteArray) (hl : 0 < l.length) : AT (AW c l) fun r => r.1 ∈ l ∧ Fe r.2 := by
 rw [AW]
 exact (Ck c h _).bnd fun r hr => (AT.getI hr.1 (by have := hr.2.1; simp only [AC] at this; omega)).bnd fun x hx => AT.ret ⟨hx.1, hr.2.2⟩
theorem NC (c : A2) (h : Fe c) (l : List Int) (hl : 0 < l.length) : AT (Fb c l) fun r => r.1 ∈ l ∧ Fe r.2 := by
 rw [Fb]
 exact (Ck c h _).bnd fun r hr => (AT.getI hr.1 (by have := hr.2.1; simp only [AC] at this; omega)).bnd fun x hx => AT.ret ⟨hx.1, hr.2.2⟩
theorem mD (code : List Int) (hl : code.length ≤ 1048576) : ∀ (m : Nat) (h : Int) (k : Nat), code.length ≤ k + m → AT (EY code h k) Fe := by
 intro m
 induction m with
 | zero =>
  intro h k hk
  rw [EY, Eg (by simp only [AC]; omega)]
  exact AT.ret ⟨hl, by show (0 : Int) ≤ 0; omega, by show (0 : Int) ≤ _; omega⟩
 | succ m ih =>
  intro h k hk
  rw [EY]
  refine AT.ite (fun hi => AT.ite (fun _ => ?_) fun _ => ?_) fun _ => ?_
  ·have hlt := YM.1 hi
   simp only [AC] at hlt
   refine (AT.getI (by omega) hlt).bnd fun x _ => ?_
   rw [show AP (k : Int) 1 = ((k + 1 : Nat) : Int) by rw [Al (by omega) (by omega)]; omega]
   exact ih _ _ (by omega)
  ·exact AT.ret ⟨hl, by show (0 : Int) ≤ 0; omega, by show (0 : Int) ≤ _; omega⟩
  ·exact AT.ret ⟨hl, by show (0 : Int) ≤ 0; omega, by show (0 : Int) ≤ _; omega⟩
theorem p6 (code : List Int) (hl : code.length ≤ 1048576) : AT (NO code) Fe := by
 rw [NO]
 exact mD code hl code.length _ 0 (by omega)
end TT
namespace TT
open Go
def AH {α : Type} (x : Option α) : Prop := ∃ a, x = some a
theorem AH.ret {α : Type} {a : α} : AH (some a) := ⟨a, rfl⟩
theorem AH.bnd {α β : Type} {x : Option α} {f : α → Option β} (h : AH x) (k : ∀ a, AH (f a)) : AH (x >>= f) := by obtain ⟨a, rfl⟩ := h; exact k a
theorem AH.ite {α : Type} {b : Bool} {x y : Option α} (h1 : b = true → AH x) (h2 : b = false → AH y) : AH (if b then x else y) := by
 cases b
 ·exact h2 rfl
 ·exact h1 rfl
theorem AT.ends {α : Type} {x : Option α} {P : α → Prop} (h : AT x P) : AH x := by obtain ⟨a, e, _⟩ := h; exact ⟨a, e⟩
theorem AH.tot {α : Type} {x : Option α} (h : AH x) : AT x fun _ => True := by obtain ⟨a, e⟩ := h; exact ⟨a, e, trivial⟩
theorem M3 {α : Type} {l : List α} {k : Nat} {x : α} (h : l[k]? = some x) : getI l (k : Int) = some x := by
 unfold getI; rw [if_pos (by omega)]; simpa using h
theorem LU {k : Nat} (h : k ≤ 4000000) : AP (k : Int) 1 = ((k + 1 : Nat) : Int) := by rw [Al (by omega) (by omega)]; omega
theorem Zj {α : Type} {l : List α} {k : Nat} {x : α} (h : l[k]? = some x) : Hz (k : Int) (AC l) = true := by
 have := (List.getElem?_eq_some_iff.1 h).1
 exact O6 (by simp only [AC]; omega)
theorem mE {α : Type} {l : List α} {k : Nat} {x : α} (h : l[k]? = some x) (hk : Np (k : Int) 0 = true) (hl : l.length ≤ 4000000) : AH (getI l (BA (k : Int) 1)) := by
 have h1 := (List.getElem?_eq_some_iff.1 h).1
 have h2 := of_decide_eq_true hk
 rw [BT (by omega) (by omega)]
 exact (AT.getI (l := l) (i := (k : Int) - 1) (by omega) (by omega)).ends
theorem p7 {α ρ : Type} (l : List α) (F : Int → Option ρ) (hF : ∀ (k : Nat) x, l[k]? = some x → AH (F ((k + 1 : Nat) : Int)) → AH (F (k : Int))) (h0 : AH (F ((l.length : Nat) : Int))) : ∀ m k : Nat, k ≤ l.length → l.length ≤ k + m → AH (F (k : Int)) := by
 intro m
 induction m with
 | zero => intro k h1 h2; rw [show k = l.length by omega]; exact h0
 | succ m ih =>
  intro k h1 h2
  by_cases e : k = l.length
  ·rw [e]; exact h0
  ·have hlt : k < l.length := by omega
   exact hF k _ (List.getElem?_eq_getElem hlt) (ih (k + 1) (by omega) (by omega))
theorem Nl {α ρ : Type} (l : List α) (F : Int → Option ρ) (hF : ∀ (k : Nat) x, l[k]? = some x → AH (F ((k + 1 : Nat) : Int)) → AH (F (k : Int))) (h0 : AH (F ((l.length : Nat) : Int))) : AH (F 0) := p7 l F hF h0 l.length 0 (by omega) (by omega)
theorem RR {α : Type} (l : List α) : Hz ((l.length : Nat) : Int) (AC l) = false := Eg (by simp only [AC]; omega)
theorem Pr {s : ByteArray} {i : Int} (h0 : 0 ≤ i) (h1 : i < s.size) : AT (PU s i) fun x => 0 ≤ x ∧ x < 256 := by
 unfold PU
 rw [dif_pos ⟨h0, by omega⟩]
 refine AT.ret ⟨by omega, ?_⟩
 have := (s[i.toNat]'(by omega)).toNat_lt
 omega
theorem ND (a b c : Int) : AH (CW a b c) := by
 rw [CW]; exact AH.ite (fun _ => .ret) fun _ => .ret
theorem we (s : ByteArray) (hs : s.size ≤ 4000000) (at1 n : Nat) (hn : n ≤ 3) (ha : at1 + n < s.size) (least : Int) : ∀ (m i : Nat) (v : Int), n + 1 ≤ i + m → AT (Aa s at1 n least v i) fun r => r.2.2 = true → r.2.1 = ((at1 + 1 + n : Nat) : Int) := by
 have fin : ∀ (i : Nat) (v : Int), n < i → AT (Aa s at1 n least v i) fun r => r.2.2 = true → r.2.1 = ((at1 + 1 + n : Nat) : Int) := by
  intro i v hi
  rw [Aa, XI (by omega)]
  simp only [Bool.false_eq_true, if_false]
  refine AT.ite (fun _ => AT.ret (by simp)) fun _ => AT.ite (fun _ => AT.ret (by simp)) fun _ => (ND v 55296 57343).tot.bnd fun r _ => AT.ite (fun _ => AT.ret (by simp)) fun _ => AT.ret fun _ => ?_
  show AP (AP (at1 : Int) 1) n = _
  rw [LU (by omega), Al (by omega) (by omega)]; omega
 intro m
 induction m with
 | zero => intro i v hi; exact fin i v (by omega)
 | succ m ih =>
  intro i v hi
  by_cases hin : i ≤ n
  ·rw [Aa, TQ (by omega), Al (by omega) (by omega)]
   simp only [if_true]
   refine (Pr (by omega) (by omega)).bnd fun x _ => AT.ite (fun _ => AT.ret (by simp)) fun _ => AT.ite (fun _ => AT.ret (by simp)) fun _ => ?_
   rw [LU (by omega)]
   exact ih (i + 1) _ (by omega)
  ·exact fin i v (by omega)
theorem gi (s : ByteArray) (hs : s.size ≤ 4000000) (at1 : Nat) (ha : at1 < s.size) (n : Nat) (hn : n ≤ 3) (least v : Int) : AT (C6 s at1 n least v) fun r => r.2.2 = true → ((at1 : Int) < r.2.1 ∧ r.2.1 ≤ s.size) := by
 rw [C6]
 refine AT.ite (fun _ => AT.ret (by simp)) fun h => ?_
 have h1 : BA (AS s) 1 = (s.size : Int) - 1 := BT (by simp only [AS]; omega) (by simp only [AS]; omega)
 have h2 : BA ((s.size : Int) - 1) n = (s.size : Int) - 1 - n := BT (by omega) (by omega)
 have h3 := of_decide_eq_false h
 rw [h1, h2] at h3
 exact (we s hs at1 n hn (by omega) least (n + 1) 1 v (by omega)).mono fun r hr hb => by have := hr hb; omega
theorem Zk (s : ByteArray) (hs : s.size ≤ 4000000) (at1 : Nat) (ha : at1 < s.size) : AT (FO s at1) fun r => r.2.2 = true → ((at1 : Int) < r.2.1 ∧ r.2.1 ≤ s.size) := by
 have j32 : ∀ x b, AT (Cb s at1 x b) fun r => r.2.2 = true → ((at1 : Int) < r.2.1 ∧ r.2.1 ≤ s.size) := fun x b => by
  rw [Cb]
  exact AT.ite (fun _ => gi s hs at1 ha 2 (by omega) _ _) fun _ => AT.ite (fun _ => AT.ite (fun _ => gi s hs at1 ha 3 (by omega) _ _) fun _ => AT.ret (by simp)) fun _ => AT.ret (by simp)
 have j28 : ∀ x b, AT (Cc s at1 x b) fun r => r.2.2 = true → ((at1 : Int) < r.2.1 ∧ r.2.1 ≤ s.size) := fun x b => by
  rw [Cc]
  exact AT.ite (fun _ => gi s hs at1 ha 1 (by omega) _ _) fun _ => AT.ite (fun _ => j32 _ _) fun _ => j32 _ _
 rw [FO]
 refine AT.ite (fun _ => AT.ret (by simp)) fun _ => AT.ite (fun _ => AT.ret (by simp)) fun _ => (Pr (by omega) (by omega)).bnd fun x _ => AT.ite (fun _ => AT.ret fun _ => ?_) fun _ => AT.ite (fun _ => j28 _ _) fun _ => j28 _ _
 show (at1 : Int) < AP at1 1 ∧ AP at1 1 ≤ _
 rw [LU (by omega)]; omega
theorem XM (n : Int) (l : List Int) (hl : l.length ≤ 1000) : AH (DU n l) := by
 rw [DU]
 have key : ∀ (m k : Nat), k ≤ 1002 → l.length ≤ k + m → AH (BL n l k) := by
  intro m
  induction m with
  | zero =>
   intro k h1 h2
   rw [BL, LU (by omega), Eg (by simp only [AC]; omega)]; exact .ret
  | succ m ih =>
   intro k h1 h2
   rw [BL, LU (by omega)]
   refine AH.ite (fun h => ?_) fun _ => .ret
   have h3 := YM.1 h
   simp only [AC] at h3
   refine (AT.getI (by omega) (by omega)).ends.bnd fun x => (AT.getI (by omega) (by omega)).ends.bnd fun y => (ND _ _ _).bnd fun b => AH.ite (fun _ => .ret) fun _ => ?_
   rw [show AP (k : Int) 2 = ((k + 2 : Nat) : Int) by rw [Al (by omega) (by omega)]; omega]
   exact ih (k + 2) (by omega) (by omega)
 exact key l.length 0 (by omega) (by omega)
theorem VT (n : Int) : AH (ED n) := by
 rw [ED]; exact (XM _ _ (by decide)).bnd fun _ => .ret
theorem XN (n : Int) : AH (FP n) := by
 rw [FP]; exact (VT _).bnd fun _ => AH.ite (fun _ => .ret) fun _ => (XM _ _ (by decide)).bnd fun _ => .ret
theorem ja (n : Int) : AH (GE n) := by
 rw [GE]
 exact AH.ite (fun _ => .ret) fun _ => AH.ite (fun _ => .ret) fun _ => AH.ite (fun _ => .ret) fun _ => (ND _ _ _).bnd fun _ => AH.ite (fun _ => .ret) fun _ => (ND _ _ _).bnd fun _ => AH.ite (fun _ => .ret) fun _ => (ND _ _ _).bnd fun _ => .ret
theorem Zl {ρ : Type} (s : ByteArray) (hs : s.size ≤ 4000000) (F : Int → Option ρ) (hF : ∀ k : Nat, k < s.size → (∀ j : Nat, k < j → j ≤ s.size → AH (F j)) → AH (F (k : Int))) (h0 : AH (F ((s.size : Nat) : Int))) : ∀ m k : Nat, k ≤ s.size → s.size ≤ k + m → AH (F (k : Int)) := by
 intro m
 induction m with
 | zero => intro k h1 h2; rw [show k = s.size by omega]; exact h0
 | succ m ih =>
  intro k h1 h2
  by_cases e : k = s.size
  ·rw [e]; exact h0
  ·exact hF k (by omega) fun j hj hj2 => ih j hj2 (by omega)
theorem jb {a : Int} {k n : Nat} (h : (k : Int) < a ∧ a ≤ n) : ∃ j : Nat, a = j ∧ k < j ∧ j ≤ n := ⟨a.toNat, by omega, by omega, by omega⟩
theorem Ps (s : ByteArray) (hs : s.size ≤ 4000000) : AH (Bj s) := by
 rw [Bj]
 refine (ND _ _ _).bnd fun _ => AH.ite (fun _ => ?_) fun _ => .ret
 refine Zl s hs (Ag s) (fun k hk ih => ?_) ?_ s.size 0 (by omega) (by omega)
 ·rw [Ag]
  refine AH.ite (fun _ => ?_) fun _ => .ret
  obtain ⟨r, e, hr⟩ := Zk s hs k hk
  rw [e]
  refine AH.ite (fun h => ?_) fun _ => .ret
  obtain ⟨j, ej, j1, j2⟩ := jb (hr h)
  rw [ej]
  exact AH.ite (fun _ => (VT _).bnd fun _ => AH.ite (fun _ => (XN _).bnd fun _ => AH.ite (fun _ => ih j j1 j2) fun _ => .ret) fun _ => .ret) fun _ => (XN _).bnd fun _ => AH.ite (fun _ => ih j j1 j2) fun _ => .ret
 ·rw [Ag, Eg (by simp only [AS]; omega)]; exact .ret
theorem PI (s : ByteArray) (hs : s.size ≤ 4000000) : AH (BN s) := by
 rw [BN]
 refine AH.ite (fun _ => ?_) fun _ => .ret
 rw [Ge]
 refine AH.bnd ?_ fun _ => .ret
 refine Zl s hs (BC s) (fun k hk ih => ?_) ?_ s.size 0 (by omega) (by omega)
 ·rw [BC]
  refine AH.ite (fun _ => ?_) fun _ => .ret
  obtain ⟨r, e, hr⟩ := Zk s hs k hk
  rw [e]
  refine AH.ite (fun h => ?_) fun _ => .ret
  obtain ⟨j, ej, j1, j2⟩ := jb (hr h)
  rw [ej]
  exact (ja _).bnd fun _ => AH.ite (fun _ => ih j j1 j2) fun _ => .ret
 ·rw [BC, Eg (by simp only [AS]; omega)]; exact .ret
theorem dz {s : ByteArray} {l h : Int} (h0 : 0 ≤ l) (h1 : l ≤ h) (h2 : h ≤ s.size) : AH (PV s l h) := by unfold PV; rw [if_pos ⟨h0, h1, h2⟩]; exact .ret
theorem Zm (s : ByteArray) : AH (GD s) := by
 rw [GD]
 refine AH.ite (fun h => ?_) fun _ => .ret
 have := of_decide_eq_true h
 simp only [AS] at this
 exact (dz (by omega) (by omega) (by omega)).bnd fun _ => .ret
theorem Zn (s : ByteArray) (hs : s.size ≤ 4000000) : AH (Dp s) := by
 rw [Dp]
 exact AH.ite (fun _ => .ret) fun _ => (Ps s hs).bnd fun _ => AH.ite (fun _ => (Zm s).bnd fun _ => .ret) fun _ => .ret
theorem p8 (d : A1) (hs : d.sz ≤ 4000000) : AH (GF d) := by
 rw [A1.sz_eq] at hs
 have j2 : AH (Dq d) := by rw [Dq]; exact (PI _ (by omega)).bnd fun _ => AH.ite (fun _ => .ret) fun _ => .ret
 rw [GF]
 exact AH.ite (fun _ => (Ps _ (by omega)).bnd fun _ => AH.ite (fun _ => (Zm _).bnd fun _ => AH.ite (fun _ => .ret) fun _ => AH.ite (fun _ => .ret) fun _ => j2) fun _ => .ret) fun _ => j2
theorem VU {α : Type} {l : List α} {k : Nat} {x : α} (h : l[k]? = some x) : x ∈ l := List.mem_of_getElem? h
theorem TS {α : Type} {l : List α} {k : Nat} {x : α} (h : l[k]? = some x) : k < l.length := (List.getElem?_eq_some_iff.1 h).1
theorem mF (l : List A1) (hl : l.length ≤ 4000000) (hs : ∀ d ∈ l, d.sz ≤ 4000000) : AH (DM l) := by
 rw [DM]
 refine Nl l (BD l) (fun k x hx ih => ?_) ?_
 ·have := TS hx
  rw [BD, Zj hx, M3 hx, LU (by omega)]
  exact (p8 x (hs x (VU hx))).bnd fun _ => AH.ite (fun _ => AH.ite (fun h => (mE hx h hl).bnd fun _ => AH.ite (fun _ => .ret) fun _ => ih) fun _ => ih) fun _ => .ret
 ·rw [BD, RR]; exact .ret
theorem p9 (n : A0) : AH (FQ n) := by
 rw [FQ]
 exact AH.ite (fun _ => AH.ite (fun _ => AH.ite (fun _ => AH.ite (fun _ => .ret) fun _ => .ret) fun _ => .ret) fun _ => .ret) fun _ => .ret
theorem Zo (s t : ByteArray) (hs : s.size ≤ 4000000) (ht : 1 ≤ t.size ∧ t.size ≤ 4000000) : AH (Cw s t) := by
 rw [Cw]
 have key : ∀ (m k : Nat), k ≤ s.size → s.size ≤ k + m → AH (Bg s t k) := by
  intro m
  induction m with
  | zero => intro k h1 h2; rw [Bg, Al (by simp only [AS]; omega) (by simp only [AS]; omega), XI (by simp only [AS]; omega)]; exact .ret
  | succ m ih =>
   intro k h1 h2
   rw [Bg, Al (by simp only [AS]; omega) (by simp only [AS]; omega)]
   refine AH.ite (fun h => ?_) fun _ => .ret
   have h3 := of_decide_eq_true h
   simp only [AS] at h3
   refine (dz (by omega) (by simp only [AS]; omega) (by simp only [AS]; omega)).bnd fun _ => AH.ite (fun _ => .ret) fun _ => ?_
   rw [LU (by omega)]
   exact ih (k + 1) (by omega) (by omega)
 exact key s.size 0 (by omega) (by omega)
theorem sy (s : ByteArray) : AH (Hm s) := by
 rw [Hm]
 refine AH.ite (fun _ => .ret) fun h => ?_
 have h3 : s.size = 3 := by simp only [neI, AS, bne_eq_false_iff_eq] at h; omega
 have a0 : AH (PU s 0) := (Pr (by omega) (by omega)).ends
 have a1 : AH (PU s 1) := (Pr (by omega) (by omega)).ends
 have a2 : AH (PU s 2) := (Pr (by omega) (by omega)).ends
 repeat' first
  | exact AH.ret
  | refine AH.ite (fun _ => ?_) fun _ => ?_
  | refine a0.bnd fun _ => ?_
  | refine a1.bnd fun _ => ?_
  | refine a2.bnd fun _ => ?_
theorem mG (n : Int) : AH (EE n) := by
 rw [EE]
 exact AH.ite (fun _ => .ret) fun _ => AH.ite (fun _ => .ret) fun _ => AH.ite (fun _ => .ret) fun _ => .ret
theorem e9 (a b : A3) : AH (FN a b) := by
 rw [FN]; exact AH.ite (fun _ => .ret) fun _ => AH.ite (fun _ => .ret) fun _ => .ret
theorem pA (a : A3) (hs : a.sz ≤ 4000000) : AH (DV a) := by
 rw [A3.sz_eq] at hs
 have j2 : AH (Cy a) := by rw [Cy]; exact (PI _ (by omega)).bnd fun _ => AH.ite (fun _ => (PI _ (by omega)).bnd fun _ => AH.ite (fun _ => .ret) fun _ => .ret) fun _ => .ret
 rw [DV]
 exact (Zn _ (by omega)).bnd fun _ => AH.ite (fun _ => AH.ite (fun _ => .ret) fun _ => (Ps _ (by omega)).bnd fun _ => AH.ite (fun _ => AH.ite (fun _ => AH.ite (fun _ => .ret) fun _ => j2) fun _ => j2) fun _ => .ret) fun _ => .ret
theorem mH (n : A0) (hl : n.Attrs.length ≤ 4000000) (hs : ∀ d ∈ n.Attrs, d.sz ≤ 4000000) : AH (DW n) := by
 rw [DW]
 refine Nl n.Attrs (fun i => Ay i n) (fun k x hx ih => ?_) ?_
 ·have := TS hx
  show AH (Ay k n)
  rw [Ay, Zj hx, M3 hx, LU (by omega)]
  exact (pA x (hs x (VU hx))).bnd fun _ => AH.ite (fun _ => AH.ite (fun h => (mE hx h hl).bnd fun _ => (e9 _ _).bnd fun _ => AH.ite (fun _ => ih) fun _ => .ret) fun _ => ih) fun _ => .ret
 ·show AH (Ay _ n)
  rw [Ay, RR]; exact .ret
theorem t6 (n : A0) (hs : n.sz ≤ 1048576) : AH (Cz n) := by
 rw [A0.sz_eq] at hs
 have t1 := PI n.Text (by omega)
 have t2 := PI n.Uri (by omega)
 have p1 := Ps n.Local (by omega)
 have p2 := Zn n.Pre (by omega)
 have d1 := mF n.Decls (by omega) (fun d hd => by have := Cp A1.sz hd; omega)
 have a1 := mH n (by omega) (fun d hd => by have := Cp A3.sz hd; omega)
 have b1 := p9 n
 have x1 := sy n.Local
 have h1 : AH (Cw n.Text (⟨#[45, 45]⟩)) := Zo n.Text _ (by omega) ⟨by decide, by decide⟩
 have h2 : AH (Cw n.Text (⟨#[13]⟩)) := Zo n.Text _ (by omega) ⟨by decide, by decide⟩
 have h3 : AH (Cw n.Text (⟨#[63, 62]⟩)) := Zo n.Text _ (by omega) ⟨by decide, by decide⟩
 have ne : D7 n.Text (⟨#[]⟩) = false → 1 ≤ n.Text.size := fun h => by
  rcases Nat.eq_zero_or_pos n.Text.size with e | e
  ·exfalso
   have : n.Text = ⟨#[]⟩ := by
    have hh : n.Text.data = #[] := Array.eq_empty_of_size_eq_zero e
    cases hn : n.Text; rw [hn] at hh; simp only at hh; rw [hh]
   rw [this, Jg] at h; cases h
  ·exact e
 have f0 : D7 n.Text (⟨#[]⟩) = false → AH (PU n.Text 0) := fun h => by have := ne h; exact (Pr (by omega) (by omega)).ends
 have f1 : D7 n.Text (⟨#[]⟩) = false → AH (PU n.Text (BA (AS n.Text) 1)) := fun h => by
  have := ne h
  rw [BT (by simp only [AS]; omega) (by simp only [AS]; omega)]
  exact (Pr (by simp only [AS]; omega) (by simp only [AS]; omega)).ends
 rw [Cz]
 repeat' first
  | exact AH.ret
  | exact a1
  | refine AH.ite (fun _ => ?_) fun hq => ?_
  | refine t1.bnd fun _ => ?_
  | refine t2.bnd fun _ => ?_
  | refine p1.bnd fun _ => ?_
  | refine p2.bnd fun _ => ?_
  | refine d1.bnd fun _ => ?_
  | refine b1.bnd fun _ => ?_
  | refine x1.bnd fun _ => ?_
  | refine h1.bnd fun _ => ?_
  | refine h2.bnd fun _ => ?_
  | refine h3.bnd fun _ => ?_
  | refine (mG _).bnd fun _ => ?_
  | refine (f0 (by assumption)).bnd fun _ => ?_
  | refine (f1 (by assumption)).bnd fun _ => ?_
theorem eA (N : Nat) : ∀ (l : List A0), l.length + szs A0.sz l ≤ N → N ≤ 1048576 → ∀ deep, AH (Bd l deep) := by
 induction N using Nat.strongRecOn with
 | _ N ih =>
  intro l hl hN deep
  rw [Bd]
  refine Nl l (fun i => BE l deep i) (fun k x hx hk => ?_) ?_
  ·have h1 := TS hx
   have h2 := Cp A0.sz (VU hx)
   have h3 : x.Kids.length + szs A0.sz x.Kids < N := by
    have := A0.sz_eq x
    omega
   have j17 : AH (Cd l deep k x) := by
    rw [Cd, LU (by omega)]
    exact AH.ite (fun _ => AH.ite (fun _ => .ret) fun _ => (ih _ h3 x.Kids (Nat.le_refl _) (by omega) _).bnd fun _ => AH.ite (fun _ => hk) fun _ => .ret) fun _ => hk
   show AH (BE l deep k)
   rw [BE, Zj hx, M3 hx]
   exact (t6 x (by omega)).bnd fun _ => AH.ite (fun _ => AH.ite (fun _ => AH.ite (fun h => (mE hx h (by omega)).bnd fun _ => AH.ite (fun _ => .ret) fun _ => j17) fun _ => j17) fun _ => j17) fun _ => .ret
  ·show AH (BE l deep _)
   rw [BE, RR]; exact .ret
theorem jc {α ρ : Type} (l : List α) (F : Int → Int → Option ρ) (hF : ∀ (k : Nat) x a, l[k]? = some x → (∀ b, AH (F b ((k + 1 : Nat) : Int))) → AH (F a (k : Int))) (h0 : ∀ a, AH (F a ((l.length : Nat) : Int))) : ∀ a, AH (F a 0) := by
 have key : ∀ (m k : Nat), k ≤ l.length → l.length ≤ k + m → ∀ a, AH (F a k) := by
  intro m
  induction m with
  | zero => intro k h1 h2 a; rw [show k = l.length by omega]; exact h0 a
  | succ m ih =>
   intro k h1 h2 a
   by_cases e : k = l.length
   ·rw [e]; exact h0 a
   ·exact hF k _ a (List.getElem?_eq_getElem (by omega)) (ih (k + 1) (by omega) (by omega))
 exact key l.length 0 (by omega) (by omega)
theorem mI : ∀ n : A0, n.sz ≤ 1048576 → AH (C5 n) := by
 refine A0.ind' fun n ih hs => ?_
 rw [A0.sz_eq] at hs
 rw [C5]
 refine jc n.Kids (fun a i => BB a i n) (fun k x a hx hk => ?_) (fun a => ?_) _
 ·have := TS hx
  have h2 := Cp A0.sz (VU hx)
  show AH (BB a k n)
  rw [BB, Zj hx, M3 hx, LU (by omega)]
  exact (ih x (VU hx) (by omega)).bnd fun _ => hk _
 ·show AH (BB a _ n)
  rw [BB, RR]; exact .ret
theorem jd (n : A0) (hs : n.sz ≤ 1048575) : AH (DX n) := by
 have hz := hs
 rw [A0.sz_eq] at hz
 rw [DX]
 refine (mI n (by omega)).bnd fun _ => AH.ite (fun _ => .ret) fun _ => AH.ite (fun _ => (eA 1048576 [n] (by rw [FI]; show 1 + (n.sz + 0) ≤ _; omega) (by omega) _).bnd fun _ => .ret) fun _ => ?_
 refine jc n.Kids (fun a i => Ab a i n) (fun k x a hx hk => ?_) (fun a => ?_) _
 ·have := TS hx
  have j33 : ∀ b, AH (Ce b k n) := fun b => by
   rw [Ce, M3 hx, LU (by omega)]
   exact AH.ite (fun _ => .ret) fun _ => hk _
  show AH (Ab a k n)
  rw [Ab, Zj hx, M3 hx]
  simp only [if_true, A5]
  exact AH.ite (fun _ => j33 _) fun _ => j33 _
 ·show AH (Ab a _ n)
  rw [Ab, RR]
  have kk := eA 1048576 n.Kids (by omega) (by omega) 0
  simp only [Bool.false_eq_true, if_false]
  repeat' first
   | exact AH.ret
   | refine AH.ite (fun _ => ?_) fun _ => ?_
   | refine kk.bnd fun _ => ?_
theorem eB (l : List A1) (p : ByteArray) (hl : l.length ≤ 4000000) (B : Nat) (hB : ∀ d ∈ l, d.Uri.size ≤ B) : AT (Bi l p) fun r => r.1.size ≤ B := by
 rw [Bi]
 have key : ∀ k : Nat, k ≤ l.length → AT (Be l p ((k : Int) - 1)) fun r => r.1.size ≤ B := by
  intro k
  induction k with
  | zero => intro _; rw [Be, QA (by omega)]; exact AT.ret (Nat.zero_le _)
  | succ k ih =>
   intro hk
   rw [Be, Q9 (by omega), show ((k + 1 : Nat) : Int) - 1 = (k : Int) by omega]
   refine (AT.getI (by omega) (by omega)).bnd fun x hx => AT.ite (fun _ => AT.ret (hB x hx.1)) fun _ => ?_
   rw [BT (by omega) (by omega)]
   exact ih (by omega)
 rw [BT (by simp only [AC]; omega) (by simp only [AC]; omega)]
 exact key l.length (Nat.le_refl _)
theorem Zp (l : List A1) (p : ByteArray) (hl : l.length ≤ 4000000) : AH (Bi l p) := by
 have : ∃ B, ∀ d ∈ l, d.Uri.size ≤ B := ⟨szs A1.sz l, fun d hd => by have := Cp A1.sz hd; rw [A1.sz_eq] at this; omega⟩
 obtain ⟨B, hB⟩ := this
 exact (eB l p hl B hB).ends
theorem je (l m : List A1) (hl : l.length + m.length ≤ 4000000) : GC l m = some (l ++ m) := by
 rw [GC, DO (by omega) (by omega) (by omega), DO (by omega) (by omega) (by omega)]; rfl
theorem pC : ∀ n : A0, n.sz ≤ 1048576 → ∀ l : List A1, l.length + n.sz ≤ 4000000 → AH (Cf n l) := by
 refine A0.ind' fun n ih hs l hl => ?_
 have hz := A0.sz_eq n
 rw [Cf, je _ _ (by omega)]
 have hlen : (l ++ n.Decls).length ≤ 4000000 := by rw [List.length_append]; omega
 have l45 : AH (Ap (l ++ n.Decls) 0 n) := by
  refine Nl n.Kids (fun i => Ap (l ++ n.Decls) i n) (fun k x hx hk => ?_) ?_
  ·have := TS hx
   have h2 := Cp A0.sz (VU hx)
   show AH (Ap _ k n)
   rw [Ap, Zj hx, M3 hx, LU (by omega)]
   exact (ih x (VU hx) (by omega) _ (by rw [List.length_append]; have := A0.sz_eq n; omega)).bnd fun _ => AH.ite (fun _ => hk) fun _ => .ret
  ·show AH (Ap _ _ n)
   rw [Ap, RR]; exact .ret
 have j4 : AH (Dr (l ++ n.Decls) n) := by
  rw [Dr]
  refine Nl n.Attrs (fun i => Au (l ++ n.Decls) i n) (fun k x hx hk => ?_) ?_
  ·have := TS hx
   show AH (Au _ k n)
   rw [Au, Zj hx, M3 hx, LU (by omega)]
   exact (Zp _ _ hlen).bnd fun _ => AH.ite (fun _ => AH.ite (fun _ => AH.ite (fun _ => .ret) fun _ => hk) fun _ => .ret) fun _ => hk
  ·show AH (Au _ _ n)
   rw [Au, RR]; exact l45
 rw [A5]
 exact AH.ite (fun _ => (Zp _ _ hlen).bnd fun _ => AH.ite (fun _ => AH.ite (fun _ => .ret) fun _ => j4) fun _ => .ret) fun _ => j4
theorem jf (n : A0) (hs : n.sz ≤ 1048575) : AH (D4 n) := by
 rw [D4]
 have h1 := jd n hs
 have h2 := pC n (by omega) [] (by show 0 + _ ≤ _; omega)
 repeat' first
  | exact AH.ret
  | refine AH.ite (fun _ => ?_) fun _ => ?_
  | refine h1.bnd fun _ => ?_
  | refine h2.bnd fun _ => ?_
end TT
