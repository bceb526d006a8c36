import Derived.Test.YtaeegkjcjlnanaaGreatDoorTP0
import Derived.Test.YtaeegkjcjlnanaaGreatDoorTP1
set_option linter.unusedVariables false
set_option linter.unusedSimpArgs false
namespace TT
open Go
def AQ {α : Type} (x : Option α) (P : α → Prop) : Prop := ∃ a, x = some a ∧ P a
theorem AQ.ret {α : Type} {a : α} {P : α → Prop} (h : P a) : AQ (some a) P := ⟨a, rfl, h⟩
theorem AQ.bnd {α β : Type} {x : Option α} {f : α → Option β} {P : α → Prop} {Q : β → Prop} (h : AQ x P) (k : ∀ a, P a → AQ (f a) Q) : AQ (x >>= f) Q := by
 obtain ⟨a, rfl, h⟩ := h
 exact k a h
theorem AQ.ite {α : Type} {b : Bool} {x y : Option α} {P : α → Prop} (h1 : b = true → AQ x P) (h2 : b = false → AQ y P) : AQ (if b then x else y) P := by
 cases b
 ·exact h2 rfl
 ·exact h1 rfl
theorem AQ.mono {α : Type} {x : Option α} {P Q : α → Prop} (h : AQ x P) (hpq : ∀ a, P a → Q a) : AQ x Q := by
 obtain ⟨a, e, h⟩ := h
 exact ⟨a, e, hpq a h⟩
theorem AQ.room {n byt : Nat} (h : n ≤ 4000000) (hb : 0 < byt := by decide) (hb2 : byt ≤ 1000 := by decide) : AQ (room n byt) fun _ => True := ⟨(), DX h hb hb2, trivial⟩
theorem AQ.getI {α : Type} {l : List α} {i : Int} (h0 : 0 ≤ i) (h1 : i < l.length) : AQ (getI l i) fun x => x ∈ l ∧ l[i.toNat]? = some x := by
 have h : i.toNat < l.length := by omega
 refine ⟨l[i.toNat], ?_, List.getElem_mem h, List.getElem?_eq_getElem h⟩
 unfold TT.getI
 rw [if_pos h0]
 exact List.getElem?_eq_getElem h
structure FV (c : A2) : Prop where
 len : c.xb.length ≤ 1048576
 lo : 0 ≤ c.xi
 hi : c.xi ≤ c.xb.length
theorem tW (a : Int) : 0 ≤ Qf .i64 a 255 ∧ Qf .i64 a 255 < 256 := by
 have e : Qf .i64 a 255 = IntKind.i64.wrap ((BitVec.ofInt 64 a &&& BitVec.ofInt 64 255).toNat : Int) := rfl
 have h : (BitVec.ofInt 64 a &&& BitVec.ofInt 64 255).toNat ≤ 255 := by
  rw [BitVec.toNat_and]; exact Nat.le_trans Nat.and_le_right (by decide)
 rw [e, QH (by omega) (by omega)]
 omega
theorem AQ.shr {a b : Int} (h : 0 ≤ b) : AQ (lX .i64 a b) fun _ => True := by
 refine ⟨a.fdiv (2 ^ (min b.toNat IntKind.i64.bits)), ?_, trivial⟩
 unfold lX
 rw [if_neg (by omega)]
theorem QI (c : A2) (h : FV c) : AQ (FX c) fun r => (0 ≤ r.1 ∧ r.1 < 256) ∧ FV r.2 := by
 rw [FX]
 refine (AQ.shr (by decide)).bnd fun x _ => (AQ.shr (by decide)).bnd fun y _ => AQ.ite (fun hi => ?_) fun _ => ?_
 ·have hl := Yz.1 hi
  simp only [A8] at hl
  refine (AQ.getI h.lo hl).bnd fun z _ => AQ.ret ⟨tW _, h.len, ?_, ?_⟩
  ·show 0 ≤ AY c.xi 1
   have := h.lo; have := h.len
   rw [Af (by omega) (by omega)]; omega
  ·show AY c.xi 1 ≤ c.xb.length
   have := h.lo; have := h.len
   rw [Af (by omega) (by omega)]; omega
 ·exact AQ.ret ⟨tW _, h.len, h.lo, h.hi⟩
theorem k9 {a n : Int} (h0 : 0 ≤ a) (hn : 0 < n) : AQ (lW a n) fun x => 0 ≤ x ∧ x < n := by
 refine ⟨a.tmod n, ?_, Int.tmod_nonneg _ h0, Int.tmod_lt_of_pos _ hn⟩
 unfold lW
 rw [if_neg (by omega)]
theorem C1 (c : A2) (h : FV c) (n : Int) : AQ (Ap c n) fun r => 0 ≤ r.1 ∧ (r.1 < n ∨ r.1 = 0) ∧ FV r.2 := by
 rw [Ap]
 refine AQ.ite (fun _ => AQ.ret ⟨Int.le_refl _, .inr rfl, h⟩) fun h0 => AQ.ite (fun _ => ?_) fun _ => ?_
 ·have hn : 0 < n := by have := decide_eq_false_iff_not.1 h0; omega
  exact (QI c h).bnd fun r hr => (k9 hr.1.1 hn).bnd fun x hx => AQ.ret ⟨hx.1, .inl hx.2, hr.2⟩
 ·have hn : 0 < n := by have := decide_eq_false_iff_not.1 h0; omega
  refine (QI c h).bnd fun r hr => (QI _ hr.2).bnd fun s hs => (QI _ hs.2).bnd fun t ht => ?_
  have e : AY (AY (Uz r.1 65536) (Uz s.1 256)) t.1 = r.1 * 65536 + s.1 * 256 + t.1 := by
   have m1 : Uz r.1 65536 = r.1 * 65536 := QH (by omega) (by omega)
   have m2 : Uz s.1 256 = s.1 * 256 := QH (by omega) (by omega)
   rw [m1, m2, show AY (r.1 * 65536) (s.1 * 256) = r.1 * 65536 + s.1 * 256 from Af (by omega) (by omega), Af (by omega) (by omega)]
  rw [e]
  exact (k9 (by omega) hn).bnd fun x hx => AQ.ret ⟨hx.1, .inl hx.2, ht.2⟩
theorem E9 (c : A2) (h : FV c) (n : Int) : AQ (Bd c n) fun r => FV r.2 := by
 rw [Bd]
 exact (C1 c h n).bnd fun r hr => AQ.ret hr.2.2
theorem As (c : A2) (h : FV c) (l : List ByteArray) (hl : 0 < l.length) : AQ (AS c l) fun r => r.1 ∈ l ∧ FV r.2 := by
 rw [AS]
 exact (C1 c h _).bnd fun r hr => (AQ.getI hr.1 (by have := hr.2.1; simp only [A8] at this; omega)).bnd fun x hx => AQ.ret ⟨hx.1, hr.2.2⟩
theorem Pj (c : A2) (h : FV c) (l : List Int) (hl : 0 < l.length) : AQ (GV c l) fun r => r.1 ∈ l ∧ FV r.2 := by
 rw [GV]
 exact (C1 c h _).bnd fun r hr => (AQ.getI hr.1 (by have := hr.2.1; simp only [A8] at this; omega)).bnd fun x hx => AQ.ret ⟨hx.1, hr.2.2⟩
theorem mn (code : List Int) (hl : code.length ≤ 1048576) : ∀ (m : Nat) (h : Int) (k : Nat), code.length ≤ k + m → AQ (Em code h k) FV := by
 intro m
 induction m with
 | zero =>
  intro h k hk
  rw [Em, Fd (by simp only [A8]; omega)]
  exact AQ.ret ⟨hl, by show (0 : Int) ≤ 0; omega, by show (0 : Int) ≤ _; omega⟩
 | succ m ih =>
  intro h k hk
  rw [Em]
  refine AQ.ite (fun hi => AQ.ite (fun _ => ?_) fun _ => ?_) fun _ => ?_
  ·have hlt := Yz.1 hi
   simp only [A8] at hlt
   refine (AQ.getI (by omega) hlt).bnd fun x _ => ?_
   rw [show AY (k : Int) 1 = ((k + 1 : Nat) : Int) by rw [Af (by omega) (by omega)]; omega]
   exact ih _ _ (by omega)
  ·exact AQ.ret ⟨hl, by show (0 : Int) ≤ 0; omega, by show (0 : Int) ≤ _; omega⟩
  ·exact AQ.ret ⟨hl, by show (0 : Int) ≤ 0; omega, by show (0 : Int) ≤ _; omega⟩
theorem pT (code : List Int) (hl : code.length ≤ 1048576) : AQ (Nd code) FV := by
 rw [Nd]
 exact mn code hl code.length _ 0 (by omega)
end TT
namespace TT
open Go
def AG {α : Type} (x : Option α) : Prop := ∃ a, x = some a
theorem AG.ret {α : Type} {a : α} : AG (some a) := ⟨a, rfl⟩
theorem AG.bnd {α β : Type} {x : Option α} {f : α → Option β} (h : AG x) (k : ∀ a, AG (f a)) : AG (x >>= f) := by obtain ⟨a, rfl⟩ := h; exact k a
theorem AG.ite {α : Type} {b : Bool} {x y : Option α} (h1 : b = true → AG x) (h2 : b = false → AG y) : AG (if b then x else y) := by
 cases b
 ·exact h2 rfl
 ·exact h1 rfl
theorem AQ.ends {α : Type} {x : Option α} {P : α → Prop} (h : AQ x P) : AG x := by obtain ⟨a, e, _⟩ := h; exact ⟨a, e⟩
theorem AG.tot {α : Type} {x : Option α} (h : AG x) : AQ x fun _ => True := by obtain ⟨a, e⟩ := h; exact ⟨a, e, trivial⟩
theorem Ge {α : Type} {l : List α} {k : Nat} {x : α} (h : l[k]? = some x) : getI l (k : Int) = some x := by
 unfold getI; rw [if_pos (by omega)]; simpa using h
theorem Jv {k : Nat} (h : k ≤ 4000000) : AY (k : Int) 1 = ((k + 1 : Nat) : Int) := by rw [Af (by omega) (by omega)]; omega
theorem X1 {α : Type} {l : List α} {k : Nat} {x : α} (h : l[k]? = some x) : Jw (k : Int) (A8 l) = true := by
 have := (List.getElem?_eq_some_iff.1 h).1
 exact Qb (by simp only [A8]; omega)
theorem mo {α : Type} {l : List α} {k : Nat} {x : α} (h : l[k]? = some x) (hk : NN (k : Int) 0 = true) (hl : l.length ≤ 4000000) : AG (getI l (BE (k : Int) 1)) := by
 have h1 := (List.getElem?_eq_some_iff.1 h).1
 have h2 := of_decide_eq_true hk
 rw [Bw (by omega) (by omega)]
 exact (AQ.getI (l := l) (i := (k : Int) - 1) (by omega) (by omega)).ends
theorem pU {α ρ : Type} (l : List α) (F : Int → Option ρ) (hF : ∀ (k : Nat) x, l[k]? = some x → AG (F ((k + 1 : Nat) : Int)) → AG (F (k : Int))) (h0 : AG (F ((l.length : Nat) : Int))) : ∀ m k : Nat, k ≤ l.length → l.length ≤ k + m → AG (F (k : Int)) := by
 intro m
 induction m with
 | zero => intro k h1 h2; rw [show k = l.length by omega]; exact h0
 | succ m ih =>
  intro k h1 h2
  by_cases e : k = l.length
  ·rw [e]; exact h0
  ·have hlt : k < l.length := by omega
   exact hF k _ (List.getElem?_eq_getElem hlt) (ih (k + 1) (by omega) (by omega))
theorem O6 {α ρ : Type} (l : List α) (F : Int → Option ρ) (hF : ∀ (k : Nat) x, l[k]? = some x → AG (F ((k + 1 : Nat) : Int)) → AG (F (k : Int))) (h0 : AG (F ((l.length : Nat) : Int))) : AG (F 0) := pU l F hF h0 l.length 0 (by omega) (by omega)
theorem Qd {α : Type} (l : List α) : Jw ((l.length : Nat) : Int) (A8 l) = false := Fd (by simp only [A8]; omega)
theorem QJ {s : ByteArray} {i : Int} (h0 : 0 ≤ i) (h1 : i < s.size) : AQ (Q1 s i) fun x => 0 ≤ x ∧ x < 256 := by
 unfold Q1
 rw [dif_pos ⟨h0, by omega⟩]
 refine AQ.ret ⟨by omega, ?_⟩
 have := (s[i.toNat]'(by omega)).toNat_lt
 omega
theorem NP (a b c : Int) : AG (Cb a b c) := by
 rw [Cb]; exact AG.ite (fun _ => .ret) fun _ => .ret
theorem xC (s : ByteArray) (hs : s.size ≤ 4000000) (at1 n : Nat) (hn : n ≤ 3) (ha : at1 + n < s.size) (least : Int) : ∀ (m i : Nat) (v : Int), n + 1 ≤ i + m → AQ (Ac s at1 n least v i) fun r => r.2.2 = true → r.2.1 = ((at1 + 1 + n : Nat) : Int) := by
 have fin : ∀ (i : Nat) (v : Int), n < i → AQ (Ac s at1 n least v i) fun r => r.2.2 = true → r.2.1 = ((at1 + 1 + n : Nat) : Int) := by
  intro i v hi
  rw [Ac, Xk (by omega)]
  simp only [Bool.false_eq_true, if_false]
  refine AQ.ite (fun _ => AQ.ret (by simp)) fun _ => AQ.ite (fun _ => AQ.ret (by simp)) fun _ => (NP v 55296 57343).tot.bnd fun r _ => AQ.ite (fun _ => AQ.ret (by simp)) fun _ => AQ.ret fun _ => ?_
  show AY (AY (at1 : Int) 1) n = _
  rw [Jv (by omega), Af (by omega) (by omega)]; omega
 intro m
 induction m with
 | zero => intro i v hi; exact fin i v (by omega)
 | succ m ih =>
  intro i v hi
  by_cases hin : i ≤ n
  ·rw [Ac, Tp (by omega), Af (by omega) (by omega)]
   simp only [if_true]
   refine (QJ (by omega) (by omega)).bnd fun x _ => AQ.ite (fun _ => AQ.ret (by simp)) fun _ => AQ.ite (fun _ => AQ.ret (by simp)) fun _ => ?_
   rw [Jv (by omega)]
   exact ih (i + 1) _ (by omega)
  ·exact fin i v (by omega)
theorem iF (s : ByteArray) (hs : s.size ≤ 4000000) (at1 : Nat) (ha : at1 < s.size) (n : Nat) (hn : n ≤ 3) (least v : Int) : AQ (C8 s at1 n least v) fun r => r.2.2 = true → ((at1 : Int) < r.2.1 ∧ r.2.1 ≤ s.size) := by
 rw [C8]
 refine AQ.ite (fun _ => AQ.ret (by simp)) fun h => ?_
 have h1 : BE (AU s) 1 = (s.size : Int) - 1 := Bw (by simp only [AU]; omega) (by simp only [AU]; omega)
 have h2 : BE ((s.size : Int) - 1) n = (s.size : Int) - 1 - n := Bw (by omega) (by omega)
 have h3 := of_decide_eq_false h
 rw [h1, h2] at h3
 exact (xC s hs at1 n hn (by omega) least (n + 1) 1 v (by omega)).mono fun r hr hb => by have := hr hb; omega
theorem aQ (s : ByteArray) (hs : s.size ≤ 4000000) (at1 : Nat) (ha : at1 < s.size) : AQ (FZ s at1) fun r => r.2.2 = true → ((at1 : Int) < r.2.1 ∧ r.2.1 ≤ s.size) := by
 have j32 : ∀ x b, AQ (Ch s at1 x b) fun r => r.2.2 = true → ((at1 : Int) < r.2.1 ∧ r.2.1 ≤ s.size) := fun x b => by
  rw [Ch]
  exact AQ.ite (fun _ => iF s hs at1 ha 2 (by omega) _ _) fun _ => AQ.ite (fun _ => AQ.ite (fun _ => iF s hs at1 ha 3 (by omega) _ _) fun _ => AQ.ret (by simp)) fun _ => AQ.ret (by simp)
 have j28 : ∀ x b, AQ (Ci s at1 x b) fun r => r.2.2 = true → ((at1 : Int) < r.2.1 ∧ r.2.1 ≤ s.size) := fun x b => by
  rw [Ci]
  exact AQ.ite (fun _ => iF s hs at1 ha 1 (by omega) _ _) fun _ => AQ.ite (fun _ => j32 _ _) fun _ => j32 _ _
 rw [FZ]
 refine AQ.ite (fun _ => AQ.ret (by simp)) fun _ => AQ.ite (fun _ => AQ.ret (by simp)) fun _ => (QJ (by omega) (by omega)).bnd fun x _ => AQ.ite (fun _ => AQ.ret fun _ => ?_) fun _ => AQ.ite (fun _ => j28 _ _) fun _ => j28 _ _
 show (at1 : Int) < AY at1 1 ∧ AY at1 1 ≤ _
 rw [Jv (by omega)]; omega
theorem Xn (n : Int) (l : List Int) (hl : l.length ≤ 1000) : AG (Dd n l) := by
 rw [Dd]
 have key : ∀ (m k : Nat), k ≤ 1002 → l.length ≤ k + m → AG (BM n l k) := by
  intro m
  induction m with
  | zero =>
   intro k h1 h2
   rw [BM, Jv (by omega), Fd (by simp only [A8]; omega)]; exact .ret
  | succ m ih =>
   intro k h1 h2
   rw [BM, Jv (by omega)]
   refine AG.ite (fun h => ?_) fun _ => .ret
   have h3 := Yz.1 h
   simp only [A8] at h3
   refine (AQ.getI (by omega) (by omega)).ends.bnd fun x => (AQ.getI (by omega) (by omega)).ends.bnd fun y => (NP _ _ _).bnd fun b => AG.ite (fun _ => .ret) fun _ => ?_
   rw [show AY (k : Int) 2 = ((k + 2 : Nat) : Int) by rw [Af (by omega) (by omega)]; omega]
   exact ih (k + 2) (by omega) (by omega)
 exact key l.length 0 (by omega) (by omega)
theorem Vn (n : Int) : AG (ER n) := by
 rw [ER]; exact (Xn _ _ (by decide)).bnd fun _ => .ret
theorem Xo (n : Int) : AG (Fa n) := by
 rw [Fa]; exact (Vn _).bnd fun _ => AG.ite (fun _ => .ret) fun _ => (Xn _ _ (by decide)).bnd fun _ => .ret
theorem kA (n : Int) : AG (GS n) := by
 rw [GS]
 exact AG.ite (fun _ => .ret) fun _ => AG.ite (fun _ => .ret) fun _ => AG.ite (fun _ => .ret) fun _ => (NP _ _ _).bnd fun _ => AG.ite (fun _ => .ret) fun _ => (NP _ _ _).bnd fun _ => AG.ite (fun _ => .ret) fun _ => (NP _ _ _).bnd fun _ => .ret
theorem aR {ρ : Type} (s : ByteArray) (hs : s.size ≤ 4000000) (F : Int → Option ρ) (hF : ∀ k : Nat, k < s.size → (∀ j : Nat, k < j → j ≤ s.size → AG (F j)) → AG (F (k : Int))) (h0 : AG (F ((s.size : Nat) : Int))) : ∀ m k : Nat, k ≤ s.size → s.size ≤ k + m → AG (F (k : Int)) := by
 intro m
 induction m with
 | zero => intro k h1 h2; rw [show k = s.size by omega]; exact h0
 | succ m ih =>
  intro k h1 h2
  by_cases e : k = s.size
  ·rw [e]; exact h0
  ·exact hF k (by omega) fun j hj hj2 => ih j hj2 (by omega)
theorem kB {a : Int} {k n : Nat} (h : (k : Int) < a ∧ a ≤ n) : ∃ j : Nat, a = j ∧ k < j ∧ j ≤ n := ⟨a.toNat, by omega, by omega, by omega⟩
theorem QK (s : ByteArray) (hs : s.size ≤ 4000000) : AG (Bo s) := by
 rw [Bo]
 refine (NP _ _ _).bnd fun _ => AG.ite (fun _ => ?_) fun _ => .ret
 refine aR s hs (Aj s) (fun k hk ih => ?_) ?_ s.size 0 (by omega) (by omega)
 ·rw [Aj]
  refine AG.ite (fun _ => ?_) fun _ => .ret
  obtain ⟨r, e, hr⟩ := aQ s hs k hk
  rw [e]
  refine AG.ite (fun h => ?_) fun _ => .ret
  obtain ⟨j, ej, j1, j2⟩ := kB (hr h)
  rw [ej]
  exact AG.ite (fun _ => (Vn _).bnd fun _ => AG.ite (fun _ => (Xo _).bnd fun _ => AG.ite (fun _ => ih j j1 j2) fun _ => .ret) fun _ => .ret) fun _ => (Xo _).bnd fun _ => AG.ite (fun _ => ih j j1 j2) fun _ => .ret
 ·rw [Aj, Fd (by simp only [AU]; omega)]; exact .ret
theorem Pk (s : ByteArray) (hs : s.size ≤ 4000000) : AG (BN s) := by
 rw [BN]
 refine AG.ite (fun _ => ?_) fun _ => .ret
 rw [Gs]
 refine AG.bnd ?_ fun _ => .ret
 refine aR s hs (BG s) (fun k hk ih => ?_) ?_ s.size 0 (by omega) (by omega)
 ·rw [BG]
  refine AG.ite (fun _ => ?_) fun _ => .ret
  obtain ⟨r, e, hr⟩ := aQ s hs k hk
  rw [e]
  refine AG.ite (fun h => ?_) fun _ => .ret
  obtain ⟨j, ej, j1, j2⟩ := kB (hr h)
  rw [ej]
  exact (kA _).bnd fun _ => AG.ite (fun _ => ih j j1 j2) fun _ => .ret
 ·rw [BG, Fd (by simp only [AU]; omega)]; exact .ret
theorem eX {s : ByteArray} {l h : Int} (h0 : 0 ≤ l) (h1 : l ≤ h) (h2 : h ≤ s.size) : AG (Q2 s l h) := by unfold Q2; rw [if_pos ⟨h0, h1, h2⟩]; exact .ret
theorem aS (s : ByteArray) : AG (GR s) := by
 rw [GR]
 refine AG.ite (fun h => ?_) fun _ => .ret
 have := of_decide_eq_true h
 simp only [AU] at this
 exact (eX (by omega) (by omega) (by omega)).bnd fun _ => .ret
theorem aT (s : ByteArray) (hs : s.size ≤ 4000000) : AG (Dz s) := by
 rw [Dz]
 exact AG.ite (fun _ => .ret) fun _ => (QK s hs).bnd fun _ => AG.ite (fun _ => (aS s).bnd fun _ => .ret) fun _ => .ret
theorem pV (d : A1) (hs : d.sz ≤ 4000000) : AG (GT d) := by
 rw [A1.sz_eq] at hs
 have j2 : AG (E0 d) := by rw [E0]; exact (Pk _ (by omega)).bnd fun _ => AG.ite (fun _ => .ret) fun _ => .ret
 rw [GT]
 exact AG.ite (fun _ => (QK _ (by omega)).bnd fun _ => AG.ite (fun _ => (aS _).bnd fun _ => AG.ite (fun _ => .ret) fun _ => AG.ite (fun _ => .ret) fun _ => j2) fun _ => .ret) fun _ => j2
theorem Tq {α : Type} {l : List α} {k : Nat} {x : α} (h : l[k]? = some x) : x ∈ l := List.mem_of_getElem? h
theorem Tr {α : Type} {l : List α} {k : Nat} {x : α} (h : l[k]? = some x) : k < l.length := (List.getElem?_eq_some_iff.1 h).1
theorem mp (l : List A1) (hl : l.length ≤ 4000000) (hs : ∀ d ∈ l, d.sz ≤ 4000000) : AG (DW l) := by
 rw [DW]
 refine O6 l (BH l) (fun k x hx ih => ?_) ?_
 ·have := Tr hx
  rw [BH, X1 hx, Ge hx, Jv (by omega)]
  exact (pV x (hs x (Tq hx))).bnd fun _ => AG.ite (fun _ => AG.ite (fun h => (mo hx h hl).bnd fun _ => AG.ite (fun _ => .ret) fun _ => ih) fun _ => ih) fun _ => .ret
 ·rw [BH, Qd]; exact .ret
theorem pW (n : A0) : AG (De n) := by
 rw [De]
 exact AG.ite (fun _ => AG.ite (fun _ => AG.ite (fun _ => AG.ite (fun _ => .ret) fun _ => .ret) fun _ => .ret) fun _ => .ret) fun _ => .ret
theorem aU (s t : ByteArray) (hs : s.size ≤ 4000000) (ht : 1 ≤ t.size ∧ t.size ≤ 4000000) : AG (D3 s t) := by
 rw [D3]
 have key : ∀ (m k : Nat), k ≤ s.size → s.size ≤ k + m → AG (Bj s t k) := by
  intro m
  induction m with
  | zero => intro k h1 h2; rw [Bj, Af (by simp only [AU]; omega) (by simp only [AU]; omega), Xk (by simp only [AU]; omega)]; exact .ret
  | succ m ih =>
   intro k h1 h2
   rw [Bj, Af (by simp only [AU]; omega) (by simp only [AU]; omega)]
   refine AG.ite (fun h => ?_) fun _ => .ret
   have h3 := of_decide_eq_true h
   simp only [AU] at h3
   refine (eX (by omega) (by simp only [AU]; omega) (by simp only [AU]; omega)).bnd fun _ => AG.ite (fun _ => .ret) fun _ => ?_
   rw [Jv (by omega)]
   exact ih (k + 1) (by omega) (by omega)
 exact key s.size 0 (by omega) (by omega)
theorem tX (s : ByteArray) : AG (Hv s) := by
 rw [Hv]
 refine AG.ite (fun _ => .ret) fun h => ?_
 have h3 : s.size = 3 := by simp only [SZ, AU, bne_eq_false_iff_eq] at h; omega
 have a0 : AG (Q1 s 0) := (QJ (by omega) (by omega)).ends
 have a1 : AG (Q1 s 1) := (QJ (by omega) (by omega)).ends
 have a2 : AG (Q1 s 2) := (QJ (by omega) (by omega)).ends
 repeat' first
  | exact AG.ret
  | refine AG.ite (fun _ => ?_) fun _ => ?_
  | refine a0.bnd fun _ => ?_
  | refine a1.bnd fun _ => ?_
  | refine a2.bnd fun _ => ?_
theorem mq (n : Int) : AG (ET n) := by
 rw [ET]
 exact AG.ite (fun _ => .ret) fun _ => AG.ite (fun _ => .ret) fun _ => AG.ite (fun _ => .ret) fun _ => .ret
theorem eY (a b : A4) : AG (FY a b) := by
 rw [FY]; exact AG.ite (fun _ => .ret) fun _ => AG.ite (fun _ => .ret) fun _ => .ret
theorem pX (a : A4) (hs : a.sz ≤ 4000000) : AG (Df a) := by
 rw [A4.sz_eq] at hs
 have j2 : AG (D4 a) := by rw [D4]; exact (Pk _ (by omega)).bnd fun _ => AG.ite (fun _ => (Pk _ (by omega)).bnd fun _ => AG.ite (fun _ => .ret) fun _ => .ret) fun _ => .ret
 rw [Df]
 exact (aT _ (by omega)).bnd fun _ => AG.ite (fun _ => AG.ite (fun _ => .ret) fun _ => (QK _ (by omega)).bnd fun _ => AG.ite (fun _ => AG.ite (fun _ => AG.ite (fun _ => .ret) fun _ => j2) fun _ => j2) fun _ => .ret) fun _ => .ret
theorem mr (n : A0) (hl : n.Attrs.length ≤ 4000000) (hs : ∀ d ∈ n.Attrs, d.sz ≤ 4000000) : AG (Dg n) := by
 rw [Dg]
 refine O6 n.Attrs (fun i => B6 i n) (fun k x hx ih => ?_) ?_
 ·have := Tr hx
  show AG (B6 k n)
  rw [B6, X1 hx, Ge hx, Jv (by omega)]
  exact (pX x (hs x (Tq hx))).bnd fun _ => AG.ite (fun _ => AG.ite (fun h => (mo hx h hl).bnd fun _ => (eY _ _).bnd fun _ => AG.ite (fun _ => ih) fun _ => .ret) fun _ => ih) fun _ => .ret
 ·show AG (B6 _ n)
  rw [B6, Qd]; exact .ret
theorem tY (n : A0) (hs : n.sz ≤ 1048576) : AG (By n) := by
 rw [A0.sz_eq] at hs
 have t1 := Pk n.Text (by omega)
 have t2 := Pk n.Uri (by omega)
 have p1 := QK n.Local (by omega)
 have p2 := aT n.Pre (by omega)
 have d1 := mp n.Decls (by omega) (fun d hd => by have := CB A1.sz hd; omega)
 have a1 := mr n (by omega) (fun d hd => by have := CB A4.sz hd; omega)
 have b1 := pW n
 have x1 := tX n.Local
 have h1 : AG (D3 n.Text (⟨#[45, 45]⟩)) := aU n.Text _ (by omega) ⟨by decide, by decide⟩
 have h2 : AG (D3 n.Text (⟨#[13]⟩)) := aU n.Text _ (by omega) ⟨by decide, by decide⟩
 have h3 : AG (D3 n.Text (⟨#[63, 62]⟩)) := aU n.Text _ (by omega) ⟨by decide, by decide⟩
 have ne : Cu n.Text (⟨#[]⟩) = false → 1 ≤ n.Text.size := fun h => by
  rcases Nat.eq_zero_or_pos n.Text.size with e | e
  ·exfalso
   have : n.Text = ⟨#[]⟩ := by
    have hh : n.Text.data = #[] := Array.eq_empty_of_size_eq_zero e
    cases hn : n.Text; rw [hn] at hh; simp only at hh; rw [hh]
   rw [this, Ju] at h; cases h
  ·exact e
 have f0 : Cu n.Text (⟨#[]⟩) = false → AG (Q1 n.Text 0) := fun h => by have := ne h; exact (QJ (by omega) (by omega)).ends
 have f1 : Cu n.Text (⟨#[]⟩) = false → AG (Q1 n.Text (BE (AU n.Text) 1)) := fun h => by
  have := ne h
  rw [Bw (by simp only [AU]; omega) (by simp only [AU]; omega)]
  exact (QJ (by simp only [AU]; omega) (by simp only [AU]; omega)).ends
 rw [By]
 repeat' first
  | exact AG.ret
  | exact a1
  | refine AG.ite (fun _ => ?_) fun hq => ?_
  | refine t1.bnd fun _ => ?_
  | refine t2.bnd fun _ => ?_
  | refine p1.bnd fun _ => ?_
  | refine p2.bnd fun _ => ?_
  | refine d1.bnd fun _ => ?_
  | refine b1.bnd fun _ => ?_
  | refine x1.bnd fun _ => ?_
  | refine h1.bnd fun _ => ?_
  | refine h2.bnd fun _ => ?_
  | refine h3.bnd fun _ => ?_
  | refine (mq _).bnd fun _ => ?_
  | refine (f0 (by assumption)).bnd fun _ => ?_
  | refine (f1 (by assumption)).bnd fun _ => ?_
theorem X2 (N : Nat) : ∀ (l : List A0), l.length + szs A0.sz l ≤ N → N ≤ 1048576 → ∀ deep, AG (Ab l deep) := by
 induction N using Nat.strongRecOn with
 | _ N ih =>
  intro l hl hN deep
  rw [Ab]
  refine O6 l (fun i => Ah l deep i) (fun k x hx hk => ?_) ?_
  ·have h1 := Tr hx
   have h2 := CB A0.sz (Tq hx)
   have h3 : x.Kids.length + szs A0.sz x.Kids < N := by
    have := A0.sz_eq x
    omega
   have j17 : AG (Aw l deep k x) := by
    rw [Aw, Jv (by omega)]
    exact AG.ite (fun _ => AG.ite (fun _ => .ret) fun _ => (ih _ h3 x.Kids (Nat.le_refl _) (by omega) _).bnd fun _ => AG.ite (fun _ => hk) fun _ => .ret) fun _ => hk
   show AG (Ah l deep k)
   rw [Ah, X1 hx, Ge hx]
   exact (tY x (by omega)).bnd fun _ => AG.ite (fun _ => AG.ite (fun _ => AG.ite (fun h => (mo hx h (by omega)).bnd fun _ => AG.ite (fun _ => .ret) fun _ => j17) fun _ => j17) fun _ => j17) fun _ => .ret
  ·show AG (Ah l deep _)
   rw [Ah, Qd]; exact .ret
theorem kC {α ρ : Type} (l : List α) (F : Int → Int → Option ρ) (hF : ∀ (k : Nat) x a, l[k]? = some x → (∀ b, AG (F b ((k + 1 : Nat) : Int))) → AG (F a (k : Int))) (h0 : ∀ a, AG (F a ((l.length : Nat) : Int))) : ∀ a, AG (F a 0) := by
 have key : ∀ (m k : Nat), k ≤ l.length → l.length ≤ k + m → ∀ a, AG (F a k) := by
  intro m
  induction m with
  | zero => intro k h1 h2 a; rw [show k = l.length by omega]; exact h0 a
  | succ m ih =>
   intro k h1 h2 a
   by_cases e : k = l.length
   ·rw [e]; exact h0 a
   ·exact hF k _ a (List.getElem?_eq_getElem (by omega)) (ih (k + 1) (by omega) (by omega))
 exact key l.length 0 (by omega) (by omega)
theorem aV : ∀ n : A0, n.sz ≤ 1048576 → AG (C7 n) := by
 refine A0.ind' fun n ih hs => ?_
 rw [A0.sz_eq] at hs
 rw [C7]
 refine kC n.Kids (fun a i => BF a i n) (fun k x a hx hk => ?_) (fun a => ?_) _
 ·have := Tr hx
  have h2 := CB A0.sz (Tq hx)
  show AG (BF a k n)
  rw [BF, X1 hx, Ge hx, Jv (by omega)]
  exact (ih x (Tq hx) (by omega)).bnd fun _ => hk _
 ·show AG (BF a _ n)
  rw [BF, Qd]; exact .ret
theorem kD (n : A0) (hs : n.sz ≤ 1048575) : AG (CG n) := by
 have hz := hs
 rw [A0.sz_eq] at hz
 rw [CG]
 refine (aV n (by omega)).bnd fun _ => AG.ite (fun _ => .ret) fun _ => AG.ite (fun _ => (X2 1048576 [n] (by rw [CY]; show 1 + (n.sz + 0) ≤ _; omega) (by omega) _).bnd fun _ => .ret) fun _ => ?_
 refine kC n.Kids (fun a i => AP a i n) (fun k x a hx hk => ?_) (fun a => ?_) _
 ·have := Tr hx
  have j33 : ∀ b, AG (Bk b k n) := fun b => by
   rw [Bk, Ge hx, Jv (by omega)]
   exact AG.ite (fun _ => .ret) fun _ => hk _
  show AG (AP a k n)
  rw [AP, X1 hx, Ge hx]
  simp only [if_true, A3]
  exact AG.ite (fun _ => j33 _) fun _ => j33 _
 ·show AG (AP a _ n)
  rw [AP, Qd]
  have kk := X2 1048576 n.Kids (by omega) (by omega) 0
  simp only [Bool.false_eq_true, if_false]
  repeat' first
   | exact AG.ret
   | refine AG.ite (fun _ => ?_) fun _ => ?_
   | refine kk.bnd fun _ => ?_
theorem eZ (l : List A1) (p : ByteArray) (hl : l.length ≤ 4000000) (B : Nat) (hB : ∀ d ∈ l, d.Uri.size ≤ B) : AQ (Bn l p) fun r => r.1.size ≤ B := by
 rw [Bn]
 have key : ∀ k : Nat, k ≤ l.length → AQ (Bh l p ((k : Int) - 1)) fun r => r.1.size ≤ B := by
  intro k
  induction k with
  | zero => intro _; rw [Bh, Pf (by omega)]; exact AQ.ret (Nat.zero_le _)
  | succ k ih =>
   intro hk
   rw [Bh, Qc (by omega), show ((k + 1 : Nat) : Int) - 1 = (k : Int) by omega]
   refine (AQ.getI (by omega) (by omega)).bnd fun x hx => AQ.ite (fun _ => AQ.ret (hB x hx.1)) fun _ => ?_
   rw [Bw (by omega) (by omega)]
   exact ih (by omega)
 rw [Bw (by simp only [A8]; omega) (by simp only [A8]; omega)]
 exact key l.length (Nat.le_refl _)
theorem aW (l : List A1) (p : ByteArray) (hl : l.length ≤ 4000000) : AG (Bn l p) := by
 have : ∃ B, ∀ d ∈ l, d.Uri.size ≤ B := ⟨szs A1.sz l, fun d hd => by have := CB A1.sz hd; rw [A1.sz_eq] at this; omega⟩
 obtain ⟨B, hB⟩ := this
 exact (eZ l p hl B hB).ends
theorem kE (l m : List A1) (hl : l.length + m.length ≤ 4000000) : GQ l m = some (l ++ m) := by
 rw [GQ, DX (by omega) (by omega) (by omega), DX (by omega) (by omega) (by omega)]; rfl
theorem pY : ∀ n : A0, n.sz ≤ 1048576 → ∀ l : List A1, l.length + n.sz ≤ 4000000 → AG (Cj n l) := by
 refine A0.ind' fun n ih hs l hl => ?_
 have hz := A0.sz_eq n
 rw [Cj, kE _ _ (by omega)]
 have hlen : (l ++ n.Decls).length ≤ 4000000 := by rw [List.length_append]; omega
 have l45 : AG (Ax (l ++ n.Decls) 0 n) := by
  refine O6 n.Kids (fun i => Ax (l ++ n.Decls) i n) (fun k x hx hk => ?_) ?_
  ·have := Tr hx
   have h2 := CB A0.sz (Tq hx)
   show AG (Ax _ k n)
   rw [Ax, X1 hx, Ge hx, Jv (by omega)]
   exact (ih x (Tq hx) (by omega) _ (by rw [List.length_append]; have := A0.sz_eq n; omega)).bnd fun _ => AG.ite (fun _ => hk) fun _ => .ret
  ·show AG (Ax _ _ n)
   rw [Ax, Qd]; exact .ret
 have j4 : AG (E1 (l ++ n.Decls) n) := by
  rw [E1]
  refine O6 n.Attrs (fun i => B4 (l ++ n.Decls) i n) (fun k x hx hk => ?_) ?_
  ·have := Tr hx
   show AG (B4 _ k n)
   rw [B4, X1 hx, Ge hx, Jv (by omega)]
   exact (aW _ _ hlen).bnd fun _ => AG.ite (fun _ => AG.ite (fun _ => AG.ite (fun _ => .ret) fun _ => hk) fun _ => .ret) fun _ => hk
  ·show AG (B4 _ _ n)
   rw [B4, Qd]; exact l45
 rw [A3]
 exact AG.ite (fun _ => (aW _ _ hlen).bnd fun _ => AG.ite (fun _ => AG.ite (fun _ => .ret) fun _ => j4) fun _ => .ret) fun _ => j4
theorem kF (n : A0) (hs : n.sz ≤ 1048575) : AG (Bz n) := by
 rw [Bz]
 have h1 := kD n hs
 have h2 := pY n (by omega) [] (by show 0 + _ ≤ _; omega)
 repeat' first
  | exact AG.ret
  | refine AG.ite (fun _ => ?_) fun _ => ?_
  | refine h1.bnd fun _ => ?_
  | refine h2.bnd fun _ => ?_
end TT
