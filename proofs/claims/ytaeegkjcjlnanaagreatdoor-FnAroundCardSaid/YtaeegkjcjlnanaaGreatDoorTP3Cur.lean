import Derived.Test.YtaeegkjcjlnanaaGreatDoorTP0
import Derived.Test.YtaeegkjcjlnanaaGreatDoorTP1
set_option linter.unusedVariables false
set_option linter.unusedSimpArgs false
namespace TT
open Go
def AZ {α : Type} (x : Option α) (P : α → Prop) : Prop := ∃ a, x = some a ∧ P a
theorem AZ.ret {α : Type} {a : α} {P : α → Prop} (h : P a) : AZ (some a) P := ⟨a, rfl, h⟩
theorem AZ.bnd {α β : Type} {x : Option α} {f : α → Option β} {P : α → Prop} {Q : β → Prop} (h : AZ x P) (k : ∀ a, P a → AZ (f a) Q) : AZ (x >>= f) Q := by
 obtain ⟨a, rfl, h⟩ := h
 exact k a h
theorem AZ.ite {α : Type} {b : Bool} {x y : Option α} {P : α → Prop} (h1 : b = true → AZ x P) (h2 : b = false → AZ y P) : AZ (if b then x else y) P := by
 cases b
 ·exact h2 rfl
 ·exact h1 rfl
theorem AZ.mono {α : Type} {x : Option α} {P Q : α → Prop} (h : AZ x P) (hpq : ∀ a, P a → Q a) : AZ x Q := by
 obtain ⟨a, e, h⟩ := h
 exact ⟨a, e, hpq a h⟩
theorem AZ.room {n byt : Nat} (h : n ≤ 4000000) (hb : 0 < byt := by decide) (hb2 : byt ≤ 1000 := by decide) : AZ (room n byt) fun _ => True := ⟨(), Fb h hb hb2, trivial⟩
theorem AZ.getI {α : Type} {l : List α} {i : Int} (h0 : 0 ≤ i) (h1 : i < l.length) : AZ (getI l i) fun x => x ∈ l ∧ l[i.toNat]? = some x := by
 have h : i.toNat < l.length := by omega
 refine ⟨l[i.toNat], ?_, List.getElem_mem h, List.getElem?_eq_getElem h⟩
 unfold TT.getI
 rw [if_pos h0]
 exact List.getElem?_eq_getElem h
structure Gh (c : A2) : Prop where
 len : c.xb.length ≤ 1048576
 lo : 0 ≤ c.xi
 hi : c.xi ≤ c.xb.length
theorem rr (a : Int) : 0 ≤ Q7 .i64 a 255 ∧ Q7 .i64 a 255 < 256 := by
 have e : Q7 .i64 a 255 = IntKind.i64.wrap ((BitVec.ofInt 64 a &&& BitVec.ofInt 64 255).toNat : Int) := rfl
 have h : (BitVec.ofInt 64 a &&& BitVec.ofInt 64 255).toNat ≤ 255 := by
  rw [BitVec.toNat_and]; exact Nat.le_trans Nat.and_le_right (by decide)
 rw [e, Pc (by omega) (by omega)]
 omega
theorem AZ.shr {a b : Int} (h : 0 ≤ b) : AZ (jx .i64 a b) fun _ => True := by
 refine ⟨a.fdiv (2 ^ (min b.toNat IntKind.i64.bits)), ?_, trivial⟩
 unfold jx
 rw [if_neg (by omega)]
theorem Pe (c : A2) (h : Gh c) : AZ (FM c) fun r => (0 ≤ r.1 ∧ r.1 < 256) ∧ Gh r.2 := by
 rw [FM]
 refine (AZ.shr (by decide)).bnd fun x _ => (AZ.shr (by decide)).bnd fun y _ => AZ.ite (fun hi => ?_) fun _ => ?_
 ·have hl := Xt.1 hi
  simp only [AC] at hl
  refine (AZ.getI h.lo hl).bnd fun z _ => AZ.ret ⟨rr _, h.len, ?_, ?_⟩
  ·show 0 ≤ Ac c.xi 1
   have := h.lo; have := h.len
   rw [Az (by omega) (by omega)]; omega
  ·show Ac c.xi 1 ≤ c.xb.length
   have := h.lo; have := h.len
   rw [Az (by omega) (by omega)]; omega
 ·exact AZ.ret ⟨rr _, h.len, h.lo, h.hi⟩
theorem ii {a n : Int} (h0 : 0 ≤ a) (hn : 0 < n) : AZ (jw a n) fun x => 0 ≤ x ∧ x < n := by
 refine ⟨a.tmod n, ?_, Int.tmod_nonneg _ h0, Int.tmod_lt_of_pos _ hn⟩
 unfold jw
 rw [if_neg (by omega)]
theorem DC (c : A2) (h : Gh c) (n : Int) : AZ (BI c n) fun r => 0 ≤ r.1 ∧ (r.1 < n ∨ r.1 = 0) ∧ Gh r.2 := by
 rw [BI]
 refine AZ.ite (fun _ => AZ.ret ⟨Int.le_refl _, .inr rfl, h⟩) fun h0 => AZ.ite (fun _ => ?_) fun _ => ?_
 ·have hn : 0 < n := by have := decide_eq_false_iff_not.1 h0; omega
  exact (Pe c h).bnd fun r hr => (ii hr.1.1 hn).bnd fun x hx => AZ.ret ⟨hx.1, .inl hx.2, hr.2⟩
 ·have hn : 0 < n := by have := decide_eq_false_iff_not.1 h0; omega
  refine (Pe c h).bnd fun r hr => (Pe _ hr.2).bnd fun s hs => (Pe _ hs.2).bnd fun t ht => ?_
  have e : Ac (Ac (UH r.1 65536) (UH s.1 256)) t.1 = r.1 * 65536 + s.1 * 256 + t.1 := by
   have m1 : UH r.1 65536 = r.1 * 65536 := Pc (by omega) (by omega)
   have m2 : UH s.1 256 = s.1 * 256 := Pc (by omega) (by omega)
   rw [m1, m2, show Ac (r.1 * 65536) (s.1 * 256) = r.1 * 65536 + s.1 * 256 from Az (by omega) (by omega), Az (by omega) (by omega)]
  rw [e]
  exact (ii (by omega) hn).bnd fun x hx => AZ.ret ⟨hx.1, .inl hx.2, ht.2⟩
theorem I3 (c : A2) (h : Gh c) (n : Int) : AZ (D8 c n) fun r => Gh r.2 := by
 rw [D8]
 exact (DC c h n).bnd fun r hr => AZ.ret hr.2.2
theorem BD (c : A2) (h : Gh c) (l : List ByteArray) (hl : 0 < l.length) : AZ (Ab c l) fun r => r.1 ∈ l ∧ Gh r.2 := by
 rw [Ab]
 exact (DC c h _).bnd fun r hr => (AZ.getI hr.1 (by have := hr.2.1; simp only [AC] at this; omega)).bnd fun x hx => AZ.ret ⟨hx.1, hr.2.2⟩
theorem Rn (c : A2) (h : Gh c) (l : List Int) (hl : 0 < l.length) : AZ (Hy c l) fun r => r.1 ∈ l ∧ Gh r.2 := by
 rw [Hy]
 exact (DC c h _).bnd fun r hr => (AZ.getI hr.1 (by have := hr.2.1; simp only [AC] at this; omega)).bnd fun x hx => AZ.ret ⟨hx.1, hr.2.2⟩
theorem kz (code : List Int) (hl : code.length ≤ 1048576) : ∀ (m : Nat) (h : Int) (k : Nat), code.length ≤ k + m → AZ (Ef code h k) Gh := by
 intro m
 induction m with
 | zero =>
  intro h k hk
  rw [Ef, FR (by simp only [AC]; omega)]
  exact AZ.ret ⟨hl, by show (0 : Int) ≤ 0; omega, by show (0 : Int) ≤ _; omega⟩
 | succ m ih =>
  intro h k hk
  rw [Ef]
  refine AZ.ite (fun hi => AZ.ite (fun _ => ?_) fun _ => ?_) fun _ => ?_
  ·have hlt := Xt.1 hi
   simp only [AC] at hlt
   refine (AZ.getI (by omega) hlt).bnd fun x _ => ?_
   rw [show Ac (k : Int) 1 = ((k + 1 : Nat) : Int) by rw [Az (by omega) (by omega)]; omega]
   exact ih _ _ (by omega)
  ·exact AZ.ret ⟨hl, by show (0 : Int) ≤ 0; omega, by show (0 : Int) ≤ _; omega⟩
  ·exact AZ.ret ⟨hl, by show (0 : Int) ≤ 0; omega, by show (0 : Int) ≤ _; omega⟩
theorem cu (code : List Int) (hl : code.length ≤ 1048576) : AZ (KF code) Gh := by
 rw [KF]
 exact kz code hl code.length _ 0 (by omega)
end TT
namespace TT
open Go
def AG {α : Type} (x : Option α) : Prop := ∃ a, x = some a
theorem AG.ret {α : Type} {a : α} : AG (some a) := ⟨a, rfl⟩
theorem AG.bnd {α β : Type} {x : Option α} {f : α → Option β} (h : AG x) (k : ∀ a, AG (f a)) : AG (x >>= f) := by obtain ⟨a, rfl⟩ := h; exact k a
theorem AG.ite {α : Type} {b : Bool} {x y : Option α} (h1 : b = true → AG x) (h2 : b = false → AG y) : AG (if b then x else y) := by
 cases b
 ·exact h2 rfl
 ·exact h1 rfl
theorem AZ.ends {α : Type} {x : Option α} {P : α → Prop} (h : AZ x P) : AG x := by obtain ⟨a, e, _⟩ := h; exact ⟨a, e⟩
theorem AG.tot {α : Type} {x : Option α} (h : AG x) : AZ x fun _ => True := by obtain ⟨a, e⟩ := h; exact ⟨a, e, trivial⟩
theorem Gx {α : Type} {l : List α} {k : Nat} {x : α} (h : l[k]? = some x) : getI l (k : Int) = some x := by
 unfold getI; rw [if_pos (by omega)]; simpa using h
theorem Jj {k : Nat} (h : k ≤ 4000000) : Ac (k : Int) 1 = ((k + 1 : Nat) : Int) := by rw [Az (by omega) (by omega)]; omega
theorem V2 {α : Type} {l : List α} {k : Nat} {x : α} (h : l[k]? = some x) : IY (k : Int) (AC l) = true := by
 have := (List.getElem?_eq_some_iff.1 h).1
 exact Q3 (by simp only [AC]; omega)
theorem l9 {α : Type} {l : List α} {k : Nat} {x : α} (h : l[k]? = some x) (hk : Nw (k : Int) 0 = true) (hl : l.length ≤ 4000000) : AG (getI l (Bz (k : Int) 1)) := by
 have h1 := (List.getElem?_eq_some_iff.1 h).1
 have h2 := of_decide_eq_true hk
 rw [CF (by omega) (by omega)]
 exact (AZ.getI (l := l) (i := (k : Int) - 1) (by omega) (by omega)).ends
theorem nu {α ρ : Type} (l : List α) (F : Int → Option ρ) (hF : ∀ (k : Nat) x, l[k]? = some x → AG (F ((k + 1 : Nat) : Int)) → AG (F (k : Int))) (h0 : AG (F ((l.length : Nat) : Int))) : ∀ m k : Nat, k ≤ l.length → l.length ≤ k + m → AG (F (k : Int)) := by
 intro m
 induction m with
 | zero => intro k h1 h2; rw [show k = l.length by omega]; exact h0
 | succ m ih =>
  intro k h1 h2
  by_cases e : k = l.length
  ·rw [e]; exact h0
  ·have hlt : k < l.length := by omega
   exact hF k _ (List.getElem?_eq_getElem hlt) (ih (k + 1) (by omega) (by omega))
theorem NW {α ρ : Type} (l : List α) (F : Int → Option ρ) (hF : ∀ (k : Nat) x, l[k]? = some x → AG (F ((k + 1 : Nat) : Int)) → AG (F (k : Int))) (h0 : AG (F ((l.length : Nat) : Int))) : AG (F 0) := nu l F hF h0 l.length 0 (by omega) (by omega)
theorem Q5 {α : Type} (l : List α) : IY ((l.length : Nat) : Int) (AC l) = false := FR (by simp only [AC]; omega)
theorem Pf {s : ByteArray} {i : Int} (h0 : 0 ≤ i) (h1 : i < s.size) : AZ (PM s i) fun x => 0 ≤ x ∧ x < 256 := by
 unfold PM
 rw [dif_pos ⟨h0, by omega⟩]
 refine AZ.ret ⟨by omega, ?_⟩
 have := (s[i.toNat]'(by omega)).toNat_lt
 omega
theorem Mz (a b c : Int) : AG (Dk a b c) := by
 rw [Dk]; exact AG.ite (fun _ => .ret) fun _ => .ret
theorem vU (s : ByteArray) (hs : s.size ≤ 4000000) (at1 n : Nat) (hn : n ≤ 3) (ha : at1 + n < s.size) (least : Int) : ∀ (m i : Nat) (v : Int), n + 1 ≤ i + m → AZ (Af s at1 n least v i) fun r => r.2.2 = true → r.2.1 = ((at1 + 1 + n : Nat) : Int) := by
 have fin : ∀ (i : Nat) (v : Int), n < i → AZ (Af s at1 n least v i) fun r => r.2.2 = true → r.2.1 = ((at1 + 1 + n : Nat) : Int) := by
  intro i v hi
  rw [Af, Wt (by omega)]
  simp only [Bool.false_eq_true, if_false]
  refine AZ.ite (fun _ => AZ.ret (by simp)) fun _ => AZ.ite (fun _ => AZ.ret (by simp)) fun _ => (Mz v 55296 57343).tot.bnd fun r _ => AZ.ite (fun _ => AZ.ret (by simp)) fun _ => AZ.ret fun _ => ?_
  show Ac (Ac (at1 : Int) 1) n = _
  rw [Jj (by omega), Az (by omega) (by omega)]; omega
 intro m
 induction m with
 | zero => intro i v hi; exact fin i v (by omega)
 | succ m ih =>
  intro i v hi
  by_cases hin : i ≤ n
  ·rw [Af, TF (by omega), Az (by omega) (by omega)]
   simp only [if_true]
   refine (Pf (by omega) (by omega)).bnd fun x _ => AZ.ite (fun _ => AZ.ret (by simp)) fun _ => AZ.ite (fun _ => AZ.ret (by simp)) fun _ => ?_
   rw [Jj (by omega)]
   exact ih (i + 1) _ (by omega)
  ·exact fin i v (by omega)
theorem fX (s : ByteArray) (hs : s.size ≤ 4000000) (at1 : Nat) (ha : at1 < s.size) (n : Nat) (hn : n ≤ 3) (least v : Int) : AZ (C5 s at1 n least v) fun r => r.2.2 = true → ((at1 : Int) < r.2.1 ∧ r.2.1 ≤ s.size) := by
 rw [C5]
 refine AZ.ite (fun _ => AZ.ret (by simp)) fun h => ?_
 have h1 : Bz (AU s) 1 = (s.size : Int) - 1 := CF (by simp only [AU]; omega) (by simp only [AU]; omega)
 have h2 : Bz ((s.size : Int) - 1) n = (s.size : Int) - 1 - n := CF (by omega) (by omega)
 have h3 := of_decide_eq_false h
 rw [h1, h2] at h3
 exact (vU s hs at1 n hn (by omega) least (n + 1) 1 v (by omega)).mono fun r hr hb => by have := hr hb; omega
theorem Z9 (s : ByteArray) (hs : s.size ≤ 4000000) (at1 : Nat) (ha : at1 < s.size) : AZ (Da s at1) fun r => r.2.2 = true → ((at1 : Int) < r.2.1 ∧ r.2.1 ≤ s.size) := by
 have j32 : ∀ x b, AZ (Ce s at1 x b) fun r => r.2.2 = true → ((at1 : Int) < r.2.1 ∧ r.2.1 ≤ s.size) := fun x b => by
  rw [Ce]
  exact AZ.ite (fun _ => fX s hs at1 ha 2 (by omega) _ _) fun _ => AZ.ite (fun _ => AZ.ite (fun _ => fX s hs at1 ha 3 (by omega) _ _) fun _ => AZ.ret (by simp)) fun _ => AZ.ret (by simp)
 have j28 : ∀ x b, AZ (Cf s at1 x b) fun r => r.2.2 = true → ((at1 : Int) < r.2.1 ∧ r.2.1 ≤ s.size) := fun x b => by
  rw [Cf]
  exact AZ.ite (fun _ => fX s hs at1 ha 1 (by omega) _ _) fun _ => AZ.ite (fun _ => j32 _ _) fun _ => j32 _ _
 rw [Da]
 refine AZ.ite (fun _ => AZ.ret (by simp)) fun _ => AZ.ite (fun _ => AZ.ret (by simp)) fun _ => (Pf (by omega) (by omega)).bnd fun x _ => AZ.ite (fun _ => AZ.ret fun _ => ?_) fun _ => AZ.ite (fun _ => j28 _ _) fun _ => j28 _ _
 show (at1 : Int) < Ac at1 1 ∧ Ac at1 1 ≤ _
 rw [Jj (by omega)]; omega
theorem Ww (n : Int) (l : List Int) (hl : l.length ≤ 1000) : AG (D6 n l) := by
 rw [D6]
 have key : ∀ (m k : Nat), k ≤ 1002 → l.length ≤ k + m → AG (AW n l k) := by
  intro m
  induction m with
  | zero =>
   intro k h1 h2
   rw [AW, Jj (by omega), FR (by simp only [AC]; omega)]; exact .ret
  | succ m ih =>
   intro k h1 h2
   rw [AW, Jj (by omega)]
   refine AG.ite (fun h => ?_) fun _ => .ret
   have h3 := Xt.1 h
   simp only [AC] at h3
   refine (AZ.getI (by omega) (by omega)).ends.bnd fun x => (AZ.getI (by omega) (by omega)).ends.bnd fun y => (Mz _ _ _).bnd fun b => AG.ite (fun _ => .ret) fun _ => ?_
   rw [show Ac (k : Int) 2 = ((k + 2 : Nat) : Int) by rw [Az (by omega) (by omega)]; omega]
   exact ih (k + 2) (by omega) (by omega)
 exact key l.length 0 (by omega) (by omega)
theorem V3 (n : Int) : AG (CT n) := by
 rw [CT]; exact (Ww _ _ (by decide)).bnd fun _ => .ret
theorem Wx (n : Int) : AG (D9 n) := by
 rw [D9]; exact (V3 _).bnd fun _ => AG.ite (fun _ => .ret) fun _ => (Ww _ _ (by decide)).bnd fun _ => .ret
theorem ij (n : Int) : AG (GE n) := by
 rw [GE]
 exact AG.ite (fun _ => .ret) fun _ => AG.ite (fun _ => .ret) fun _ => AG.ite (fun _ => .ret) fun _ => (Mz _ _ _).bnd fun _ => AG.ite (fun _ => .ret) fun _ => (Mz _ _ _).bnd fun _ => AG.ite (fun _ => .ret) fun _ => (Mz _ _ _).bnd fun _ => .ret
theorem ZA {ρ : Type} (s : ByteArray) (hs : s.size ≤ 4000000) (F : Int → Option ρ) (hF : ∀ k : Nat, k < s.size → (∀ j : Nat, k < j → j ≤ s.size → AG (F j)) → AG (F (k : Int))) (h0 : AG (F ((s.size : Nat) : Int))) : ∀ m k : Nat, k ≤ s.size → s.size ≤ k + m → AG (F (k : Int)) := by
 intro m
 induction m with
 | zero => intro k h1 h2; rw [show k = s.size by omega]; exact h0
 | succ m ih =>
  intro k h1 h2
  by_cases e : k = s.size
  ·rw [e]; exact h0
  ·exact hF k (by omega) fun j hj hj2 => ih j hj2 (by omega)
theorem ik {a : Int} {k n : Nat} (h : (k : Int) < a ∧ a ≤ n) : ∃ j : Nat, a = j ∧ k < j ∧ j ≤ n := ⟨a.toNat, by omega, by omega, by omega⟩
theorem Pg (s : ByteArray) (hs : s.size ≤ 4000000) : AG (B6 s) := by
 rw [B6]
 refine (Mz _ _ _).bnd fun _ => AG.ite (fun _ => ?_) fun _ => .ret
 refine ZA s hs (AQ s) (fun k hk ih => ?_) ?_ s.size 0 (by omega) (by omega)
 ·rw [AQ]
  refine AG.ite (fun _ => ?_) fun _ => .ret
  obtain ⟨r, e, hr⟩ := Z9 s hs k hk
  rw [e]
  refine AG.ite (fun h => ?_) fun _ => .ret
  obtain ⟨j, ej, j1, j2⟩ := ik (hr h)
  rw [ej]
  exact AG.ite (fun _ => (V3 _).bnd fun _ => AG.ite (fun _ => (Wx _).bnd fun _ => AG.ite (fun _ => ih j j1 j2) fun _ => .ret) fun _ => .ret) fun _ => (Wx _).bnd fun _ => AG.ite (fun _ => ih j j1 j2) fun _ => .ret
 ·rw [AQ, FR (by simp only [AU]; omega)]; exact .ret
theorem P6 (s : ByteArray) (hs : s.size ≤ 4000000) : AG (Ax s) := by
 rw [Ax]
 refine AG.ite (fun _ => ?_) fun _ => .ret
 rw [EK]
 refine AG.bnd ?_ fun _ => .ret
 refine ZA s hs (B8 s) (fun k hk ih => ?_) ?_ s.size 0 (by omega) (by omega)
 ·rw [B8]
  refine AG.ite (fun _ => ?_) fun _ => .ret
  obtain ⟨r, e, hr⟩ := Z9 s hs k hk
  rw [e]
  refine AG.ite (fun h => ?_) fun _ => .ret
  obtain ⟨j, ej, j1, j2⟩ := ik (hr h)
  rw [ej]
  exact (ij _).bnd fun _ => AG.ite (fun _ => ih j j1 j2) fun _ => .ret
 ·rw [B8, FR (by simp only [AU]; omega)]; exact .ret
theorem cw {s : ByteArray} {l h : Int} (h0 : 0 ≤ l) (h1 : l ≤ h) (h2 : h ≤ s.size) : AG (PN s l h) := by unfold PN; rw [if_pos ⟨h0, h1, h2⟩]; exact .ret
theorem ZB (s : ByteArray) : AG (GD s) := by
 rw [GD]
 refine AG.ite (fun h => ?_) fun _ => .ret
 have := of_decide_eq_true h
 simp only [AU] at this
 exact (cw (by omega) (by omega) (by omega)).bnd fun _ => .ret
theorem ZC (s : ByteArray) (hs : s.size ≤ 4000000) : AG (CU s) := by
 rw [CU]
 exact AG.ite (fun _ => .ret) fun _ => (Pg s hs).bnd fun _ => AG.ite (fun _ => (ZB s).bnd fun _ => .ret) fun _ => .ret
theorem nv (d : A1) (hs : d.sz ≤ 4000000) : AG (GF d) := by
 rw [A1.sz_eq] at hs
 have j2 : AG (Dx d) := by rw [Dx]; exact (P6 _ (by omega)).bnd fun _ => AG.ite (fun _ => .ret) fun _ => .ret
 rw [GF]
 exact AG.ite (fun _ => (Pg _ (by omega)).bnd fun _ => AG.ite (fun _ => (ZB _).bnd fun _ => AG.ite (fun _ => .ret) fun _ => AG.ite (fun _ => .ret) fun _ => j2) fun _ => .ret) fun _ => j2
theorem V4 {α : Type} {l : List α} {k : Nat} {x : α} (h : l[k]? = some x) : x ∈ l := List.mem_of_getElem? h
theorem TG {α : Type} {l : List α} {k : Nat} {x : α} (h : l[k]? = some x) : k < l.length := (List.getElem?_eq_some_iff.1 h).1
theorem lA (l : List A1) (hl : l.length ≤ 4000000) (hs : ∀ d ∈ l, d.sz ≤ 4000000) : AG (C6 l) := by
 rw [C6]
 refine NW l (B9 l) (fun k x hx ih => ?_) ?_
 ·have := TG hx
  rw [B9, V2 hx, Gx hx, Jj (by omega)]
  exact (nv x (hs x (V4 hx))).bnd fun _ => AG.ite (fun _ => AG.ite (fun h => (l9 hx h hl).bnd fun _ => AG.ite (fun _ => .ret) fun _ => ih) fun _ => ih) fun _ => .ret
 ·rw [B9, Q5]; exact .ret
theorem nw (n : A0) : AG (FO n) := by
 rw [FO]
 exact AG.ite (fun _ => AG.ite (fun _ => AG.ite (fun _ => AG.ite (fun _ => .ret) fun _ => .ret) fun _ => .ret) fun _ => .ret) fun _ => .ret
theorem ZD (s t : ByteArray) (hs : s.size ≤ 4000000) (ht : 1 ≤ t.size ∧ t.size ≤ 4000000) : AG (D0 s t) := by
 rw [D0]
 have key : ∀ (m k : Nat), k ≤ s.size → s.size ≤ k + m → AG (Bg s t k) := by
  intro m
  induction m with
  | zero => intro k h1 h2; rw [Bg, Az (by simp only [AU]; omega) (by simp only [AU]; omega), Wt (by simp only [AU]; omega)]; exact .ret
  | succ m ih =>
   intro k h1 h2
   rw [Bg, Az (by simp only [AU]; omega) (by simp only [AU]; omega)]
   refine AG.ite (fun h => ?_) fun _ => .ret
   have h3 := of_decide_eq_true h
   simp only [AU] at h3
   refine (cw (by omega) (by simp only [AU]; omega) (by simp only [AU]; omega)).bnd fun _ => AG.ite (fun _ => .ret) fun _ => ?_
   rw [Jj (by omega)]
   exact ih (k + 1) (by omega) (by omega)
 exact key s.size 0 (by omega) (by omega)
theorem rt (s : ByteArray) : AG (Hu s) := by
 rw [Hu]
 refine AG.ite (fun _ => .ret) fun h => ?_
 have h3 : s.size = 3 := by simp only [neI, AU, bne_eq_false_iff_eq] at h; omega
 have a0 : AG (PM s 0) := (Pf (by omega) (by omega)).ends
 have a1 : AG (PM s 1) := (Pf (by omega) (by omega)).ends
 have a2 : AG (PM s 2) := (Pf (by omega) (by omega)).ends
 repeat' first
  | exact AG.ret
  | refine AG.ite (fun _ => ?_) fun _ => ?_
  | refine a0.bnd fun _ => ?_
  | refine a1.bnd fun _ => ?_
  | refine a2.bnd fun _ => ?_
theorem lC (n : Int) : AG (EL n) := by
 rw [EL]
 exact AG.ite (fun _ => .ret) fun _ => AG.ite (fun _ => .ret) fun _ => AG.ite (fun _ => .ret) fun _ => .ret
theorem cx (a b : A3) : AG (FN a b) := by
 rw [FN]; exact AG.ite (fun _ => .ret) fun _ => AG.ite (fun _ => .ret) fun _ => .ret
theorem nx (a : A3) (hs : a.sz ≤ 4000000) : AG (Db a) := by
 rw [A3.sz_eq] at hs
 have j2 : AG (D1 a) := by rw [D1]; exact (P6 _ (by omega)).bnd fun _ => AG.ite (fun _ => (P6 _ (by omega)).bnd fun _ => AG.ite (fun _ => .ret) fun _ => .ret) fun _ => .ret
 rw [Db]
 exact (ZC _ (by omega)).bnd fun _ => AG.ite (fun _ => AG.ite (fun _ => .ret) fun _ => (Pg _ (by omega)).bnd fun _ => AG.ite (fun _ => AG.ite (fun _ => AG.ite (fun _ => .ret) fun _ => j2) fun _ => j2) fun _ => .ret) fun _ => .ret
theorem lD (n : A0) (hl : n.Attrs.length ≤ 4000000) (hs : ∀ d ∈ n.Attrs, d.sz ≤ 4000000) : AG (CN n) := by
 rw [CN]
 refine NW n.Attrs (fun i => Ay i n) (fun k x hx ih => ?_) ?_
 ·have := TG hx
  show AG (Ay k n)
  rw [Ay, V2 hx, Gx hx, Jj (by omega)]
  exact (nx x (hs x (V4 hx))).bnd fun _ => AG.ite (fun _ => AG.ite (fun h => (l9 hx h hl).bnd fun _ => (cx _ _).bnd fun _ => AG.ite (fun _ => ih) fun _ => .ret) fun _ => ih) fun _ => .ret
 ·show AG (Ay _ n)
  rw [Ay, Q5]; exact .ret
theorem ru (n : A0) (hs : n.sz ≤ 1048576) : AG (Bw n) := by
 rw [A0.sz_eq] at hs
 have t1 := P6 n.Text (by omega)
 have t2 := P6 n.Uri (by omega)
 have p1 := Pg n.Local (by omega)
 have p2 := ZC n.Pre (by omega)
 have d1 := lA n.Decls (by omega) (fun d hd => by have := Cq A1.sz hd; omega)
 have a1 := lD n (by omega) (fun d hd => by have := Cq A3.sz hd; omega)
 have b1 := nw n
 have x1 := rt n.Local
 have h1 : AG (D0 n.Text (⟨#[45, 45]⟩)) := ZD n.Text _ (by omega) ⟨by decide, by decide⟩
 have h2 : AG (D0 n.Text (⟨#[13]⟩)) := ZD n.Text _ (by omega) ⟨by decide, by decide⟩
 have h3 : AG (D0 n.Text (⟨#[63, 62]⟩)) := ZD n.Text _ (by omega) ⟨by decide, by decide⟩
 have ne : Cs n.Text (⟨#[]⟩) = false → 1 ≤ n.Text.size := fun h => by
  rcases Nat.eq_zero_or_pos n.Text.size with e | e
  ·exfalso
   have : n.Text = ⟨#[]⟩ := by
    have hh : n.Text.data = #[] := Array.eq_empty_of_size_eq_zero e
    cases hn : n.Text; rw [hn] at hh; simp only at hh; rw [hh]
   rw [this, Fg] at h; cases h
  ·exact e
 have f0 : Cs n.Text (⟨#[]⟩) = false → AG (PM n.Text 0) := fun h => by have := ne h; exact (Pf (by omega) (by omega)).ends
 have f1 : Cs n.Text (⟨#[]⟩) = false → AG (PM n.Text (Bz (AU n.Text) 1)) := fun h => by
  have := ne h
  rw [CF (by simp only [AU]; omega) (by simp only [AU]; omega)]
  exact (Pf (by simp only [AU]; omega) (by simp only [AU]; omega)).ends
 rw [Bw]
 repeat' first
  | exact AG.ret
  | exact a1
  | refine AG.ite (fun _ => ?_) fun hq => ?_
  | refine t1.bnd fun _ => ?_
  | refine t2.bnd fun _ => ?_
  | refine p1.bnd fun _ => ?_
  | refine p2.bnd fun _ => ?_
  | refine d1.bnd fun _ => ?_
  | refine b1.bnd fun _ => ?_
  | refine x1.bnd fun _ => ?_
  | refine h1.bnd fun _ => ?_
  | refine h2.bnd fun _ => ?_
  | refine h3.bnd fun _ => ?_
  | refine (lC _).bnd fun _ => ?_
  | refine (f0 (by assumption)).bnd fun _ => ?_
  | refine (f1 (by assumption)).bnd fun _ => ?_
theorem cy (N : Nat) : ∀ (l : List A0), l.length + szs A0.sz l ≤ N → N ≤ 1048576 → ∀ deep, AG (Ak l deep) := by
 induction N using Nat.strongRecOn with
 | _ N ih =>
  intro l hl hN deep
  rw [Ak]
  refine NW l (fun i => Ai l deep i) (fun k x hx hk => ?_) ?_
  ·have h1 := TG hx
   have h2 := Cq A0.sz (V4 hx)
   have h3 : x.Kids.length + szs A0.sz x.Kids < N := by
    have := A0.sz_eq x
    omega
   have j17 : AG (Bh l deep k x) := by
    rw [Bh, Jj (by omega)]
    exact AG.ite (fun _ => AG.ite (fun _ => .ret) fun _ => (ih _ h3 x.Kids (Nat.le_refl _) (by omega) _).bnd fun _ => AG.ite (fun _ => hk) fun _ => .ret) fun _ => hk
   show AG (Ai l deep k)
   rw [Ai, V2 hx, Gx hx]
   exact (ru x (by omega)).bnd fun _ => AG.ite (fun _ => AG.ite (fun _ => AG.ite (fun h => (l9 hx h (by omega)).bnd fun _ => AG.ite (fun _ => .ret) fun _ => j17) fun _ => j17) fun _ => j17) fun _ => .ret
  ·show AG (Ai l deep _)
   rw [Ai, Q5]; exact .ret
theorem il {α ρ : Type} (l : List α) (F : Int → Int → Option ρ) (hF : ∀ (k : Nat) x a, l[k]? = some x → (∀ b, AG (F b ((k + 1 : Nat) : Int))) → AG (F a (k : Int))) (h0 : ∀ a, AG (F a ((l.length : Nat) : Int))) : ∀ a, AG (F a 0) := by
 have key : ∀ (m k : Nat), k ≤ l.length → l.length ≤ k + m → ∀ a, AG (F a k) := by
  intro m
  induction m with
  | zero => intro k h1 h2 a; rw [show k = l.length by omega]; exact h0 a
  | succ m ih =>
   intro k h1 h2 a
   by_cases e : k = l.length
   ·rw [e]; exact h0 a
   ·exact hF k _ a (List.getElem?_eq_getElem (by omega)) (ih (k + 1) (by omega) (by omega))
 exact key l.length 0 (by omega) (by omega)
theorem lE : ∀ n : A0, n.sz ≤ 1048576 → AG (Aw n) := by
 refine A0.ind' fun n ih hs => ?_
 rw [A0.sz_eq] at hs
 rw [Aw]
 refine il n.Kids (fun a i => Ad a i n) (fun k x a hx hk => ?_) (fun a => ?_) _
 ·have := TG hx
  have h2 := Cq A0.sz (V4 hx)
  show AG (Ad a k n)
  rw [Ad, V2 hx, Gx hx, Jj (by omega)]
  exact (ih x (V4 hx) (by omega)).bnd fun _ => hk _
 ·show AG (Ad a _ n)
  rw [Ad, Q5]; exact .ret
theorem im (n : A0) (hs : n.sz ≤ 1048575) : AG (Cg n) := by
 have hz := hs
 rw [A0.sz_eq] at hz
 rw [Cg]
 refine (lE n (by omega)).bnd fun _ => AG.ite (fun _ => .ret) fun _ => AG.ite (fun _ => (cy 1048576 [n] (by rw [E3]; show 1 + (n.sz + 0) ≤ _; omega) (by omega) _).bnd fun _ => .ret) fun _ => ?_
 refine il n.Kids (fun a i => AT a i n) (fun k x a hx hk => ?_) (fun a => ?_) _
 ·have := TG hx
  have j33 : ∀ b, AG (Bi b k n) := fun b => by
   rw [Bi, Gx hx, Jj (by omega)]
   exact AG.ite (fun _ => .ret) fun _ => hk _
  show AG (AT a k n)
  rw [AT, V2 hx, Gx hx]
  simp only [if_true, A5]
  exact AG.ite (fun _ => j33 _) fun _ => j33 _
 ·show AG (AT a _ n)
  rw [AT, Q5]
  have kk := cy 1048576 n.Kids (by omega) (by omega) 0
  simp only [Bool.false_eq_true, if_false]
  repeat' first
   | exact AG.ret
   | refine AG.ite (fun _ => ?_) fun _ => ?_
   | refine kk.bnd fun _ => ?_
theorem cz (l : List A1) (p : ByteArray) (hl : l.length ≤ 4000000) (B : Nat) (hB : ∀ d ∈ l, d.Uri.size ≤ B) : AZ (B5 l p) fun r => r.1.size ≤ B := by
 rw [B5]
 have key : ∀ k : Nat, k ≤ l.length → AZ (B7 l p ((k : Int) - 1)) fun r => r.1.size ≤ B := by
  intro k
  induction k with
  | zero => intro _; rw [B7, RG (by omega)]; exact AZ.ret (Nat.zero_le _)
  | succ k ih =>
   intro hk
   rw [B7, Q4 (by omega), show ((k + 1 : Nat) : Int) - 1 = (k : Int) by omega]
   refine (AZ.getI (by omega) (by omega)).bnd fun x hx => AZ.ite (fun _ => AZ.ret (hB x hx.1)) fun _ => ?_
   rw [CF (by omega) (by omega)]
   exact ih (by omega)
 rw [CF (by simp only [AC]; omega) (by simp only [AC]; omega)]
 exact key l.length (Nat.le_refl _)
theorem ZE (l : List A1) (p : ByteArray) (hl : l.length ≤ 4000000) : AG (B5 l p) := by
 have : ∃ B, ∀ d ∈ l, d.Uri.size ≤ B := ⟨szs A1.sz l, fun d hd => by have := Cq A1.sz hd; rw [A1.sz_eq] at this; omega⟩
 obtain ⟨B, hB⟩ := this
 exact (cz l p hl B hB).ends
theorem io (l m : List A1) (hl : l.length + m.length ≤ 4000000) : DL l m = some (l ++ m) := by
 rw [DL, Fb (by omega) (by omega) (by omega), Fb (by omega) (by omega) (by omega)]; rfl
theorem ny : ∀ n : A0, n.sz ≤ 1048576 → ∀ l : List A1, l.length + n.sz ≤ 4000000 → AG (BG n l) := by
 refine A0.ind' fun n ih hs l hl => ?_
 have hz := A0.sz_eq n
 rw [BG, io _ _ (by omega)]
 have hlen : (l ++ n.Decls).length ≤ 4000000 := by rw [List.length_append]; omega
 have l45 : AG (AO (l ++ n.Decls) 0 n) := by
  refine NW n.Kids (fun i => AO (l ++ n.Decls) i n) (fun k x hx hk => ?_) ?_
  ·have := TG hx
   have h2 := Cq A0.sz (V4 hx)
   show AG (AO _ k n)
   rw [AO, V2 hx, Gx hx, Jj (by omega)]
   exact (ih x (V4 hx) (by omega) _ (by rw [List.length_append]; have := A0.sz_eq n; omega)).bnd fun _ => AG.ite (fun _ => hk) fun _ => .ret
  ·show AG (AO _ _ n)
   rw [AO, Q5]; exact .ret
 have j4 : AG (BM (l ++ n.Decls) n) := by
  rw [BM]
  refine NW n.Attrs (fun i => Am (l ++ n.Decls) i n) (fun k x hx hk => ?_) ?_
  ·have := TG hx
   show AG (Am _ k n)
   rw [Am, V2 hx, Gx hx, Jj (by omega)]
   exact (ZE _ _ hlen).bnd fun _ => AG.ite (fun _ => AG.ite (fun _ => AG.ite (fun _ => .ret) fun _ => hk) fun _ => .ret) fun _ => hk
  ·show AG (Am _ _ n)
   rw [Am, Q5]; exact l45
 rw [A5]
 exact AG.ite (fun _ => (ZE _ _ hlen).bnd fun _ => AG.ite (fun _ => AG.ite (fun _ => .ret) fun _ => j4) fun _ => .ret) fun _ => j4
theorem ip (n : A0) (hs : n.sz ≤ 1048575) : AG (CC n) := by
 rw [CC]
 have h1 := im n hs
 have h2 := ny n (by omega) [] (by show 0 + _ ≤ _; omega)
 repeat' first
  | exact AG.ret
  | refine AG.ite (fun _ => ?_) fun _ => ?_
  | refine h1.bnd fun _ => ?_
  | refine h2.bnd fun _ => ?_
end TT
