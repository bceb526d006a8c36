import Derived.Test.YtaeegkjcjlnanaaGreatDoorTP2Has
import Derived.Test.YtaeegkjcjlnanaaGreatDoorTP3Copy
set_option linter.unusedVariables false
set_option linter.unusedSimpArgs false
namespace TT
open Go
def TU (w : A8) : Bool := (CC w.Tre w.Path).2 && RY w.Tre
theorem U8 (w : A8) (hs : w.sz ≤ 1048576) : FV w = some (TU w) ∧ Da w = some (TU w) := by
 rw [A8.sz_eq] at hs
 obtain ⟨t1, t2⟩ := tR w.Tre (by omega)
 constructor
 ·rw [FV, XL _ _ (by omega) (by omega), t1, TU]
  simp only [A5]
  cases (CC w.Tre w.Path).2 <;> rfl
 ·rw [Da, O7 _ _ (by omega) (by omega), t2, TU]
  simp only [A5]
  cases (CC w.Tre w.Path).2 <;> rfl
end TT
namespace TT
open Go
theorem aH : ∀ (p : List Int) {n x : A0}, FJ n p = some x → p.length ≤ n.sz
 | [], n, x, h => Nat.zero_le _
 | i :: p, n, x, h => by
  obtain ⟨k, h1, h2⟩ := Option.bind_eq_some_iff.1 h
  have ih := aH p h2
  have hm := VS h1
  have h3 := Cp A0.sz hm
  have h4 : 1 ≤ n.Kids.length := List.length_pos_of_mem hm
  rw [A0.sz_eq n, List.length_cons]
  omega
theorem tT (w : A8) (hs : w.sz ≤ 1048576) : EM w = some w ∧ Bz w = some w := by
 rw [A8.sz_eq] at hs
 constructor
 ·rw [EM, Wg _ (by omega), DO (by omega) (by omega) (by omega)]
  simp only [A5, List.nil_append, Vw]
 ·rw [Bz, Wh _ (by omega), Bk, DO (by omega) (by omega) (by omega)]
  simp only [A5, Vw]
theorem mP (w : A8) (path : List Int) (hs : w.sz ≤ 1048576) (hp : path.length ≤ 1200000) : ∃ r, Hp w path = some r ∧ N1 w path = some r ∧ (r.1 = w ∨ (r.1 = ⟨w.Tre, path⟩ ∧ path.length ≤ w.Tre.sz)) := by
 obtain ⟨c1, c2⟩ := tT w hs
 obtain ⟨w1, w2⟩ := U8 w hs
 have hz : w.Tre.sz ≤ 1048576 := by rw [A8.sz_eq] at hs; omega
 rw [Hp, N1, c1, c2, XL _ _ hz (by omega), O7 _ _ hz (by omega), w1, w2, Bk, DO (by omega) (by omega) (by omega), DO (by omega) (by omega) (by omega)]
 simp only [A5, List.nil_append]
 cases hn : (CC w.Tre path).2 <;> cases TU w
 ·exact ⟨_, rfl, rfl, .inl rfl⟩
 ·exact ⟨_, rfl, rfl, .inl rfl⟩
 ·exact ⟨_, rfl, rfl, .inl rfl⟩
 ·refine ⟨_, rfl, rfl, .inr ⟨rfl, ?_⟩⟩
  rw [CC] at hn
  split at hn
  ·rename_i x hx; exact aH path hx
  ·cases hn
theorem jx {α : Type} (l : List α) (k : Nat) (h : k ≤ l.length) : slL l 0 (k : Int) = some (l.take k) := by
 unfold slL
 rw [if_pos ⟨by omega, by omega, by omega⟩]
 simp
end TT
namespace TT
open Go
theorem jy (path : List Int) (i : Int) (h : path.length ≤ 1200000) : Gi path i = some (path ++ [i]) ∧ FS path i = some (path ++ [i]) := by
 constructor
 ·rw [Gi, DO (by omega) (by omega) (by omega), DO (by omega) (by omega) (by omega)]
  simp
 ·have e : CP [path, [i]] = some (path ++ [i]) := by
   unfold CP
   have h1 : ([i] : List Int).length = 1 := rfl
   simp only [h1]
   rw [if_pos ⟨by omega, by omega⟩]
  rw [FS, e]; rfl
end TT
namespace TT
open Go
theorem tU (w : A8) (d : Int) (hs : w.sz ≤ 1048576) : ∃ r, JS w d = some r ∧ EZ w d = some r ∧ r.1.Tre.sz ≤ 1048576 ∧ r.1.Path.length ≤ 1048576 ∧ r.1.sz ≤ 1048577 := by
 obtain ⟨c1, c2⟩ := tT w hs
 obtain ⟨w1, w2⟩ := U8 w hs
 have hz := hs
 rw [A8.sz_eq] at hz
 rw [JS, EZ, c1, c2, w1, w2]
 have e1 : BA (AC w.Path) 1 = (w.Path.length : Int) - 1 := BT (by simp only [AC]; omega) (by simp only [AC]; omega)
 rw [e1]
 by_cases h0 : w.Path.length = 0
 ·rw [O6 (by omega), QB (by simp only [AC]; omega)]
  exact ⟨_, rfl, rfl, by show w.Tre.sz ≤ _; omega, by show w.Path.length ≤ _; omega, by show w.sz ≤ _; omega⟩
 ·rw [Eg (by omega), LS (by simp only [AC]; omega)]
  simp only [Bool.false_eq_true, if_false, A5]
  cases TU w with
  | false => exact ⟨_, rfl, rfl, by show w.Tre.sz ≤ _; omega, by show w.Path.length ≤ _; omega, by show w.sz ≤ _; omega⟩
  | true =>
   have e2 : (w.Path.length : Int) - 1 = ((w.Path.length - 1 : Nat) : Int) := by omega
   have hx : w.Path[w.Path.length - 1]? = some (w.Path[w.Path.length - 1]'(by omega)) := List.getElem?_eq_getElem (by omega)
   have hg : getI w.Path ((w.Path.length - 1 : Nat) : Int) = some (w.Path[w.Path.length - 1]'(by omega)) := by
    unfold getI
    rw [if_pos (by omega)]
    simp
   have ht : (w.Path.take (w.Path.length - 1)).length = w.Path.length - 1 := by simp
   rw [e2, jx _ _ (by omega), hg]
   simp only [if_true, A5]
   obtain ⟨j1, j2⟩ := jy (w.Path.take (w.Path.length - 1)) (AP (w.Path[w.Path.length - 1]'(by omega)) d) (by omega)
   rw [j1, j2]
   simp only [A5]
   obtain ⟨r, t1, t2, t3⟩ := mP w (w.Path.take (w.Path.length - 1) ++ [AP (w.Path[w.Path.length - 1]'(by omega)) d]) hs (by rw [List.length_append, ht, List.length_singleton]; omega)
   rw [t1, t2]
   refine ⟨r, rfl, rfl, ?_⟩
   rcases t3 with h | ⟨h, h'⟩
   ·rw [h]; exact ⟨by omega, by omega, by omega⟩
   ·rw [h, A8.sz_eq]
    simp only [List.length_append, ht, List.length_singleton] at h' ⊢
    exact ⟨by omega, by omega, by omega⟩
end TT
namespace TT
open Go
theorem pP (w : A8) (i : Int) (hs : w.sz ≤ 1048576) : ∃ r, P9 w i = some r ∧ I7 w i = some r ∧ r.1.Tre.sz ≤ 1048576 ∧ r.1.Path.length ≤ 1048576 ∧ r.1.sz ≤ 1048577 := by
 have hz := hs
 rw [A8.sz_eq] at hz
 obtain ⟨j1, j2⟩ := jy w.Path i (by omega)
 obtain ⟨r, t1, t2, t3⟩ := mP w (w.Path ++ [i]) hs (by rw [List.length_append, List.length_singleton]; omega)
 rw [P9, I7, j1, j2]
 simp only [A5]
 rw [t1, t2]
 refine ⟨r, rfl, rfl, ?_⟩
 rcases t3 with h | ⟨h, h'⟩
 ·rw [h]; exact ⟨by omega, by omega, by omega⟩
 ·rw [h, A8.sz_eq]
  simp only [List.length_append, List.length_singleton] at h' ⊢
  exact ⟨by omega, by omega, by omega⟩
end TT
namespace TT
open Go
theorem mQ (w : A8) (hs : w.sz ≤ 1048576) : ∃ r, NT w = some r ∧ Fc w = some r ∧ r.1.Tre.sz ≤ 1048576 ∧ r.1.Path.length ≤ 1048576 ∧ r.1.sz ≤ 1048577 := by
 obtain ⟨r, h1, h2, h3⟩ := tU w 1 hs
 exact ⟨r, by rw [NT, h1]; rfl, by rw [Fc, h2]; rfl, h3⟩
end TT
namespace TT
open Go
theorem wy (w : A8) (hs : w.sz ≤ 1048576) : ∃ r, Uo w = some r ∧ HZ w = some r ∧ r.1.Tre.sz ≤ 1048576 ∧ r.1.Path.length ≤ 1048576 ∧ r.1.sz ≤ 1048577 := by
 obtain ⟨c1, c2⟩ := tT w hs
 have hz := hs
 rw [A8.sz_eq] at hz
 have e1 : BA (AC w.Path) 1 = (w.Path.length : Int) - 1 := BT (by simp only [AC]; omega) (by simp only [AC]; omega)
 rw [Uo, HZ, c1, c2, e1]
 by_cases h0 : w.Path.length = 0
 ·rw [QB (by simp only [AC]; omega)]
  exact ⟨_, rfl, rfl, by show w.Tre.sz ≤ _; omega, by show w.Path.length ≤ _; omega, by show w.sz ≤ _; omega⟩
 ·have e2 : (w.Path.length : Int) - 1 = ((w.Path.length - 1 : Nat) : Int) := by omega
  rw [LS (by simp only [AC]; omega), e2, jx _ _ (by omega)]
  simp only [Bool.false_eq_true, if_false, A5]
  have ht : (w.Path.take (w.Path.length - 1)).length = w.Path.length - 1 := by simp
  obtain ⟨r, t1, t2, t3⟩ := mP w (w.Path.take (w.Path.length - 1)) hs (by omega)
  rw [t1, t2]
  refine ⟨r, rfl, rfl, ?_⟩
  rcases t3 with h | ⟨h, h'⟩
  ·rw [h]; exact ⟨by omega, by omega, by omega⟩
  ·rw [h, A8.sz_eq]
   simp only [ht] at h' ⊢
   exact ⟨by omega, by omega, by omega⟩
end TT
namespace TT
open Go
theorem pQ {x : A0} (h : VX x = true) : x.Kids = [] := by
 cases hk : x.Kids with
 | nil => rfl
 | cons y l =>
  have e : Np (AC x.Kids) 0 = true := by rw [hk]; exact PG (by simp only [AC, List.length_cons]; omega)
  rw [VX, FU, e] at h
  revert h
  cases neS x.Pre ⟨#[]⟩ <;> cases neS x.Uri ⟨#[]⟩ <;> cases Np (AC x.Decls) 0 <;> cases Np (AC x.Attrs) 0 <;> intro h <;> cases h
theorem tV {x k : A0} {i : Int} {d : Nat} (hs : x.sz ≤ 1048576) (hd : d ≤ 7) (hp : pB d x = true) (hk : getI x.Kids i = some k) : x.Kind = 1 ∧ d + 1 ≤ 7 ∧ pB ((d + 1 : Nat) : Int) k = true := by
 have hm := VS hk
 cases h1 : Av x.Kind 1 with
 | false =>
  obtain ⟨l1, l2⟩ := tM x (by omega) h1
  have : pB d x = VX x := by rw [pB, B7, N6, h1, l2]; rfl
  rw [this] at hp
  rw [pQ hp] at hm
  cases hm
 | true =>
  by_cases h7 : d = 7
  ·subst h7
   have : pB ((7 : Nat) : Int) x = false := by rw [pB, B7, N6, h1]; rfl
   rw [this] at hp
   cases hp
  ·obtain ⟨e1, e2⟩ := A0g x (by omega) h1
   have hadd : AP (d : Int) 1 = ((d + 1 : Nat) : Int) := by rw [Al (by omega) (by omega)]; omega
   have e3 := e2 d _ (QA (by omega)) (by rw [hadd]; exact eH x hs (d + 1) (by omega))
   have : pB d x = (elB x && MO ((d + 1 : Nat) : Int) x.Kids) := by rw [pB, e3]; rfl
   rw [this, Bool.and_eq_true, MO, Bool.and_eq_true] at hp
   exact ⟨Pp.1 h1, by omega, List.all_eq_true.1 hp.2.2 k hm⟩
theorem tW {t k : A0} {i : Int} (hs : t.sz ≤ 1048576) (ht : RY t = true) (hk : getI t.Kids i = some k) : t.Kind = 0 ∧ pB ((0 : Nat) : Int) k = true := by
 rw [RY, Bool.and_eq_true, Bool.and_eq_true] at ht
 obtain ⟨h0, hn, _⟩ := ht
 refine ⟨Pp.1 h0, ?_⟩
 have hb := (tN t hs).1
 rw [hn, DX, (nI t hs).choose_spec.1] at hb
 simp only [A5, N6, h0, Bool.not_true, Bool.false_eq_true, if_false] at hb
 have hl : t.Kids.length ≤ 4000000 := by rw [A0.sz_eq] at hs; omega
 have hd : Ab 0 0 t = _ := Wk t hs t.Kids [] 0 rfl (by omega)
 rw [hd] at hb
 split at hb
 ·cases hb
 ·have hb := Option.some.inj hb
  simp only [Bool.and_eq_true] at hb
  have := hb.2.2.2
  rw [MO, Bool.and_eq_true] at this
  exact List.all_eq_true.1 this.2 k (VS hk)
theorem aI (w : A8) (hw : w.sz ≤ 1048576) (hok : TU w = true) : ∀ (rest pre : List Int) (x : A0) (d : Nat) (n : Nat), pre ++ rest = w.Path → x.sz ≤ 1048576 → d ≤ 7 → pB d x = true → (∃ y, FJ x rest = some y) → n + rest.length ≤ 2000000 → BF n pre.length w x = some ((n + rest.length : Nat) : Int)
 | [], pre, x, d, n, hp, hs, hd, hx, hy, hn => by rw [BF, Fd hp]; rfl
 | i :: rest, pre, x, d, n, hp, hs, hd, hx, hy, hn => by
  obtain ⟨y, hy⟩ := hy
  obtain ⟨k, h1, h2⟩ := Option.bind_eq_some_iff.1 hy
  obtain ⟨g1, g2, g3⟩ := tV hs hd hx h1
  have hl : w.Path.length ≤ 1048576 := by rw [A8.sz_eq] at hw; omega
  rw [List.length_cons] at hn
  have ih := aI w hw hok rest (pre ++ [i]) k (d + 1) (n + 1) (Er hp) (Nat.le_trans (Zi h1) hs) g2 g3 ⟨y, h2⟩ (by omega)
  have e : AP (n : Int) 1 = ((n + 1 : Nat) : Int) := by rw [Al (by omega) (by omega)]; omega
  rw [BF, EV hp, CT hp, DN hp (by rw [BX]; omega), (U8 w hw).1, hok, QB g1]
  simp only [if_true, A5, h1, e]
  rw [ih, List.length_cons]
  congr 2; omega
theorem mR (w : A8) (hw : w.sz ≤ 1048576) : ∃ r, NU w = some r ∧ Bu w = some r := by
 have hl : w.Path.length ≤ 1048576 := by rw [A8.sz_eq] at hw; omega
 rw [Bu, (U8 w hw).2, NU]
 simp only [A5]
 cases hp : w.Path with
 | nil =>
  refine ⟨0, by rw [BF, hp]; rfl, ?_⟩
  cases TU w <;> rfl
 | cons i rest =>
  rw [hp, List.length_cons] at hl
  have e0 : Hz (0 : Int) (AC w.Path) = true := O6 (by rw [hp]; simp only [AC, List.length_cons]; omega)
  cases hok : TU w with
  | false => exact ⟨0, by rw [BF, e0, (U8 w hw).1, hok]; rfl, rfl⟩
  | true =>
   have hok' := hok
   rw [TU, Bool.and_eq_true] at hok'
   have hsz : w.Tre.sz ≤ 1048576 := by rw [A8.sz_eq] at hw; omega
   have hn : ∃ y, FJ w.Tre w.Path = some y := by
    have := hok'.1
    rw [CC] at this
    split at this
    ·rename_i y hy; exact ⟨y, hy⟩
    ·cases this
   rw [hp] at hn
   obtain ⟨y, hy⟩ := hn
   obtain ⟨k, h1, h2⟩ := Option.bind_eq_some_iff.1 hy
   obtain ⟨g1, g2⟩ := tW hsz hok'.2 h1
   have ih := aI w hw hok rest [i] k 0 0 (by rw [hp]; rfl) (Nat.le_trans (Zi h1) hsz) (by omega) g2 ⟨y, h2⟩ (by omega)
   have ih' : BF 0 1 w k = some ((0 + rest.length : Nat) : Int) := ih
   have e1 : getI w.Path 0 = some i := by rw [hp]; rfl
   have e2 : AP (0 : Int) 1 = 1 := rfl
   refine ⟨((0 + rest.length : Nat) : Int), ?_, ?_⟩
   ·rw [BF, e0, (U8 w hw).1, hok, LS (show w.Tre.Kind ≠ 1 by omega)]
    simp only [if_true, A5, Bool.false_eq_true, if_false, e1, h1, e2]
    exact ih'
   ·simp only [if_true]
    congr 1
    have e3 : BA (AC (i :: rest)) 1 = (rest.length : Int) := by
     rw [BT (by simp only [AC, List.length_cons]; omega) (by simp only [AC, List.length_cons]; omega)]
     simp only [AC, List.length_cons]; omega
    rw [e3, Nat.zero_add]
    unfold er
    split <;> omega
end TT
