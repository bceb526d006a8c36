import Derived.Test.YtaeegkjcjlnanaaGreatDoorTP3Merge
import Derived.Test.YtaeegkjcjlnanaaGreatDoorTP3Copy
set_option linter.unusedVariables false
set_option linter.unusedSimpArgs false
namespace TT
open Go
section
variable (l : List A0) (hl : l.length ≤ 4000000)
include hl
theorem YW {pre rest out : List A0} {x : A0} (hp : pre ++ x :: rest = l) (hw : wt out + (1 + x.sz) ≤ 1048576) : C4 out l pre.length = C4 (O7 out x) l ((pre ++ [x]).length : Nat) := by
 have hol := MN out
 have hcp := IK x (by omega)
 have hr : room (out.length + 1) 144 = some () := DX (by omega) (by omega) (by omega)
 have hx := Vp x
 rw [C4, EC hp, Bb hp]
 simp only [if_true, A3]
 have app : E8 out l pre.length false x = C4 (out ++ [x]) l ((pre ++ [x]).length : Nat) := by
  rw [E8, hcp, hr, Cw hp (by rw [B9]; omega)]; rfl
 unfold O7
 by_cases h2 : x.Kind = 2
 ·rw [G9 h2, if_pos h2, FR, G9 h2, Cw hp (by rw [B9]; omega)]
  simp only [if_true]
  by_cases h3 : x.Text = ⟨#[]⟩
  ·rw [SW.2 h3, if_pos h3]; rfl
  ·rw [xm h3, if_neg h3]
   simp only [Bool.false_eq_true, if_false]
   rcases List.eq_nil_or_concat out with rfl | ⟨o, y, rfl⟩
   ·rw [Pg (by simp [A8])]
    exact app
   ·rw [List.concat_eq_append] at app hr hw hol ⊢
    rw [Cc, DY] at hw
    have hy := Vp y
    have hol' : o.length ≤ 4000000 := by rw [List.length_append] at hol; have := MN o; omega
    rw [Lp (by simp only [A8, List.length_append, List.length_singleton]; omega), Z0 hol']
    simp only [if_true, Bb (show o ++ y :: [] = o ++ [y] from rfl), A3, List.getLast?_concat, List.dropLast_concat]
    by_cases h4 : y.Kind = 2
    ·rw [G9 h4, if_pos h4, E8, Z0 hol']
     simp only [if_true, Bb (show o ++ y :: [] = o ++ [y] from rfl), A3, nd (show y.Text.size + x.Text.size ≤ 4000000 by omega), kI, Cw hp (show l.length ≤ maxLen by rw [B9]; omega)]
     rfl
    ·rw [DJ h4, if_neg h4]; exact app
 ·rw [DJ h2, if_neg h2]
  simp only [Bool.false_eq_true, if_false]
  rw [FR, DJ h2]
  simp only [Bool.false_eq_true, if_false]
  exact app
end
theorem Xt (l : List A0) (hl : l.length ≤ 4000000) : ∀ rest pre out : List A0, pre ++ rest = l → wt out + wt rest ≤ 1048576 → C4 out l pre.length = some (rest.foldl O7 out)
 | [], pre, out, hp, hw => by rw [C4, FU hp]; rfl
 | x :: rest, pre, out, hp, hw => by
  rw [DY] at hw
  have h1 := kH out x
  rw [YW l hl hp (by omega)]
  exact Xt l hl rest (pre ++ [x]) (O7 out x) (Ej hp) (by omega)
theorem ae (l : List A0) (h : wt l ≤ 1048576) : Fj l = some (Fz l) ∧ Nj l = some (Fz l) ∧ wt (Fz l) ≤ wt l := by
 have := MN l
 obtain ⟨g1, g3⟩ := aX l h
 exact ⟨g1, by rw [Nj]; exact Xt l (by omega) l [] [] rfl (by show 0 + _ ≤ _; omega), g3⟩
end TT
namespace TT
open Go
theorem nf {x y : A0} : ∀ {l : List A0} {i : Nat}, l[i]? = some x → szs A0.sz (l.set i y) + x.sz = szs A0.sz l + y.sz
 | z :: l, 0, h => by
  simp only [List.getElem?_cons_zero, Option.some.injEq] at h
  subst h
  rw [List.set_cons_zero, CY, CY]; omega
 | z :: l, i + 1, h => by
  rw [List.getElem?_cons_succ] at h
  have := nf (y := y) h
  rw [List.set_cons_succ, CY, CY]; omega
theorem Pn {l : List A0} {i : Int} {x : A0} (h : getI l i = some x) : 0 ≤ i ∧ i.toNat < l.length ∧ l[i.toNat]? = some x := by
 unfold getI at h
 split at h
 ·rename_i h0
  exact ⟨h0, (List.getElem?_eq_some_iff.1 h).1, h⟩
 ·cases h
theorem iH {α : Type} (l : List α) (k : Nat) (h : k ≤ l.length) : slL l 0 (k : Int) = some (l.take k) := by
 unfold slL; rw [if_pos ⟨by omega, by omega, by omega⟩]; simp
theorem Vr {α : Type} (l : List α) (k : Nat) (h : k ≤ l.length) : slL l (k : Int) (A8 l) = some (l.drop k) := by
 unfold slL; rw [if_pos ⟨by omega, by simp only [A8]; omega, by simp only [A8]; omega⟩]
 simp only [A8, Int.toNat_natCast]
 rw [List.take_of_length_le (by simp)]
def EA (n : A0) (l : List A0) : A0 := A0.mk n.Kind n.Pre n.Local n.Uri n.Decls n.Attrs l n.Text
theorem Xu (n : A0) (l : List A0) : (EA n l).sz + (n.Kids.length + szs A0.sz n.Kids) = n.sz + (l.length + szs A0.sz l) := by
 rw [A0.sz_eq (EA n l), A0.sz_eq n]
 simp only [EA]; omega
def OQ (k j : Nat) (l : List A0) : List Int → A0 → A0
 | [], n => EA n (Fz (n.Kids.take k ++ l ++ n.Kids.drop j))
 | i :: p, n => match getI n.Kids i with
  | some x => EA n (n.Kids.set i.toNat (OQ k j l p x))
  | none => n
theorem Vs (L : List A0) (k j : Nat) (h : k ≤ j) (l : List A0) : wt (L.take k ++ l ++ L.drop j) ≤ wt L + wt l := by
 have h1 : wt (L.take k) + wt (L.drop k) = wt L := by rw [← Cc, List.take_append_drop]
 have h2 : wt ((L.drop k).take (j - k)) + wt (L.drop j) = wt (L.drop k) := by
  rw [← Cc]
  have : L.drop j = (L.drop k).drop (j - k) := by rw [List.drop_drop]; congr 1; omega
  rw [this, List.take_append_drop]
 rw [Cc, Cc]; omega
theorem X3 (k j : Nat) (hkj : k ≤ j) (l : List A0) : ∀ (p : List Int) (n x : A0), p.length ≤ 2000000 → BA n p = some x → j ≤ x.Kids.length → n.sz + wt l ≤ 1048576 →
  Fl n p (k : Int) (j : Int) l = some (OQ k j l p n) ∧ (OQ k j l p n).sz ≤ n.sz + wt l
 | [], n, x, hp, hx, hj, hs => by
  simp only [BA, Option.some.injEq] at hx
  subst hx
  have hk := O5 (n := n)
  have hz := hs
  rw [A0.sz_eq n] at hz
  have hw : wt (n.Kids.take k ++ l ++ n.Kids.drop j) ≤ wt n.Kids + wt l := Vs _ _ _ hkj l
  have hwk : wt n.Kids = n.Kids.length + szs A0.sz n.Kids := rfl
  obtain ⟨m1, m2, m3⟩ := ae (n.Kids.take k ++ l ++ n.Kids.drop j) (by omega)
  have hll := MN l
  have hl1 : (n.Kids.take k).length ≤ n.Kids.length := by rw [List.length_take]; omega
  have hl2 : (n.Kids.drop j).length ≤ n.Kids.length := by rw [List.length_drop]; omega
  constructor
  ·rw [Fl, G9 (show A8 ([] : List Int) = 0 from rfl), iH _ _ (by omega), Vr _ _ hj]
   simp only [if_true, A3, List.nil_append]
   rw [DX (by omega) (by omega) (by omega), DX (by omega) (by omega) (by omega), DX (by omega) (by omega) (by omega), m1]
   rfl
  ·have := Xu n (Fz (n.Kids.take k ++ l ++ n.Kids.drop j))
   have hm : wt (Fz (n.Kids.take k ++ l ++ n.Kids.drop j)) = (Fz (n.Kids.take k ++ l ++ n.Kids.drop j)).length + szs A0.sz (Fz (n.Kids.take k ++ l ++ n.Kids.drop j)) := rfl
   show (EA n _).sz ≤ _
   omega
 | i :: p, n, x, hp, hx, hj, hs => by
  obtain ⟨y, h1, h2⟩ := Option.bind_eq_some_iff.1 hx
  obtain ⟨i0, i1, i2⟩ := Pn h1
  have hk := O5 (n := n)
  have hy := UV h1
  have hl : p.length ≤ 2000000 := by rw [List.length_cons] at hp; omega
  obtain ⟨g1, g2⟩ := X3 k j hkj l p y x hl h2 hj (by omega)
  have e1 : slL (i :: p) 1 (A8 (i :: p)) = some p := Vr (i :: p) 1 (by simp)
  have e2 : getI (i :: p) 0 = some i := rfl
  constructor
  ·rw [Fl, DJ (by simp only [A8, List.length_cons]; omega), DX (by omega) (by omega) (by omega), e1, e2]
   simp only [Bool.false_eq_true, if_false, A3, h1, g1, List.nil_append, OQ]
   rfl
  ·have := Xu n (n.Kids.set i.toNat (OQ k j l p y))
   have h3 := nf (y := OQ k j l p y) i2
   simp only [OQ, h1]
   rw [List.length_set] at this
   omega
theorem OR : ∀ (p : List Int) {n y : A0} {k : Int}, BA n (p ++ [k]) = some y → ∃ x, BA n p = some x ∧ getI x.Kids k = some y
 | [], n, y, k, h => by
  rw [List.nil_append] at h
  obtain ⟨z, h1, h2⟩ := Option.bind_eq_some_iff.1 h
  simp only [BA, Option.some.injEq] at h2
  exact ⟨n, rfl, by rw [h1, h2]⟩
 | i :: p, n, y, k, h => by
  rw [List.cons_append] at h
  obtain ⟨z, h1, h2⟩ := Option.bind_eq_some_iff.1 h
  obtain ⟨x, h3, h4⟩ := OR p h2
  exact ⟨x, by show (getI n.Kids i).bind _ = _; rw [h1]; exact h3, h4⟩
theorem X4 (k : Nat) (l : List A0) : ∀ (p : List Int) (n x : A0), p.length ≤ 2000000 → BA n p = some x → k < x.Kids.length → n.sz + wt l ≤ 1048576 →
  BO n p (k : Int) l = some (OQ k (k + 1) l p n)
 | [], n, x, hp, hx, hj, hs => by
  simp only [BA, Option.some.injEq] at hx
  subst hx
  have hk := O5 (n := n)
  have hz := hs
  rw [A0.sz_eq n] at hz
  have hw : wt (n.Kids.take k ++ l ++ n.Kids.drop (k + 1)) ≤ wt n.Kids + wt l := Vs _ _ _ (by omega) l
  have hwk : wt n.Kids = n.Kids.length + szs A0.sz n.Kids := rfl
  obtain ⟨m1, m2, m3⟩ := ae (n.Kids.take k ++ l ++ n.Kids.drop (k + 1)) (by omega)
  have hll := MN l
  have hl1 : (n.Kids.take k).length ≤ n.Kids.length := by rw [List.length_take]; omega
  have hl2 : (n.Kids.drop (k + 1)).length ≤ n.Kids.length := by rw [List.length_drop]; omega
  have e1 : AY (k : Int) 1 = ((k + 1 : Nat) : Int) := by rw [Af (by omega) (by omega)]; omega
  rw [BO, IK n (by omega), G9 (show A8 ([] : List Int) = 0 from rfl)]
  simp only [if_true, A3]
  rw [Gx, ND, e1, iH _ _ (by omega), Vr _ _ (by omega)]
  simp only [A3]
  rw [Fk]
  rw [if_pos ⟨by omega, by omega⟩]
  simp only [A3, m2]
  rfl
 | i :: p, n, x, hp, hx, hj, hs => by
  obtain ⟨y, h1, h2⟩ := Option.bind_eq_some_iff.1 hx
  have hy := UV h1
  have hl : p.length ≤ 2000000 := by rw [List.length_cons] at hp; omega
  have g1 := X4 k l p y x hl h2 hj (by omega)
  have e1 : slL (i :: p) 1 (A8 (i :: p)) = some p := Vr (i :: p) 1 (by simp)
  have e2 : getI (i :: p) 0 = some i := rfl
  rw [BO, IK n (by omega), DJ (by simp only [A8, List.length_cons]; omega), e1, e2]
  simp only [Bool.false_eq_true, if_false, A3, h1, g1, OQ]
  rfl
theorem mw (n : A0) (path : List Int) (l : List A0) (hs : n.sz + wt l ≤ 1048576) (hp : path.length ≤ 1048576) : ∃ r, I1 n path l = some r ∧ Hz n path l = some r ∧ r.1.sz ≤ n.sz + wt l := by
 have c1 := KY n (by omega)
 have c2 := IK n (by omega)
 have a1 := Lq n path (by omega) (by omega)
 have a2 := Gd n path (by omega) (by omega)
 rw [I1, Hz, a1, a2, c1, c2]
 rcases List.eq_nil_or_concat path with rfl | ⟨p, k, rfl⟩
 ·rw [G9 (show A8 ([] : List Int) = 0 from rfl)]
  refine ⟨(n, false), rfl, ?_, Nat.le_add_right _ _⟩
  rfl
 ·rw [List.concat_eq_append] at hp ⊢
  rw [List.length_append, List.length_singleton] at hp
  have e1 : BE (A8 (p ++ [k])) 1 = (p.length : Int) := by
   rw [Bw (by simp only [A8, List.length_append, List.length_singleton]; omega) (by simp only [A8, List.length_append, List.length_singleton]; omega)]
   simp only [A8, List.length_append, List.length_singleton]; omega
  have e2 : getI (p ++ [k]) (p.length : Int) = some k := Bb (show p ++ k :: [] = p ++ [k] from rfl)
  have e3 : slL (p ++ [k]) 0 (p.length : Int) = some p := by rw [iH _ _ (by simp)]; simp
  rw [DJ (by simp only [A8, List.length_append, List.length_singleton]; omega), e1, e2, e3]
  simp only [Bool.false_eq_true, if_false, A3]
  cases hn : BA n (p ++ [k]) with
  | none =>
   simp only [CJ, hn, Bool.false_eq_true, if_false]
   exact ⟨_, rfl, rfl, Nat.le_add_right _ _⟩
  | some y =>
   simp only [CJ, hn, if_true]
   obtain ⟨x, h1, h2⟩ := OR p hn
   obtain ⟨k0, k1, k2⟩ := Pn h2
   have hx := KZ p h1
   have hxk := O5 (n := x)
   have hk : k = ((k.toNat : Nat) : Int) := by omega
   have e4 : AY k 1 = ((k.toNat + 1 : Nat) : Int) := by rw [Af (by omega) (by omega)]; omega
   obtain ⟨t1, t2⟩ := X3 k.toNat (k.toNat + 1) (by omega) l p n x (by omega) h1 (by omega) hs
   have t3 := X4 k.toNat l p n x (by omega) h1 k1 hs
   rw [← hk, ← e4] at t1
   rw [← hk] at t3
   rw [t1, t3]
   simp only [A3, KY _ (Nat.le_trans t2 hs)]
   exact ⟨_, rfl, rfl, t2⟩
end TT
