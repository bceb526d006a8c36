import Derived.Test.YtaeegkjcjlnanaaGreatDoorTP2Sign
import Derived.Lib.IndexMore
import Derived.Lib.Fold
import Derived.Test.YtaeegkjcjlnanaaGreatDoorTP0
import Derived.Test.YtaeegkjcjlnanaaGreatDoorTP1
import Derived.Test.YtaeegkjcjlnanaaGreatDoorTHX4
set_option linter.unusedVariables false
set_option linter.unusedSimpArgs false
namespace TT
open Go
theorem jo (s : ByteArray) (i k : Nat) : (s.extract i k).toList = (s.data.toList.drop i).take (k - i) := by
 rw [Lib.toList_data, Lib.extract_data]
theorem Pt (s : ByteArray) : s.data.toList.length = s.size := Array.length_toList
theorem tH (s t : ByteArray) (ht : 1 ≤ t.size) (hs : s.size ≤ 4000000) (hts : t.size ≤ 4000000) : ∀ (m i : Nat), i ≤ s.size → s.size - i ≤ m →
  ∃ b, Bg s t i = some b ∧ (b = true ↔ ∃ j, i ≤ j ∧ j ≤ s.size ∧ Lib.occAt s.data.toList t.data.toList j = true) := by
 intro m
 have hz : ∀ i, s.size < i + t.size → ∀ j, i ≤ j → j ≤ s.size → Lib.occAt s.data.toList t.data.toList j = false := fun i hi j h1 h2 => by
  rw [Bool.eq_false_iff]
  intro h
  rcases Lib.occAt_room h with h' | h'
  ·rw [Pt, Pt] at h'; omega
  ·have := Pt t; rw [h'] at this; simp at this; omega
 have hend : ∀ i, i ≤ s.size → s.size < i + t.size → ∃ b, Bg s t i = some b ∧ (b = true ↔ ∃ j, i ≤ j ∧ j ≤ s.size ∧ Lib.occAt s.data.toList t.data.toList j = true) := fun i hi h => by
  refine ⟨false, ?_, ?_⟩
  ·rw [Bg, Al (by simp only [AS]; omega) (by simp only [AS]; omega), XI (by simp only [AS]; omega)]; rfl
  ·constructor
   ·intro h; cases h
   ·rintro ⟨j, h1, h2, h3⟩
    rw [hz i h j h1 h2] at h3; cases h3
 induction m with
 | zero => intro i h hm; exact hend i h (by omega)
 | succ m ih =>
  intro i h hm
  by_cases hi : i + t.size ≤ s.size
  ·obtain ⟨b, h1, h2⟩ := ih (i + 1) (by omega) (by omega)
   have hsub : PV s i ((i : Int) + t.size) = some (s.extract i (i + t.size)) := by
    unfold PV
    rw [if_pos ⟨by omega, by omega, by omega⟩]
    congr 1
   have hocc : Lib.occAt s.data.toList t.data.toList i = ((s.extract i (i + t.size)).toList == t.toList) := by
    rw [Lib.occAt_iff_take _ _ _ (by rw [Pt, Pt]; exact hi), jo, Pt, Lib.toList_data, show i + t.size - i = t.size by omega]
   have e1 : AP (i : Int) (AS t) = (i : Int) + t.size := Al (by simp only [AS]; omega) (by simp only [AS]; omega)
   rw [Bg, e1, TQ (by simp only [AS]; omega)]
   have he : D7 (s.extract i (i + t.size)) t = Lib.occAt s.data.toList t.data.toList i := by rw [D7]; exact hocc.symm
   simp only [if_true, hsub, A5, he]
   cases ho : Lib.occAt s.data.toList t.data.toList i with
   | true => exact ⟨true, rfl, fun _ => ⟨i, Nat.le_refl _, by omega, ho⟩, fun _ => rfl⟩
   | false =>
    refine ⟨b, ?_, h2.trans ⟨fun ⟨j, g1, g2, g3⟩ => ⟨j, by omega, g2, g3⟩, fun ⟨j, g1, g2, g3⟩ => ⟨j, ?_, g2, g3⟩⟩⟩
    ·simp only [Bool.false_eq_true, if_false]
     rw [Al (by omega) (by omega)]
     exact h1
    ·by_cases e : j = i
     ·subst e; rw [ho] at g3; cases g3
     ·omega
  ·exact hend i h (by omega)
theorem gp (s t : ByteArray) (ht : 1 ≤ t.size) (hs : s.size ≤ 4000000) (hts : t.size ≤ 4000000) : Cw s t = some (Ey s t) ∧ strings_Contains s t = some (Ey s t) := by
 refine ⟨?_, by rw [strings_Contains, if_pos (by omega)]⟩
 obtain ⟨b, h1, h2⟩ := tH s t ht hs hts s.size 0 (Nat.zero_le _) (by omega)
 have h1' : Bg s t 0 = some b := h1
 rw [Cw, h1']
 congr 1
 rw [Bool.eq_iff_iff, h2, Ey, Lib.contains, decide_eq_true_iff]
 rcases Lib.index_spec s.data.toList t.data.toList with ⟨g1, g2⟩ | ⟨i, g1, g2, g3, _⟩
 ·rw [g1]
  constructor
  ·rintro ⟨j, _, a, b⟩
   rw [g2 j (by rw [Pt]; exact a)] at b; cases b
  ·intro h; omega
 ·rw [g1]
  exact ⟨fun _ => by omega, fun _ => ⟨i, Nat.zero_le _, by rw [Pt] at g2; exact g2, g3⟩⟩
theorem Zz (x y : UInt8) (h : 97 ≤ y.toNat ∧ y.toNat ≤ 122) : Lib.foldEq x y = (decide (x.toNat = y.toNat) || decide (x.toNat + 32 = y.toNat)) := by
 rw [Bool.eq_iff_iff, Lib.foldEq, Bool.or_eq_true, decide_eq_true_iff, decide_eq_true_iff, decide_eq_true_iff]
 have := x.toNat_lt
 omega
theorem wn (s : ByteArray) (hs : s.size ≤ 4000000) : Hm s = some (SM s ⟨#[120, 109, 108]⟩) ∧ strings_EqualFold s ⟨#[120, 109, 108]⟩ = some (SM s ⟨#[120, 109, 108]⟩) := by
 refine ⟨?_, by rw [strings_EqualFold, if_pos ⟨by omega, by decide⟩]⟩
 rw [Hm]
 by_cases h : s.size = 3
 ·have hl := Pt s
  rw [h] at hl
  match hd : s.data.toList, hl with
  | [a, b, c], _ =>
   have g0 : s.get! 0 = a := by
    show s.data[0]! = a
    rw [← Array.getElem!_toList, hd]; rfl
   have g1 : s.get! 1 = b := by
    show s.data[1]! = b
    rw [← Array.getElem!_toList, hd]; rfl
   have g2 : s.get! 2 = c := by
    show s.data[2]! = c
    rw [← Array.getElem!_toList, hd]; rfl
   have e0 : PU s 0 = some ((a.toNat : Nat) : Int) := (U6 (i := 0) (k := 0) rfl (by omega)).trans (by rw [QK, g0])
   have e1 : PU s 1 = some ((b.toNat : Nat) : Int) := (U6 (i := 1) (k := 1) rfl (by omega)).trans (by rw [QK, g1])
   have e2 : PU s 2 = some ((c.toNat : Nat) : Int) := (U6 (i := 2) (k := 2) rfl (by omega)).trans (by rw [QK, g2])
   have hf : SM s ⟨#[120, 109, 108]⟩ = ((decide (a.toNat = 120) || decide (a.toNat = 88)) && ((decide (b.toNat = 109) || decide (b.toNat = 77)) && (decide (c.toNat = 108) || decide (c.toNat = 76)))) := by
    rw [SM, hd]
    show (Lib.foldEq a 120 && (Lib.foldEq b 109 && (Lib.foldEq c 108 && true))) = _
    rw [Zz a 120 (by decide), Zz b 109 (by decide), Zz c 108 (by decide), Bool.and_true]
    congr 1
    ·congr 1; rw [decide_eq_decide]; show a.toNat + 32 = 120 ↔ _; omega
    ·congr 1
     ·congr 1; rw [decide_eq_decide]; show b.toNat + 32 = 109 ↔ _; omega
     ·congr 1; rw [decide_eq_decide]; show c.toNat + 32 = 108 ↔ _; omega
   have ei : ∀ (x k : Nat), Av (x : Int) (k : Int) = decide (x = k) := fun x k => by
    rw [Av, Bool.eq_iff_iff, beq_iff_eq, decide_eq_true_iff]; omega
   have q1 := ei a.toNat 120; have q2 := ei a.toNat 88; have q3 := ei b.toNat 109; have q4 := ei b.toNat 77; have q5 := ei c.toNat 108; have q6 := ei c.toNat 76
   rw [sn, QB (by simp only [AS]; omega)]
   simp only [Bool.not_true, Bool.false_eq_true, if_false, e0, e1, e2, A5, hf]
   simp only [Int.cast_ofNat_Int] at q1 q2 q3 q4 q5 q6
   rw [q1, q2, q3, q4, q5, q6]
   cases decide (a.toNat = 120) <;> cases decide (a.toNat = 88) <;> cases decide (b.toNat = 109) <;> cases decide (b.toNat = 77) <;> cases decide (c.toNat = 108) <;> cases decide (c.toNat = 76) <;> rfl
 ·rw [sn, LS (by simp only [AS]; omega)]
  simp only [Bool.not_false, if_true]
  congr 1
  symm
  rw [SM, Bool.eq_false_iff]
  intro hh
  have hlen : ∀ (x y : List UInt8), Lib.equalFold x y = true → x.length = y.length := by
   intro x
   induction x with
   | nil => intro y h; cases y with
    | nil => rfl
    | cons _ _ => cases h
   | cons a x ih => intro y h; cases y with
    | nil => cases h
    | cons b y =>
     rw [Lib.equalFold, Bool.and_eq_true] at h
     simp [ih y h.2]
  have := hlen _ _ hh
  rw [Pt] at this
  exact h this
theorem a7 : ∀ (a b : List UInt8), ((Lib.compareBytes a b < 0) ↔ Op.bytesLess a b = true) ∧ (Lib.compareBytes a b = 0 ↔ a = b)
 | [], [] => by simp [Lib.compareBytes, Op.bytesLess]
 | [], _ :: _ => by simp [Lib.compareBytes, Op.bytesLess]
 | _ :: _, [] => by simp [Lib.compareBytes, Op.bytesLess]
 | x :: a, y :: b => by
  obtain ⟨h1, h2⟩ := a7 a b
  unfold Lib.compareBytes Op.bytesLess
  by_cases hxy : x < y
  ·rw [if_pos hxy]
   refine ⟨by simp [hxy], ?_⟩
   constructor
   ·intro h; cases h
   ·intro h; injection h with e; subst e; exact absurd hxy (UInt8.lt_irrefl x)
  ·rw [if_neg hxy]
   by_cases hyx : y < x
   ·rw [if_pos hyx]
    have hne : x ≠ y := fun e => by subst e; exact UInt8.lt_irrefl x hyx
    refine ⟨by simp [hxy, hne], ?_⟩
    constructor
    ·intro h; cases h
    ·intro h; injection h with e; exact absurd e hne
   ·rw [if_neg hyx]
    have e : x = y := UInt8.le_antisymm (UInt8.not_lt.1 hyx) (UInt8.not_lt.1 hxy)
    subst e
    refine ⟨by rw [h1]; simp [UInt8.lt_irrefl], by rw [h2]; simp⟩
theorem tI (s t : ByteArray) : Hz (LL s t) 0 = ltS s t := by
 rw [Hz, LL, ltS, Bool.eq_iff_iff, decide_eq_true_iff, (a7 _ _).1, Lib.toList_data, Lib.toList_data]
theorem tJ (s t : ByteArray) : Av (LL s t) 0 = D7 s t := by
 rw [Av, LL, D7, Bool.eq_iff_iff, beq_iff_eq, (a7 _ _).2, beq_iff_eq, Lib.toList_data, Lib.toList_data]
end TT
namespace TT
open Go
def PL (s : ByteArray) : Bool := (BN s).getD false
theorem U7 (s : ByteArray) (hs : s.size ≤ 4000000) : BN s = some (PL s) ∧ DY s = some (PL s) := by
 obtain ⟨b, h1, h2⟩ := tG s hs
 have e : PL s = b := by rw [PL, h1]; rfl
 exact ⟨by rw [h1, e], by rw [h2, e]⟩
theorem O8 (x y : ByteArray) : neS x y = !D7 x y := Bool.eq_iff_iff.2 Iff.rfl
theorem N6 (x y : Int) : neI x y = !Av x y := Bool.eq_iff_iff.2 Iff.rfl
theorem wo (x y : Bool) : neB x y = !eqB x y := Bool.eq_iff_iff.2 Iff.rfl
theorem wq (x y : Int) : geI x y = !Hz x y := by
 rw [geI, Hz, Bool.eq_iff_iff]; simp
theorem wv (x y : Int) : Np x y = !Rn x y := by
 rw [Np, Rn, Bool.eq_iff_iff]; simp
theorem nG (s : ByteArray) (hs : s.size ≤ 4000000) : ∃ b, GD s = some b ∧ EK s ⟨#[120, 109, 108]⟩ = some b := by
 have e3 : AS (⟨#[120, 109, 108]⟩ : ByteArray) = 3 := rfl
 rw [GD, EK, Bo, e3]
 by_cases h : 3 ≤ s.size
 ·have e : PV s 0 3 = some (s.extract 0 3) := by
   unfold PV
   rw [if_pos ⟨by omega, by omega, by omega⟩]; rfl
  rw [Q9 (by simp only [AS]; omega)]
  simp only [if_true, e, A5]
  exact ⟨_, rfl, rfl⟩
 ·rw [QA (by simp only [AS]; omega)]
  exact ⟨false, rfl, rfl⟩
def Xx (s : ByteArray) : Bool := (Dp s).getD false
theorem eF (s : ByteArray) (hs : s.size ≤ 4000000) : Dp s = some (Xx s) ∧ GJ s = some (Xx s) := by
 obtain ⟨b, h1, h2⟩ := nG s hs
 obtain ⟨p1, p2, _⟩ := KI s hs
 have h : ∃ c, Dp s = some c ∧ GJ s = some c := by
  rw [Dp, GJ, p1, p2, h1, h2]
  simp only [A5]
  cases D7 s ⟨#[]⟩ <;> cases Hs s <;> exact ⟨_, rfl, rfl⟩
 obtain ⟨c, h3, h4⟩ := h
 have e : Xx s = c := by rw [Xx, h3]; rfl
 exact ⟨by rw [h3, e], by rw [h4, e]⟩
def gq (u p : ByteArray) : Bool := PL u && (Rn (AS u) 40 && (!D7 u ⟨#[]⟩ || D7 p ⟨#[]⟩))
theorem a8 (u p : ByteArray) (hu : u.size ≤ 4000000) : Ho u p = some (gq u p) := by
 rw [Ho, (U7 u hu).2, gq]
 simp only [A5, O8]
 cases PL u <;> cases Rn (AS u) 40 <;> cases D7 u ⟨#[]⟩ <;> rfl
def jp (d : A1) : Bool := Xx d.Pre && gq d.Uri d.Pre
theorem pJ (d : A1) (hs : d.sz ≤ 4000000) : LQ d = some (jp d) := by
 rw [A1.sz_eq] at hs
 rw [LQ, (eF d.Pre (by omega)).2, a8 _ _ (by omega), jp]
 simp only [A5]
 cases Xx d.Pre <;> rfl
theorem pK (d : A1) (hs : d.sz ≤ 4000000) : GF d = some (jp d) := by
 rw [A1.sz_eq] at hs
 obtain ⟨b, h1, h2⟩ := nG d.Pre (by omega)
 obtain ⟨p1, p2, _⟩ := KI d.Pre (by omega)
 have e : Xx d.Pre = (D7 d.Pre ⟨#[]⟩ || (Hs d.Pre && !b)) := by
  have := (eF d.Pre (by omega)).1
  rw [Dp, p1, h1] at this
  simp only [A5] at this
  revert this
  cases D7 d.Pre ⟨#[]⟩ <;> cases Hs d.Pre <;> intro this <;> simp_all
 rw [GF, Dq, p1, h1, (U7 d.Uri (by omega)).1, jp, e, gq]
 simp only [A5, O8]
 cases D7 d.Pre ⟨#[]⟩ <;> cases Hs d.Pre <;> cases b <;> cases D7 d.Uri ⟨#[]⟩ <;> cases PL d.Uri <;> cases Rn (AS d.Uri) 40 <;> rfl
theorem YN {α : Type} {l pre rest : List α} {x y : α} (h : (pre ++ [y]) ++ x :: rest = l) (hl : l.length ≤ 4000000) : Np ((pre ++ [y]).length : Int) 0 = true ∧ getI l (BA ((pre ++ [y]).length : Int) 1) = some y := by
 have hlen : (pre ++ [y]).length = pre.length + 1 := by simp
 have hb : pre.length + 1 ≤ l.length := by rw [← h]; simp
 refine ⟨PG (by rw [hlen]; omega), ?_⟩
 have e : BA ((pre ++ [y]).length : Int) 1 = (pre.length : Int) := by
  rw [BT (by omega) (by omega), hlen]; omega
 rw [e]
 exact CT (rest := x :: rest) (by rw [← h]; simp)
theorem YO {α : Type} (pre : List α) : pre = [] ∨ ∃ p y, pre = p ++ [y] := by
 rcases List.eq_nil_or_concat pre with h | ⟨p, y, h⟩
 ·exact .inl h
 ·exact .inr ⟨p, y, by rw [h, List.concat_eq_append]⟩
theorem aA (l : List A1) (hl : l.length ≤ 4000000) (hs : ∀ d ∈ l, d.sz ≤ 4000000) : ∀ (rest pre : List A1), pre ++ rest = l → ∃ b, BD l pre.length = some b ∧ Ci l pre.length = some b
 | [], pre, hp => ⟨_, by rw [BD, Fd hp]; rfl, by rw [Ci, Fd hp]; rfl⟩
 | x :: rest, pre, hp => by
  have hx : x.sz ≤ 4000000 := hs x (by rw [← hp]; simp)
  obtain ⟨b, h1, h2⟩ := aA l hl hs rest (pre ++ [x]) (Er hp)
  rw [BD, Ci, EV hp, CT hp, DN hp (by rw [BX]; omega)]
  simp only [if_true, A5, pK x hx, pJ x hx]
  cases jp x with
  | false => exact ⟨false, rfl, rfl⟩
  | true =>
   simp only [if_true]
   rcases YO pre with rfl | ⟨p, y, rfl⟩
   ·have e : Np ((([] : List A1).length : Nat) : Int) 0 = false := rfl
    rw [e]
    exact ⟨b, h1, h2⟩
   ·obtain ⟨e1, e2⟩ := YN hp hl
    rw [e1, e2]
    simp only [if_true, A5]
    cases geS y.Pre x.Pre with
    | true => exact ⟨false, rfl, rfl⟩
    | false => exact ⟨b, h1, h2⟩
def RU (l : List A1) : Bool := (DM l).getD false
theorem ww (l : List A1) (hl : l.length ≤ 4000000) (hs : ∀ d ∈ l, d.sz ≤ 4000000) : DM l = some (RU l) ∧ N0 l = some (RU l) := by
 obtain ⟨b, h1, h2⟩ := aA l hl hs l [] rfl
 have h1' : DM l = some b := h1
 have e : RU l = b := by rw [RU, h1']; rfl
 exact ⟨by rw [h1', e], by rw [e]; exact h2⟩
def jq (a : A3) : Bool := (GK a).getD false
theorem tK (a : A3) (hs : a.sz ≤ 4000000) : DV a = some (jq a) ∧ GK a = some (jq a) := by
 rw [A3.sz_eq] at hs
 have h : ∃ c, DV a = some c ∧ GK a = some c := by
  rw [DV, Cy, GK, (eF a.Pre (by omega)).1, (eF a.Pre (by omega)).2, a8 _ _ (by omega), (KI a.Local (by omega)).1, (KI a.Local (by omega)).2.1, (U7 a.Val (by omega)).1, (U7 a.Val (by omega)).2, (U7 a.Uri (by omega)).1, gq]
  simp only [A5, O8, wo]
  cases Xx a.Pre <;> cases D7 a.Pre ⟨#[]⟩ <;> cases D7 a.Uri ⟨#[]⟩ <;> cases Hs a.Local <;> cases D7 a.Local ⟨#[120, 109, 108, 110, 115]⟩ <;> cases PL a.Val <;> cases PL a.Uri <;> cases Rn (AS a.Uri) 40 <;> exact ⟨_, rfl, rfl⟩
 obtain ⟨c, h3, h4⟩ := h
 have e : jq a = c := by rw [jq, h4]; rfl
 exact ⟨by rw [h3, e], by rw [h4, e]⟩
theorem tL (a b : A3) : ∃ c, EL a b = some c ∧ FN a b = some (!geI c 0) := by
 rw [EL, strings_Compare, strings_Compare, FN]
 simp only [A5, N6, tJ, wq, Bool.not_not]
 have h1 := tI a.Uri b.Uri
 have h2 := tJ a.Uri b.Uri
 cases he : D7 a.Uri b.Uri with
 | false =>
  refine ⟨_, rfl, ?_⟩
  rw [h1]
  cases ltS a.Uri b.Uri <;> rfl
 | true =>
  refine ⟨_, rfl, ?_⟩
  rw [tI]
  have : ltS a.Uri b.Uri = false := by
   rw [← h1, Eg]
   rw [he] at h2
   have := Pp.1 h2
   omega
  rw [this]
  rfl
theorem aB (n : A0) (hl : n.Attrs.length ≤ 4000000) (hs : ∀ d ∈ n.Attrs, d.sz ≤ 4000000) : ∀ (rest pre : List A3), pre ++ rest = n.Attrs → ∃ b, Ay pre.length n = some b ∧ Cj n.Attrs pre.length = some (b && Rn (AC n.Attrs) 5)
 | [], pre, hp => ⟨true, by rw [Ay, Fd hp]; rfl, by rw [Cj, Fd hp]; rfl⟩
 | x :: rest, pre, hp => by
  have hx : x.sz ≤ 4000000 := hs x (by rw [← hp]; simp)
  obtain ⟨b, h1, h2⟩ := aB n hl hs rest (pre ++ [x]) (Er hp)
  rw [Ay, Cj, EV hp, CT hp, DN hp (by rw [BX]; omega)]
  simp only [if_true, A5, (tK x hx).1, (tK x hx).2]
  cases jq x with
  | false => exact ⟨false, rfl, rfl⟩
  | true =>
   simp only [if_true]
   rcases YO pre with rfl | ⟨p, y, rfl⟩
   ·have e : Np ((([] : List A3).length : Nat) : Int) 0 = false := rfl
    rw [e]
    exact ⟨b, h1, h2⟩
   ·obtain ⟨e1, e2⟩ := YN hp hl
    obtain ⟨c, e3, e4⟩ := tL y x
    rw [e1, e2]
    simp only [if_true, A5, e3, e4]
    cases geI c 0 with
    | true => exact ⟨false, rfl, rfl⟩
    | false => exact ⟨b, h1, h2⟩
theorem pL (n : A0) (hl : n.Attrs.length ≤ 4000000) (hs : ∀ d ∈ n.Attrs, d.sz ≤ 4000000) : ∃ b, DW n = some b ∧ JR n.Attrs = some (b && Rn (AC n.Attrs) 5) := by
 obtain ⟨b, h1, h2⟩ := aB n hl hs n.Attrs [] rfl
 exact ⟨b, by rw [DW]; exact h1, by rw [JR]; exact h2⟩
end TT
namespace TT
open Go
theorem zh {α : Type} (l : List α) : Np (AC l) 0 = !Av (AC l) 0 := by
 cases l with
 | nil => rfl
 | cons x l => rw [PG (by simp only [AC, List.length_cons]; omega), LS (by simp only [AC, List.length_cons]; omega)]; rfl
theorem mM (s : ByteArray) (hs : s.size ≤ 4000000) : ∃ b, EI s ⟨#[45]⟩ = some b ∧ (if (D7 s ⟨#[]⟩) then some true else PU s (BA (AS s) 1) >>= fun x4 => some (neI x4 45)) = some (!b) := by
 have e1 : AS (⟨#[45]⟩ : ByteArray) = 1 := rfl
 rw [EI, Bn, e1]
 by_cases h : 1 ≤ s.size
 ·have e0 : D7 s ⟨#[]⟩ = false := by
   cases he : D7 s ⟨#[]⟩ with
   | false => rfl
   | true => rw [VR.1 he] at h; exact absurd h (by decide)
  have e2 : BA (AS s) 1 = ((s.size - 1 : Nat) : Int) := by rw [BT (by simp only [AS]; omega) (by simp only [AS]; omega)]; simp only [AS]; omega
  have e3 : PV s ((s.size - 1 : Nat) : Int) (AS s) = some (s.extract (s.size - 1) s.size) := by
   show PV s ((s.size - 1 : Nat) : Int) ((s.size : Nat) : Int) = _
   unfold PV
   rw [if_pos ⟨by omega, by omega, by omega⟩]
   congr 1
  have hd : s.data.toList.drop (s.size - 1) = [s.data.toList[s.size - 1]'(by rw [Pt]; omega)] := by
   rw [List.drop_eq_getElem_cons (by rw [Pt]; omega)]
   congr 1
   exact List.drop_eq_nil_of_le (by rw [Pt]; omega)
  have e4 : (s.extract (s.size - 1) s.size).toList = [s.data.toList[s.size - 1]'(by rw [Pt]; omega)] := by
   rw [jo, hd]
   have : s.size - (s.size - 1) = 1 := by omega
   rw [this]; rfl
  have e5 : QK s (s.size - 1) = (s.data.toList[s.size - 1]'(by rw [Pt]; omega)).toNat := by
   show (s.data[s.size - 1]!).toNat = _
   rw [← Array.getElem!_toList, getElem!_pos s.data.toList (s.size - 1) (by rw [Pt]; omega)]
  rw [Q9 (by simp only [AS]; omega), e0, e2]
  simp only [if_true, e3, A5, Bool.false_eq_true, if_false, U6 (i := ((s.size - 1 : Nat) : Int)) rfl (show s.size - 1 < s.size by omega), N6]
  refine ⟨_, rfl, ?_⟩
  congr 2
  rw [e5, D7, e4, Bool.eq_iff_iff, Pp, beq_iff_eq, show (⟨#[45]⟩ : ByteArray).toList = [45] from by rw [Lib.toList_data]]
  constructor
  ·intro hh
   have : s.data.toList[s.size - 1]'(by rw [Pt]; omega) = 45 := UInt8.toNat_inj.1 (by have : ((45 : UInt8).toNat : Int) = 45 := rfl; omega)
   rw [this]
  ·intro hh
   have := (List.cons.inj hh).1
   rw [this]; rfl
 ·have hz : s.size = 0 := by omega
  have e0 : D7 s ⟨#[]⟩ = true := VR.2 (by
   apply toList_inj
   rw [Lib.toList_data, Lib.toList_data]
   have := Pt s
   rw [hz] at this
   rw [List.eq_nil_of_length_eq_zero this])
  rw [QA (by simp only [AS]; omega), e0]
  exact ⟨false, rfl, rfl⟩
theorem pM (n : Int) : ∃ b, EE n = some b ∧ Gh n = some b := by
 rw [EE, Gh]
 cases Av n 9 <;> cases Av n 10 <;> cases Av n 13 <;> exact ⟨_, rfl, rfl⟩
theorem pN (s : ByteArray) (hs : s.size ≤ 4000000) : ∃ b, (if (D7 s ⟨#[]⟩) then some true else PU s 0 >>= fun x5 => EE (wr .i64 x5) >>= fun r22 => some (!r22)) = some b ∧ (if (D7 s ⟨#[]⟩) then some true else PU s 0 >>= fun x => Gh (wr .i64 x) >>= fun r5 => some (!r5)) = some b := by
 cases he : D7 s ⟨#[]⟩ with
 | true => exact ⟨true, rfl, rfl⟩
 | false =>
  have hz : 0 < s.size := by
   rcases Nat.eq_zero_or_pos s.size with h | h
   ·have : s = ⟨#[]⟩ := by
     apply toList_inj
     rw [Lib.toList_data, Lib.toList_data]
     have := Pt s
     rw [h] at this
     rw [List.eq_nil_of_length_eq_zero this]
    rw [this] at he
    rw [Jg] at he
    cases he
   ·exact h
  obtain ⟨b, h1, h2⟩ := pM (wr .i64 ((QK s 0 : Nat) : Int))
  have e : PU s 0 = some ((QK s 0 : Nat) : Int) := U6 (i := 0) (k := 0) rfl hz
  simp only [Bool.false_eq_true, if_false, e, A5, h1, h2]
  exact ⟨_, rfl, rfl⟩
def VX (n : A0) : Bool := (FU n).getD false
theorem tM (n : A0) (hs : n.sz ≤ 4000000) (hk : Av n.Kind 1 = false) : Cz n = some (VX n) ∧ FU n = some (VX n) := by
 rw [A0.sz_eq] at hs
 have h : ∃ c, Cz n = some c ∧ FU n = some c := by
  obtain ⟨b1, s1, s2⟩ := mM n.Text (by omega)
  obtain ⟨b2, f1, f2⟩ := pN n.Text (by omega)
  have c1 := gp n.Text ⟨#[45, 45]⟩ (by decide) (by omega) (by decide)
  have c2 := gp n.Text ⟨#[13]⟩ (by decide) (by omega) (by decide)
  have c3 := gp n.Text ⟨#[63, 62]⟩ (by decide) (by omega) (by decide)
  have x1 := wn n.Local (by omega)
  have p1 := KI n.Local (by omega)
  have t1 := U7 n.Text (by omega)
  rw [Cz, FU, GI, Ny, Nz, FQ, hk, s1, s2, f1, f2, c1.1, c1.2, c2.1, c2.2, c3.1, c3.2, x1.1, x1.2, p1.1, p1.2.1, t1.1, t1.2]
  simp only [A5, O8, N6, zh, Bool.false_eq_true, if_false]
  have k23 : Av n.Kind 2 = true → Av n.Kind 3 = false ∧ Av n.Kind 4 = false := fun h => by
   have := Pp.1 h; exact ⟨LS (by omega), LS (by omega)⟩
  have k34 : Av n.Kind 3 = true → Av n.Kind 4 = false := fun h => by
   have := Pp.1 h; exact LS (by omega)
  cases D7 n.Pre ⟨#[]⟩ <;> cases D7 n.Uri ⟨#[]⟩ <;> cases Av (AC n.Decls) 0 <;> cases Av (AC n.Attrs) 0 <;> cases Av (AC n.Kids) 0
  all_goals try (cases h2 : Av n.Kind 2 <;> cases h3 : Av n.Kind 3 <;> cases h4 : Av n.Kind 4 <;> exact ⟨false, rfl, rfl⟩)
  cases h2 : Av n.Kind 2 with
  | true =>
   obtain ⟨h3, h4⟩ := k23 h2
   rw [h4]
   cases D7 n.Local ⟨#[]⟩ <;> cases D7 n.Text ⟨#[]⟩ <;> cases PL n.Text <;> exact ⟨_, rfl, rfl⟩
  | false =>
   cases h3 : Av n.Kind 3 with
   | true =>
    rw [k34 h3]
    cases D7 n.Local ⟨#[]⟩ <;> cases PL n.Text <;> cases Ey n.Text ⟨#[45, 45]⟩ <;> cases Ey n.Text ⟨#[13]⟩ <;> cases b1 <;> exact ⟨_, rfl, rfl⟩
   | false =>
    cases h4 : Av n.Kind 4 with
    | true => cases D7 n.Local ⟨#[]⟩ <;> cases Hs n.Local <;> cases SM n.Local ⟨#[120, 109, 108]⟩ <;> cases PL n.Text <;> cases Ey n.Text ⟨#[63, 62]⟩ <;> cases Ey n.Text ⟨#[13]⟩ <;> exact ⟨_, rfl, rfl⟩
    | false => cases D7 n.Local ⟨#[]⟩ <;> exact ⟨_, rfl, rfl⟩
 obtain ⟨c, h3, h4⟩ := h
 have e : VX n = c := by rw [VX, h4]; rfl
 exact ⟨by rw [h3, e], by rw [h4, e]⟩
end TT
namespace TT
open Go
def elB (n : A0) : Bool := (Cz n).getD false
theorem A0g (n : A0) (hs : n.sz ≤ 4000000) (hk : Av n.Kind 1 = true) : Cz n = some (elB n) ∧ ∀ (d : Int) (b : Bool), geI d 7 = false → DZ n (AP d 1) = some b → B7 n d = some (elB n && b) := by
 have hsz := hs
 rw [A0.sz_eq] at hs
 obtain ⟨ab, a1, a2⟩ := pL n (by omega) (fun x hx => by have := Cp A3.sz hx; omega)
 obtain ⟨d1, d2⟩ := ww n.Decls (by omega) (fun x hx => by have := Cp A1.sz hx; omega)
 have e1 : Cz n = some (Xx n.Pre && (Hs n.Local && (D7 n.Text ⟨#[]⟩ && (gq n.Uri n.Pre && (RU n.Decls && (ab && Rn (AC n.Attrs) 5)))))) := by
  rw [Cz, hk, (eF n.Pre (by omega)).1, (KI n.Local (by omega)).1, (U7 n.Uri (by omega)).1, d1, a1, gq]
  simp only [A5, O8, if_true, wv]
  cases Xx n.Pre <;> cases Hs n.Local <;> cases D7 n.Text ⟨#[]⟩ <;> cases D7 n.Pre ⟨#[]⟩ <;> cases D7 n.Uri ⟨#[]⟩ <;> cases PL n.Uri <;> cases Rn (AS n.Uri) 40 <;> cases RU n.Decls <;> cases Rn (AC n.Attrs) 5 <;> cases ab <;> rfl
 have e2 : elB n = (Xx n.Pre && (Hs n.Local && (D7 n.Text ⟨#[]⟩ && (gq n.Uri n.Pre && (RU n.Decls && (ab && Rn (AC n.Attrs) 5)))))) := by rw [elB, e1]; rfl
 refine ⟨by rw [e1, e2], fun d b hd hb => ?_⟩
 rw [B7, N6, hk, hd, (eF n.Pre (by omega)).2, a8 _ _ (by omega), (KI n.Local (by omega)).2.1, d2, a2, hb, e2]
 simp only [A5, O8, Bool.not_true, Bool.false_eq_true, if_false]
 cases Xx n.Pre <;> cases Hs n.Local <;> cases D7 n.Text ⟨#[]⟩ <;> cases gq n.Uri n.Pre <;> cases RU n.Decls <;> cases Rn (AC n.Attrs) 5 <;> cases ab <;> rfl
def jr (x : A0) (deep : Int) : Option Bool := Cz x >>= fun r2 => if r2 then (if Av x.Kind 1 then (if Av deep 7 then some false else Bd x.Kids (AP deep 1)) else some true) else some false
def isT (x : A0) : Bool := Av x.Kind 2
def nH (pre : List A0) : Bool := match pre.getLast? with
 | some y => isT y
 | none => false
def RW : Bool → List A0 → Bool
 | _, [] => true
 | p, x :: xs => !(p && isT x) && RW (isT x) xs
theorem Rx (pre : List A0) (x : A0) : nH (pre ++ [x]) = isT x := by simp [nH]
def pB (d : Int) (k : A0) : Bool := (B7 k d).getD false
theorem Wj (l : List A0) (hl : l.length ≤ 4000000) (d : Int) (hk : ∀ k ∈ l, jr k d = some (pB d k)) : ∀ (rest pre : List A0), pre ++ rest = l → BE l d pre.length = some (RW (nH pre) rest && rest.all (pB d))
 | [], pre, hp => by rw [BE, Fd hp]; rfl
 | x :: rest, pre, hp => by
  have ih := Wj l hl d hk rest (pre ++ [x]) (Er hp)
  have hx := hk x (by rw [← hp]; simp)
  rw [Rx] at ih
  rw [jr] at hx
  obtain ⟨r2, h2, hx⟩ := Option.bind_eq_some_iff.1 hx
  have hj : r2 = true → Cd l d pre.length x = some (pB d x && (RW (isT x) rest && rest.all (pB d))) := fun hr => by
   rw [hr] at hx
   rw [Cd, DN hp (by rw [BX]; omega), ih]
   simp only [if_true] at hx
   revert hx
   cases Av x.Kind 1 with
   | false =>
    simp only [Bool.false_eq_true, if_false]
    intro hx
    rw [← Option.some.inj hx]; rfl
   | true =>
    simp only [if_true]
    cases Av d 7 with
    | true => simp only [if_true]; intro hx; rw [← Option.some.inj hx]; rfl
    | false =>
     simp only [Bool.false_eq_true, if_false]
     intro hx
     rw [hx]
     simp only [A5]
     cases pB d x <;> rfl
  rw [BE, EV hp, CT hp]
  simp only [if_true, A5, h2]
  cases r2 with
  | false =>
   simp only [Bool.false_eq_true, if_false] at hx ⊢
   have : pB d x = false := (Option.some.inj hx).symm
   simp only [List.all_cons, this, Bool.false_and, Bool.and_false]
  | true =>
   rw [hj rfl]
   simp only [if_true, RW, List.all_cons]
   show (if isT x = true then _ else _) = _
   cases hx2 : isT x with
   | false => simp only [Bool.false_eq_true, if_false, Bool.and_false, Bool.not_false, Bool.true_and]; cases pB d x <;> simp
   | true =>
    simp only [if_true, Bool.and_true]
    rcases YO pre with rfl | ⟨p, y, rfl⟩
    ·have e : Np ((([] : List A0).length : Nat) : Int) 0 = false := rfl
     rw [e]
     simp only [Bool.false_eq_true, if_false]
     show _ = some ((!(false) && RW true rest) && _)
     cases pB d x <;> simp
    ·obtain ⟨e1, e2⟩ := YN hp hl
     rw [e1, e2, Rx]
     simp only [if_true, A5]
     show (if isT y = true then _ else _) = _
     cases isT y with
     | true => simp
     | false => simp only [Bool.false_eq_true, if_false]; cases pB d x <;> simp
theorem js (l : List A0) (hl : l.length ≤ 4000000) : ∀ (rest pre : List A0), pre ++ rest = l → B8 l pre.length = some (RW (nH pre) rest)
 | [], pre, hp => by rw [B8, Fd hp]; rfl
 | x :: rest, pre, hp => by
  have ih := js l hl rest (pre ++ [x]) (Er hp)
  rw [Rx] at ih
  rw [B8, EV hp, CT hp, DN hp (by rw [BX]; omega), ih]
  simp only [if_true, A5, RW]
  rcases YO pre with rfl | ⟨p, y, rfl⟩
  ·have e : Np ((([] : List A0).length : Nat) : Int) 0 = false := rfl
   rw [e]; rfl
  ·obtain ⟨e1, e2⟩ := YN hp hl
   rw [e1, e2, Rx]
   simp only [if_true, A5]
   show (if isT x = true then (if isT y = true then _ else _) else _) = _
   cases isT x <;> cases isT y <;> rfl
theorem jt (l : List A0) (hl : l.length ≤ 4000000) (d : Int) (hk : ∀ k ∈ l, B7 k d = some (pB d k)) : ∀ (rest pre : List A0), pre ++ rest = l → ∃ r, AR l pre.length d = some (r, d) ∧ geI r 0 = !rest.all (pB d)
 | [], pre, hp => ⟨-1, by rw [AR, Fd hp]; rfl, rfl⟩
 | x :: rest, pre, hp => by
  obtain ⟨r, h1, h2⟩ := jt l hl d hk rest (pre ++ [x]) (Er hp)
  rw [AR, EV hp, CT hp, DN hp (by rw [BX]; omega)]
  simp only [if_true, A5, List.all_cons, L6, hk x (by rw [← hp]; simp)]
  cases pB d x with
  | true => exact ⟨r, h1, by rw [h2]; rfl⟩
  | false => exact ⟨pre.length, rfl, by rw [Q9 (by omega)]; rfl⟩
def MO (d : Int) (l : List A0) : Bool := RW false l && l.all (pB d)
theorem eG (n : A0) (hl : n.Kids.length ≤ 4000000) (d : Int) (hk : ∀ k ∈ n.Kids, B7 k d = some (pB d k)) : DZ n d = some (MO d n.Kids) := by
 have h1 : Fh n.Kids = some (RW false n.Kids) := by rw [Fh]; exact js n.Kids hl n.Kids [] rfl
 obtain ⟨r, h2, h3⟩ := jt n.Kids hl d hk n.Kids [] rfl
 have h2' : AR n.Kids 0 d = some (r, d) := h2
 rw [DZ, h1, BJ, Bq, h2']
 simp only [A5, h3, Bool.not_not, MO]
 cases RW false n.Kids <;> rfl
theorem aC : ∀ n : A0, n.sz ≤ 1048576 → ∀ d : Nat, d ≤ 7 → B7 n d = some (pB d n) ∧ jr n d = some (pB d n) := by
 refine A0.ind' fun n ih hs d hd => ?_
 have h : ∃ b, B7 n d = some b ∧ jr n d = some b := by
  have hsz := hs
  rw [A0.sz_eq] at hs
  cases hk : Av n.Kind 1 with
  | false =>
   obtain ⟨l1, l2⟩ := tM n (by omega) hk
   refine ⟨VX n, ?_, ?_⟩
   ·rw [B7, N6, hk, l2]; rfl
   ·rw [jr, l1, hk]
    cases VX n <;> rfl
  | true =>
   obtain ⟨e1, e2⟩ := A0g n (by omega) hk
   by_cases h7 : d = 7
   ·subst h7
    refine ⟨false, ?_, ?_⟩
    ·rw [B7, N6, hk]; rfl
    ·rw [jr, e1, hk]
     have : Av ((7 : Nat) : Int) 7 = true := rfl
     rw [this]
     cases elB n <;> rfl
   ·have hadd : AP (d : Int) 1 = ((d + 1 : Nat) : Int) := by rw [Al (by omega) (by omega)]; omega
    have hkid : ∀ k ∈ n.Kids, B7 k ((d + 1 : Nat) : Int) = some (pB ((d + 1 : Nat) : Int) k) ∧ jr k ((d + 1 : Nat) : Int) = some (pB ((d + 1 : Nat) : Int) k) := fun k hk => ih k hk (by have := Cp A0.sz hk; omega) (d + 1) (by omega)
    have k1 := eG n (by omega) _ fun k hk => (hkid k hk).1
    have k2 : Bd n.Kids ((d + 1 : Nat) : Int) = some (MO ((d + 1 : Nat) : Int) n.Kids) := by
     rw [Bd]
     exact Wj n.Kids (by omega) _ (fun k hk => (hkid k hk).2) n.Kids [] rfl
    refine ⟨elB n && MO ((d + 1 : Nat) : Int) n.Kids, e2 d _ (QA (by omega)) (by rw [hadd]; exact k1), ?_⟩
    rw [jr, e1, hk, LS (show (d : Int) ≠ 7 by omega), hadd, k2]
    cases elB n <;> rfl
 obtain ⟨b, h1, h2⟩ := h
 have e : pB d n = b := by rw [pB, h1]; rfl
 exact ⟨by rw [h1, e], by rw [h2, e]⟩
theorem ju (l : List A0) (hl : l.length ≤ 4000000) (hs : ∀ k ∈ l, k.sz ≤ 1048576) (d : Nat) (hd : d ≤ 7) : Bd l d = some (MO d l) := by
 rw [Bd]
 exact Wj l hl _ (fun k hk => (aC k (hs k hk) d hd).2) l [] rfl
theorem eH (n : A0) (hs : n.sz ≤ 1048576) (d : Nat) (hd : d ≤ 7) : DZ n d = some (MO d n.Kids) := by
 rw [A0.sz_eq] at hs
 exact eG n (by omega) _ fun k hk => (aC k (by have := Cp A0.sz hk; omega) d hd).1
theorem jv (n : A0) (hl : n.Kids.length ≤ 4000000) (hk : ∀ k ∈ n.Kids, ∃ c : Nat, C5 k = some (c : Int) ∧ EH k = some (c : Int) ∧ c ≤ 1 + k.sz) : ∀ (rest pre : List A0) (a : Nat), pre ++ rest = n.Kids → a + rest.length + szs A0.sz rest ≤ 100000000 → ∃ c : Nat, BB a pre.length n = some (c : Int) ∧ E7 a n pre.length = some (c : Int) ∧ c ≤ a + rest.length + szs A0.sz rest
 | [], pre, a, hp, hb => ⟨a, by rw [BB, Fd hp]; rfl, by rw [E7, Fd hp]; rfl, by omega⟩
 | x :: rest, pre, a, hp, hb => by
  obtain ⟨c, h1, h2, h3⟩ := hk x (by rw [← hp]; simp)
  rw [FI, List.length_cons] at hb
  obtain ⟨q, g1, g2, g3⟩ := jv n hl hk rest (pre ++ [x]) (a + c) (Er hp) (by omega)
  have e : AP (a : Int) (c : Int) = ((a + c : Nat) : Int) := by rw [Al (by omega) (by omega)]; omega
  refine ⟨q, ?_, ?_, by rw [FI, List.length_cons]; omega⟩
  ·rw [BB, EV hp, CT hp, DN hp (by rw [BX]; omega)]
   simp only [if_true, A5, h1, e]
   exact g1
  ·rw [E7, EV hp, CT hp, DN hp (by rw [BX]; omega)]
   simp only [if_true, A5, h2, e]
   exact g2
theorem nI : ∀ n : A0, n.sz ≤ 1048576 → ∃ c : Nat, C5 n = some (c : Int) ∧ EH n = some (c : Int) ∧ c ≤ 1 + n.sz := by
 refine A0.ind' fun n ih hs => ?_
 have hz := A0.sz_eq n
 rw [hz] at hs
 obtain ⟨c, h1, h2, h3⟩ := jv n (by omega) (fun k hk => ih k hk (by have := Cp A0.sz hk; omega)) n.Kids [] (1 + n.Attrs.length) rfl (by omega)
 have e : AP 1 (AC n.Attrs) = ((1 + n.Attrs.length : Nat) : Int) := by rw [Al (by simp only [AC]; omega) (by simp only [AC]; omega)]; simp only [AC]; omega
 exact ⟨c, by rw [C5, e]; exact h1, by rw [EH, e]; exact h2, by omega⟩
def ofK (k : Int) (l : List A0) : Nat := l.countP fun x => Av x.Kind k
theorem RX (l : List A0) (k : Int) (hl : l.length ≤ 4000000) : ∀ (rest pre : List A0) (a : Nat), pre ++ rest = l → a + rest.length ≤ 8000000 → D6 k a l pre.length = some ((a + ofK k rest : Nat) : Int)
 | [], pre, a, hp, hb => by rw [D6, Fd hp]; rfl
 | x :: rest, pre, a, hp, hb => by
  rw [List.length_cons] at hb
  rw [D6, EV hp, CT hp, DN hp (by rw [BX]; omega)]
  simp only [if_true, A5]
  cases hx : Av x.Kind k with
  | true =>
   have e : AP (a : Int) 1 = ((a + 1 : Nat) : Int) := by rw [Al (by omega) (by omega)]; omega
   rw [e, if_pos rfl, RX l k hl rest (pre ++ [x]) (a + 1) (Er hp) (by omega)]
   simp only [ofK, List.countP_cons, hx, if_true]
   congr 2; omega
  | false =>
   simp only [Bool.false_eq_true, if_false]
   rw [RX l k hl rest (pre ++ [x]) a (Er hp) (by omega)]
   simp only [ofK, List.countP_cons, hx, Bool.false_eq_true, if_false, Nat.add_zero]
theorem aD (l : List A0) (k : Int) (hl : l.length ≤ 4000000) : I6 l k = some (ofK k l : Int) := by
 rw [I6]
 have := RX l k hl l [] 0 rfl (by omega)
 simpa using this
def jw (n : A0) : Bool := D7 n.Pre ⟨#[]⟩ && (D7 n.Local ⟨#[]⟩ && (D7 n.Uri ⟨#[]⟩ && (D7 n.Text ⟨#[]⟩ && (Av (AC n.Decls) 0 && Av (AC n.Attrs) 0))))
theorem Wk (n : A0) (hs : n.sz ≤ 1048576) : ∀ (rest pre : List A0) (a : Nat), pre ++ rest = n.Kids → a + rest.length ≤ 8000000 → Ab a pre.length n = some (Av (ofK 2 rest : Int) 0 && (Av ((a + ofK 1 rest : Nat) : Int) 1 && (jw n && MO 0 n.Kids)))
 | [], pre, a, hp, hb => by
  have hk := ju n.Kids (by rw [A0.sz_eq] at hs; omega) (fun k hk => by rw [A0.sz_eq] at hs; have := Cp A0.sz hk; omega) 0 (by omega)
  have hk' : Bd n.Kids 0 = some (MO 0 n.Kids) := hk
  rw [Ab, Fd hp, hk', jw]
  simp only [Bool.false_eq_true, if_false, A5, ofK, List.countP_nil, Nat.add_zero]
  show _ = some (true && _)
  cases Av (a : Int) 1 <;> cases D7 n.Pre ⟨#[]⟩ <;> cases D7 n.Local ⟨#[]⟩ <;> cases D7 n.Uri ⟨#[]⟩ <;> cases D7 n.Text ⟨#[]⟩ <;> cases Av (AC n.Decls) 0 <;> cases Av (AC n.Attrs) 0 <;> rfl
 | x :: rest, pre, a, hp, hb => by
  have hl : n.Kids.length ≤ 4000000 := by rw [A0.sz_eq] at hs; omega
  rw [List.length_cons] at hb
  have hj : ∀ q : Nat, q + rest.length ≤ 8000000 → Ce q pre.length n = some (!isT x && (Av (ofK 2 rest : Int) 0 && (Av ((q + ofK 1 rest : Nat) : Int) 1 && (jw n && MO 0 n.Kids)))) := fun q hq => by
   rw [Ce, CT hp, DN hp (by rw [BX]; omega), Wk n hs rest (pre ++ [x]) q (Er hp) hq]
   simp only [A5]
   show (if isT x = true then _ else _) = _
   cases isT x <;> rfl
  have ht : Av ((ofK 2 (x :: rest) : Nat) : Int) 0 = (!isT x && Av (ofK 2 rest : Int) 0) := by
   simp only [ofK, List.countP_cons]
   show Av ((_ + (if isT x = true then 1 else 0) : Nat) : Int) 0 = _
   cases isT x with
   | false => rfl
   | true => rw [LS (by simp only [if_true]; omega)]; rfl
  rw [Ab, EV hp, CT hp, ht]
  simp only [if_true, A5]
  cases hx : Av x.Kind 1 with
  | true =>
   have e : AP (a : Int) 1 = ((a + 1 : Nat) : Int) := by rw [Al (by omega) (by omega)]; omega
   rw [if_pos rfl, e, hj (a + 1) (by omega)]
   simp only [ofK, List.countP_cons, hx, if_true]
   rw [show a + 1 + List.countP (fun x => Av x.Kind 1) rest = a + (List.countP (fun x => Av x.Kind 1) rest + 1) by omega, Bool.and_assoc]
  | false =>
   simp only [Bool.false_eq_true, if_false]
   rw [hj a (by omega)]
   simp only [ofK, List.countP_cons, hx, Bool.false_eq_true, if_false, Nat.add_zero, Bool.and_assoc]
def aE (n : A0) : Bool := (GL n).getD false
theorem tN (n : A0) (hs : n.sz ≤ 1048576) : DX n = some (aE n) ∧ GL n = some (aE n) := by
 have h : ∃ c, DX n = some c ∧ GL n = some c := by
  obtain ⟨c, h1, h2, h3⟩ := nI n hs
  have hl : n.Kids.length ≤ 4000000 := by rw [A0.sz_eq] at hs; omega
  rw [DX, GL, h1, h2]
  simp only [A5]
  cases Np (c : Int) 60 with
  | true => exact ⟨false, rfl, rfl⟩
  | false =>
   simp only [Bool.false_eq_true, if_false]
   cases neI n.Kind 0 with
   | true =>
    simp only [if_true]
    have h4 := (aC n hs 0 (by omega)).1
    have h5 := ju [n] (by simp) (fun k hk => by rw [List.mem_singleton.1 hk]; exact hs) 0 (by omega)
    have h5' : Bd [n] 0 = some (MO 0 [n]) := h5
    have h4' : B7 n 0 = some (pB 0 n) := h4
    rw [h4', h5']
    refine ⟨_, rfl, ?_⟩
    simp only [A5, MO, RW, List.all_cons, List.all_nil, Bool.false_and, Bool.not_false, Bool.true_and, Bool.and_true]
   | false =>
    simp only [Bool.false_eq_true, if_false]
    have h6 := Wk n hs n.Kids [] 0 rfl (by omega)
    have h6' : Ab 0 0 n = some (Av (ofK 2 n.Kids : Int) 0 && (Av ((0 + ofK 1 n.Kids : Nat) : Int) 1 && (jw n && MO 0 n.Kids))) := h6
    have h7 : DZ n 0 = some (MO 0 n.Kids) := eH n hs 0 (by omega)
    rw [h6', Nat.zero_add, jw, Bh, Bh, aD _ _ hl, aD _ _ hl, h7]
    simp only [A5, Bool.false_eq_true, if_false]
    cases Av (ofK 2 n.Kids : Int) 0 <;> cases Av (ofK 1 n.Kids : Int) 1 <;> cases D7 n.Pre ⟨#[]⟩ <;> cases D7 n.Local ⟨#[]⟩ <;> cases D7 n.Uri ⟨#[]⟩ <;> cases D7 n.Text ⟨#[]⟩ <;> cases Av (AC n.Decls) 0 <;> cases Av (AC n.Attrs) 0 <;> exact ⟨_, rfl, rfl⟩
 obtain ⟨c, h3, h4⟩ := h
 have e : aE n = c := by rw [aE, h4]; rfl
 exact ⟨by rw [h3, e], by rw [h4, e]⟩
end TT
namespace TT
open Go
def prs (l : List A1) : List (ByteArray × ByteArray) := l.map fun x => (x.Pre, x.Uri)
theorem mN (l : List (ByteArray × ByteArray)) (x : ByteArray × ByteArray) (p : ByteArray) : IP (l ++ [x]) p = if decide (x.1 = p) then (x.2, true) else IP l p := by
 simp only [IP, List.reverse_append, List.reverse_cons, List.reverse_nil, List.nil_append, List.cons_append, List.find?_cons]
 cases decide (x.1 = p) <;> rfl
theorem YP (x y : ByteArray) : D7 x y = decide (x = y) := by
 rw [Bool.eq_iff_iff, VR, decide_eq_true_iff]
theorem aF (l : List A1) (p : ByteArray) (hl : l.length ≤ 4000000) : ∀ k, k ≤ l.length → Be l p ((k : Int) - 1) = some (IP (prs (l.take k)) p)
 | 0, _ => by
  rw [Be, QA (by omega)]
  simp only [Bool.false_eq_true, if_false, List.take_zero, prs, List.map_nil]
  rw [YP]; rfl
 | k + 1, h => by
  have e : (((k + 1 : Nat) : Int) - 1) = (k : Int) := by omega
  have hx : l[k]? = some (l[k]'(by omega)) := List.getElem?_eq_getElem (by omega)
  have hg : getI l (k : Int) = some (l[k]'(by omega)) := by
   unfold getI
   rw [if_pos (by omega)]
   simp
  have ih := aF l p hl k (by omega)
  rw [Be, e, Q9 (by omega), hg, List.take_add_one, hx, BT (by omega) (by omega), ih]
  simp only [if_true, A5, Option.toList_some, prs, List.map_append, List.map_cons, List.map_nil]
  rw [mN, YP]
  cases decide ((l[k]'(by omega)).Pre = p) <;> rfl
theorem aG (l : List A1) (p : ByteArray) (hl : l.length ≤ 4000000) : Bi l p = some (IP (prs l) p) := by
 have e : BA (AC l) 1 = ((l.length : Int) - 1) := BT (by simp only [AC]; omega) (by simp only [AC]; omega)
 rw [Bi, e, aF l p hl l.length (Nat.le_refl _), List.take_length]
theorem mO (l m : List A1) (hl : l.length + m.length ≤ 4000000) : GC l m = some (l ++ m) := by
 rw [GC, DO (by omega) (by omega) (by omega), DO (by omega) (by omega) (by omega)]
 simp
theorem pO (l : List A1) : HG (l.map A1.row) = some (prs l) := by
 induction l with
 | nil => rfl
 | cons x l ih =>
  show (HG (l.map A1.row)).map _ = _
  rw [ih]; rfl
def ats (l : List A3) : List (ByteArray × ByteArray) := l.map fun x => (x.Pre, x.Uri)
theorem tO (l : List A3) : QZ (l.map A3.row) = some (ats l) := by
 induction l with
 | nil => rfl
 | cons x l ih =>
  show (QZ (l.map A3.row)).map _ = _
  rw [ih]; rfl
theorem eI (n : A0) (own : List A1) (hl : n.Kids.length ≤ 4000000) (hk : ∀ k ∈ n.Kids, ∃ b, Cf k own = some b ∧ LN (A0.row false k) (prs own) = some b) : ∀ (rest pre : List A0), pre ++ rest = n.Kids → ∃ b, Ap own pre.length n = some b ∧ OD (rest.map (A0.row false)) (prs own) = some b
 | [], pre, hp => ⟨true, by rw [Ap, Fd hp]; rfl, by simp only [List.map_nil, OD]⟩
 | x :: rest, pre, hp => by
  obtain ⟨b, h1, h2⟩ := hk x (by rw [← hp]; simp)
  obtain ⟨c, h3, h4⟩ := eI n own hl hk rest (pre ++ [x]) (Er hp)
  refine ⟨b && c, ?_, by simp only [List.map_cons, OD, h2, h4]⟩
  rw [Ap, EV hp, CT hp, DN hp (by rw [BX]; omega)]
  simp only [if_true, A5, h1, h3]
  cases b <;> rfl
theorem eJ (n : A0) (own : List A1) (ho : own.length ≤ 4000000) (hl : n.Attrs.length ≤ 4000000) (c : Bool) (hc : Ap own 0 n = some c) : ∀ (rest pre : List A3), pre ++ rest = n.Attrs → Au own pre.length n = some ((ats rest).all (Uc (prs own)) && c)
 | [], pre, hp => by rw [Au, Fd hp]; exact hc
 | x :: rest, pre, hp => by
  have ih := eJ n own ho hl c hc rest (pre ++ [x]) (Er hp)
  rw [Au, EV hp, CT hp, DN hp (by rw [BX]; omega), ih]
  simp only [if_true, A5, aG _ _ ho, O8, ats, List.map_cons, List.all_cons, Uc, OC, YP]
  cases decide (x.Pre = ⟨#[]⟩) <;> cases (IP (prs own) x.Pre).2 <;> cases decide ((IP (prs own) x.Pre).1 = x.Uri) <;> simp
theorem tP : ∀ n : A0, n.sz ≤ 1048576 → ∀ l : List A1, l.length + n.sz ≤ 4000000 → ∃ b, Cf n l = some b ∧ LN (A0.row false n) (prs l) = some b := by
 refine A0.ind' fun n ih hs l hb => ?_
 have hz := A0.sz_eq n
 rw [hz] at hs hb
 have ho : (l ++ n.Decls).length ≤ 4000000 := by rw [List.length_append]; omega
 obtain ⟨c, h1, h2⟩ := eI n (l ++ n.Decls) (by omega) (fun k hk => ih k hk (by have := Cp A0.sz hk; omega) (l ++ n.Decls) (by rw [List.length_append]; have := Cp A0.sz hk; omega)) n.Kids [] rfl
 have h3 := eJ n (l ++ n.Decls) ho (by omega) c h1 n.Attrs [] rfl
 have h3' : Dr (l ++ n.Decls) n = some ((ats n.Attrs).all (Uc (prs (l ++ n.Decls))) && c) := by rw [Dr]; exact h3
 have hp : prs l ++ prs n.Decls = prs (l ++ n.Decls) := by simp [prs]
 have hpl : (prs l ++ prs n.Decls).length ≤ 4000000 := by rw [hp, prs, List.length_map]; exact ho
 refine ⟨((decide (n.Kind ≠ 1) || OC (prs (l ++ n.Decls)) n.Pre n.Uri) && (ats n.Attrs).all (Uc (prs (l ++ n.Decls)))) && c, ?_, ?_⟩
 rotate_left
 ·rw [A0.row_eq, LN, pO, tO]
  rw [hp] at hpl
  simp only [hp, h2]
  rw [if_pos hpl]
 ·rw [Cf, mO _ _ (by rw [List.length_append] at ho; exact ho)]
  simp only [A5, aG _ _ ho, h3', O8, OC, YP]
  cases hk : Av n.Kind 1 with
  | false =>
   have hne : decide (n.Kind ≠ 1) = true := decide_eq_true fun e => by rw [QB e] at hk; cases hk
   rw [hne]
   simp
  | true =>
   have hne : decide (n.Kind ≠ 1) = false := decide_eq_false fun e => e (Pp.1 hk)
   rw [hne]
   cases (IP (prs (l ++ n.Decls)) n.Pre).2 <;> cases decide ((IP (prs (l ++ n.Decls)) n.Pre).1 = n.Uri) <;> simp
def tQ (n : A0) (l : List A1) : Bool := (Cf n l).getD false
theorem A0h (n : A0) (l : List A1) (hs : n.sz ≤ 1048576) (hb : l.length + n.sz ≤ 4000000) : Cf n l = some (tQ n l) ∧ O0 n l = some (tQ n l) := by
 obtain ⟨b, h1, h2⟩ := tP n hs l hb
 have e : tQ n l = b := by rw [tQ, h1]; rfl
 exact ⟨by rw [h1, e], by rw [O0, e]; exact h2⟩
end TT
namespace TT
open Go
def RY (n : A0) : Bool := Av n.Kind 0 && (aE n && tQ n [])
theorem tR (n : A0) (hs : n.sz ≤ 1048576) : D4 n = some (RY n) ∧ LR n = some (RY n) := by
 obtain ⟨n1, n2⟩ := tN n hs
 obtain ⟨f1, f2⟩ := A0h n [] hs (by simp; omega)
 constructor
 ·rw [D4, n1, f1, RY]
  simp only [A5]
  cases Av n.Kind 0 <;> cases aE n <;> rfl
 ·rw [LR, n2, f2, RY]
  simp only [A5]
  cases Av n.Kind 0 <;> cases aE n <;> rfl
end TT
