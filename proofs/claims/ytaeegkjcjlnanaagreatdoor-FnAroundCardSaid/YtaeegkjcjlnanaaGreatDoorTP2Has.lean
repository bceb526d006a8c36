import Derived.Test.YtaeegkjcjlnanaaGreatDoorTP2Sign
import Derived.Lib.IndexMore
import Derived.Lib.Fold
import Derived.Test.YtaeegkjcjlnanaaGreatDoorTP0
import Derived.Test.YtaeegkjcjlnanaaGreatDoorTP1
import Derived.Test.YtaeegkjcjlnanaaGreatDoorTHX4
set_option linter.unusedVariables false
set_option linter.unusedSimpArgs false
namespace TT
open Go
theorem j3 (s : ByteArray) (i k : Nat) : (s.extract i k).toList = (s.data.toList.drop i).take (k - i) := by
 rw [Lib.toList_data, Lib.extract_data]
theorem Ph (s : ByteArray) : s.data.toList.length = s.size := Array.length_toList
theorem sF (s t : ByteArray) (ht : 1 ≤ t.size) (hs : s.size ≤ 4000000) (hts : t.size ≤ 4000000) : ∀ (m i : Nat), i ≤ s.size → s.size - i ≤ m →
  ∃ b, Bg s t i = some b ∧ (b = true ↔ ∃ j, i ≤ j ∧ j ≤ s.size ∧ Lib.occAt s.data.toList t.data.toList j = true) := by
 intro m
 have hz : ∀ i, s.size < i + t.size → ∀ j, i ≤ j → j ≤ s.size → Lib.occAt s.data.toList t.data.toList j = false := fun i hi j h1 h2 => by
  rw [Bool.eq_false_iff]
  intro h
  rcases Lib.occAt_room h with h' | h'
  ·rw [Ph, Ph] at h'; omega
  ·have := Ph t; rw [h'] at this; simp at this; omega
 have hend : ∀ i, i ≤ s.size → s.size < i + t.size → ∃ b, Bg s t i = some b ∧ (b = true ↔ ∃ j, i ≤ j ∧ j ≤ s.size ∧ Lib.occAt s.data.toList t.data.toList j = true) := fun i hi h => by
  refine ⟨false, ?_, ?_⟩
  ·rw [Bg, Az (by simp only [AU]; omega) (by simp only [AU]; omega), Wt (by simp only [AU]; omega)]; rfl
  ·constructor
   ·intro h; cases h
   ·rintro ⟨j, h1, h2, h3⟩
    rw [hz i h j h1 h2] at h3; cases h3
 induction m with
 | zero => intro i h hm; exact hend i h (by omega)
 | succ m ih =>
  intro i h hm
  by_cases hi : i + t.size ≤ s.size
  ·obtain ⟨b, h1, h2⟩ := ih (i + 1) (by omega) (by omega)
   have hsub : PN s i ((i : Int) + t.size) = some (s.extract i (i + t.size)) := by
    unfold PN
    rw [if_pos ⟨by omega, by omega, by omega⟩]
    congr 1
   have hocc : Lib.occAt s.data.toList t.data.toList i = ((s.extract i (i + t.size)).toList == t.toList) := by
    rw [Lib.occAt_iff_take _ _ _ (by rw [Ph, Ph]; exact hi), j3, Ph, Lib.toList_data, show i + t.size - i = t.size by omega]
   have e1 : Ac (i : Int) (AU t) = (i : Int) + t.size := Az (by simp only [AU]; omega) (by simp only [AU]; omega)
   rw [Bg, e1, TF (by simp only [AU]; omega)]
   have he : Cs (s.extract i (i + t.size)) t = Lib.occAt s.data.toList t.data.toList i := by rw [Cs]; exact hocc.symm
   simp only [if_true, hsub, A5, he]
   cases ho : Lib.occAt s.data.toList t.data.toList i with
   | true => exact ⟨true, rfl, fun _ => ⟨i, Nat.le_refl _, by omega, ho⟩, fun _ => rfl⟩
   | false =>
    refine ⟨b, ?_, h2.trans ⟨fun ⟨j, g1, g2, g3⟩ => ⟨j, by omega, g2, g3⟩, fun ⟨j, g1, g2, g3⟩ => ⟨j, ?_, g2, g3⟩⟩⟩
    ·simp only [Bool.false_eq_true, if_false]
     rw [Az (by omega) (by omega)]
     exact h1
    ·by_cases e : j = i
     ·subst e; rw [ho] at g3; cases g3
     ·omega
  ·exact hend i h (by omega)
theorem fc (s t : ByteArray) (ht : 1 ≤ t.size) (hs : s.size ≤ 4000000) (hts : t.size ≤ 4000000) : D0 s t = some (F9 s t) ∧ strings_Contains s t = some (F9 s t) := by
 refine ⟨?_, by rw [strings_Contains, if_pos (by omega)]⟩
 obtain ⟨b, h1, h2⟩ := sF s t ht hs hts s.size 0 (Nat.zero_le _) (by omega)
 have h1' : Bg s t 0 = some b := h1
 rw [D0, h1']
 congr 1
 rw [Bool.eq_iff_iff, h2, F9, Lib.contains, decide_eq_true_iff]
 rcases Lib.index_spec s.data.toList t.data.toList with ⟨g1, g2⟩ | ⟨i, g1, g2, g3, _⟩
 ·rw [g1]
  constructor
  ·rintro ⟨j, _, a, b⟩
   rw [g2 j (by rw [Ph]; exact a)] at b; cases b
  ·intro h; omega
 ·rw [g1]
  exact ⟨fun _ => by omega, fun _ => ⟨i, Nat.zero_le _, by rw [Ph] at g2; exact g2, g3⟩⟩
theorem ZO (x y : UInt8) (h : 97 ≤ y.toNat ∧ y.toNat ≤ 122) : Lib.foldEq x y = (decide (x.toNat = y.toNat) || decide (x.toNat + 32 = y.toNat)) := by
 rw [Bool.eq_iff_iff, Lib.foldEq, Bool.or_eq_true, decide_eq_true_iff, decide_eq_true_iff, decide_eq_true_iff]
 have := x.toNat_lt
 omega
theorem vf (s : ByteArray) (hs : s.size ≤ 4000000) : Hu s = some (SE s ⟨#[120, 109, 108]⟩) ∧ strings_EqualFold s ⟨#[120, 109, 108]⟩ = some (SE s ⟨#[120, 109, 108]⟩) := by
 refine ⟨?_, by rw [strings_EqualFold, if_pos ⟨by omega, by decide⟩]⟩
 rw [Hu]
 by_cases h : s.size = 3
 ·have hl := Ph s
  rw [h] at hl
  match hd : s.data.toList, hl with
  | [a, b, c], _ =>
   have g0 : s.get! 0 = a := by
    show s.data[0]! = a
    rw [← Array.getElem!_toList, hd]; rfl
   have g1 : s.get! 1 = b := by
    show s.data[1]! = b
    rw [← Array.getElem!_toList, hd]; rfl
   have g2 : s.get! 2 = c := by
    show s.data[2]! = c
    rw [← Array.getElem!_toList, hd]; rfl
   have e0 : PM s 0 = some ((a.toNat : Nat) : Int) := (Tr (i := 0) (k := 0) rfl (by omega)).trans (by rw [QD, g0])
   have e1 : PM s 1 = some ((b.toNat : Nat) : Int) := (Tr (i := 1) (k := 1) rfl (by omega)).trans (by rw [QD, g1])
   have e2 : PM s 2 = some ((c.toNat : Nat) : Int) := (Tr (i := 2) (k := 2) rfl (by omega)).trans (by rw [QD, g2])
   have hf : SE s ⟨#[120, 109, 108]⟩ = ((decide (a.toNat = 120) || decide (a.toNat = 88)) && ((decide (b.toNat = 109) || decide (b.toNat = 77)) && (decide (c.toNat = 108) || decide (c.toNat = 76)))) := by
    rw [SE, hd]
    show (Lib.foldEq a 120 && (Lib.foldEq b 109 && (Lib.foldEq c 108 && true))) = _
    rw [ZO a 120 (by decide), ZO b 109 (by decide), ZO c 108 (by decide), Bool.and_true]
    congr 1
    ·congr 1; rw [decide_eq_decide]; show a.toNat + 32 = 120 ↔ _; omega
    ·congr 1
     ·congr 1; rw [decide_eq_decide]; show b.toNat + 32 = 109 ↔ _; omega
     ·congr 1; rw [decide_eq_decide]; show c.toNat + 32 = 108 ↔ _; omega
   have ei : ∀ (x k : Nat), BE (x : Int) (k : Int) = decide (x = k) := fun x k => by
    rw [BE, Bool.eq_iff_iff, beq_iff_eq, decide_eq_true_iff]; omega
   have q1 := ei a.toNat 120; have q2 := ei a.toNat 88; have q3 := ei b.toNat 109; have q4 := ei b.toNat 77; have q5 := ei c.toNat 108; have q6 := ei c.toNat 76
   rw [Z8, Wu (by simp only [AU]; omega)]
   simp only [Bool.not_true, Bool.false_eq_true, if_false, e0, e1, e2, A5, hf]
   simp only [Int.cast_ofNat_Int] at q1 q2 q3 q4 q5 q6
   rw [q1, q2, q3, q4, q5, q6]
   cases decide (a.toNat = 120) <;> cases decide (a.toNat = 88) <;> cases decide (b.toNat = 109) <;> cases decide (b.toNat = 77) <;> cases decide (c.toNat = 108) <;> cases decide (c.toNat = 76) <;> rfl
 ·rw [Z8, P5 (by simp only [AU]; omega)]
  simp only [Bool.not_false, if_true]
  congr 1
  symm
  rw [SE, Bool.eq_false_iff]
  intro hh
  have hlen : ∀ (x y : List UInt8), Lib.equalFold x y = true → x.length = y.length := by
   intro x
   induction x with
   | nil => intro y h; cases y with
    | nil => rfl
    | cons _ _ => cases h
   | cons a x ih => intro y h; cases y with
    | nil => cases h
    | cons b y =>
     rw [Lib.equalFold, Bool.and_eq_true] at h
     simp [ih y h.2]
  have := hlen _ _ hh
  rw [Ph] at this
  exact h this
theorem ZP : ∀ (a b : List UInt8), ((Lib.compareBytes a b < 0) ↔ Op.bytesLess a b = true) ∧ (Lib.compareBytes a b = 0 ↔ a = b)
 | [], [] => by simp [Lib.compareBytes, Op.bytesLess]
 | [], _ :: _ => by simp [Lib.compareBytes, Op.bytesLess]
 | _ :: _, [] => by simp [Lib.compareBytes, Op.bytesLess]
 | x :: a, y :: b => by
  obtain ⟨h1, h2⟩ := ZP a b
  unfold Lib.compareBytes Op.bytesLess
  by_cases hxy : x < y
  ·rw [if_pos hxy]
   refine ⟨by simp [hxy], ?_⟩
   constructor
   ·intro h; cases h
   ·intro h; injection h with e; subst e; exact absurd hxy (UInt8.lt_irrefl x)
  ·rw [if_neg hxy]
   by_cases hyx : y < x
   ·rw [if_pos hyx]
    have hne : x ≠ y := fun e => by subst e; exact UInt8.lt_irrefl x hyx
    refine ⟨by simp [hxy, hne], ?_⟩
    constructor
    ·intro h; cases h
    ·intro h; injection h with e; exact absurd e hne
   ·rw [if_neg hyx]
    have e : x = y := UInt8.le_antisymm (UInt8.not_lt.1 hyx) (UInt8.not_lt.1 hxy)
    subst e
    refine ⟨by rw [h1]; simp [UInt8.lt_irrefl], by rw [h2]; simp⟩
theorem sG (s t : ByteArray) : IY (LM s t) 0 = ltS s t := by
 rw [IY, LM, ltS, Bool.eq_iff_iff, decide_eq_true_iff, (ZP _ _).1, Lib.toList_data, Lib.toList_data]
theorem sH (s t : ByteArray) : BE (LM s t) 0 = Cs s t := by
 rw [BE, LM, Cs, Bool.eq_iff_iff, beq_iff_eq, (ZP _ _).2, beq_iff_eq, Lib.toList_data, Lib.toList_data]
end TT
namespace TT
open Go
def P9 (s : ByteArray) : Bool := (Ax s).getD false
theorem Ts (s : ByteArray) (hs : s.size ≤ 4000000) : Ax s = some (P9 s) ∧ Dc s = some (P9 s) := by
 obtain ⟨b, h1, h2⟩ := sE s hs
 have e : P9 s = b := by rw [P9, h1]; rfl
 exact ⟨by rw [h1, e], by rw [h2, e]⟩
theorem LC (x y : ByteArray) : neS x y = !Cs x y := Bool.eq_iff_iff.2 Iff.rfl
theorem Rp (x y : Int) : neI x y = !BE x y := Bool.eq_iff_iff.2 Iff.rfl
theorem vg (x y : Bool) : neB x y = !eqB x y := Bool.eq_iff_iff.2 Iff.rfl
theorem vh (x y : Int) : geI x y = !IY x y := by
 rw [geI, IY, Bool.eq_iff_iff]; simp
theorem vi (x y : Int) : Nw x y = !Rg x y := by
 rw [Nw, Rg, Bool.eq_iff_iff]; simp
theorem mC (s : ByteArray) (hs : s.size ≤ 4000000) : ∃ b, GD s = some b ∧ EQ s ⟨#[120, 109, 108]⟩ = some b := by
 have e3 : AU (⟨#[120, 109, 108]⟩ : ByteArray) = 3 := rfl
 rw [GD, EQ, Bt, e3]
 by_cases h : 3 ≤ s.size
 ·have e : PN s 0 3 = some (s.extract 0 3) := by
   unfold PN
   rw [if_pos ⟨by omega, by omega, by omega⟩]; rfl
  rw [Q4 (by simp only [AU]; omega)]
  simp only [if_true, e, A5]
  exact ⟨_, rfl, rfl⟩
 ·rw [RG (by simp only [AU]; omega)]
  exact ⟨false, rfl, rfl⟩
def XY (s : ByteArray) : Bool := (CU s).getD false
theorem dA (s : ByteArray) (hs : s.size ≤ 4000000) : CU s = some (XY s) ∧ GJ s = some (XY s) := by
 obtain ⟨b, h1, h2⟩ := mC s hs
 obtain ⟨p1, p2, _⟩ := KK s hs
 have h : ∃ c, CU s = some c ∧ GJ s = some c := by
  rw [CU, GJ, p1, p2, h1, h2]
  simp only [A5]
  cases Cs s ⟨#[]⟩ <;> cases I4 s <;> exact ⟨_, rfl, rfl⟩
 obtain ⟨c, h3, h4⟩ := h
 have e : XY s = c := by rw [XY, h3]; rfl
 exact ⟨by rw [h3, e], by rw [h4, e]⟩
def fe (u p : ByteArray) : Bool := P9 u && (Rg (AU u) 40 && (!Cs u ⟨#[]⟩ || Cs p ⟨#[]⟩))
theorem ZQ (u p : ByteArray) (hu : u.size ≤ 4000000) : Hw u p = some (fe u p) := by
 rw [Hw, (Ts u hu).2, fe]
 simp only [A5, LC]
 cases P9 u <;> cases Rg (AU u) 40 <;> cases Cs u ⟨#[]⟩ <;> rfl
def j5 (d : A1) : Bool := XY d.Pre && fe d.Uri d.Pre
theorem oB (d : A1) (hs : d.sz ≤ 4000000) : LQ d = some (j5 d) := by
 rw [A1.sz_eq] at hs
 rw [LQ, (dA d.Pre (by omega)).2, ZQ _ _ (by omega), j5]
 simp only [A5]
 cases XY d.Pre <;> rfl
theorem oC (d : A1) (hs : d.sz ≤ 4000000) : GF d = some (j5 d) := by
 rw [A1.sz_eq] at hs
 obtain ⟨b, h1, h2⟩ := mC d.Pre (by omega)
 obtain ⟨p1, p2, _⟩ := KK d.Pre (by omega)
 have e : XY d.Pre = (Cs d.Pre ⟨#[]⟩ || (I4 d.Pre && !b)) := by
  have := (dA d.Pre (by omega)).1
  rw [CU, p1, h1] at this
  simp only [A5] at this
  revert this
  cases Cs d.Pre ⟨#[]⟩ <;> cases I4 d.Pre <;> intro this <;> simp_all
 rw [GF, Dx, p1, h1, (Ts d.Uri (by omega)).1, j5, e, fe]
 simp only [A5, LC]
 cases Cs d.Pre ⟨#[]⟩ <;> cases I4 d.Pre <;> cases b <;> cases Cs d.Uri ⟨#[]⟩ <;> cases P9 d.Uri <;> cases Rg (AU d.Uri) 40 <;> rfl
theorem Xu {α : Type} {l pre rest : List α} {x y : α} (h : (pre ++ [y]) ++ x :: rest = l) (hl : l.length ≤ 4000000) : Nw ((pre ++ [y]).length : Int) 0 = true ∧ getI l (Bz ((pre ++ [y]).length : Int) 1) = some y := by
 have hlen : (pre ++ [y]).length = pre.length + 1 := by simp
 have hb : pre.length + 1 ≤ l.length := by rw [← h]; simp
 refine ⟨Nt (by rw [hlen]; omega), ?_⟩
 have e : Bz ((pre ++ [y]).length : Int) 1 = (pre.length : Int) := by
  rw [CF (by omega) (by omega), hlen]; omega
 rw [e]
 exact C8 (rest := x :: rest) (by rw [← h]; simp)
theorem Xv {α : Type} (pre : List α) : pre = [] ∨ ∃ p y, pre = p ++ [y] := by
 rcases List.eq_nil_or_concat pre with h | ⟨p, y, h⟩
 ·exact .inl h
 ·exact .inr ⟨p, y, by rw [h, List.concat_eq_append]⟩
theorem ZR (l : List A1) (hl : l.length ≤ 4000000) (hs : ∀ d ∈ l, d.sz ≤ 4000000) : ∀ (rest pre : List A1), pre ++ rest = l → ∃ b, B9 l pre.length = some b ∧ Ci l pre.length = some b
 | [], pre, hp => ⟨_, by rw [B9, Fa hp]; rfl, by rw [Ci, Fa hp]; rfl⟩
 | x :: rest, pre, hp => by
  have hx : x.sz ≤ 4000000 := hs x (by rw [← hp]; simp)
  obtain ⟨b, h1, h2⟩ := ZR l hl hs rest (pre ++ [x]) (E6 hp)
  rw [B9, Ci, Ec hp, C8 hp, DU hp (by rw [Ba]; omega)]
  simp only [if_true, A5, oC x hx, oB x hx]
  cases j5 x with
  | false => exact ⟨false, rfl, rfl⟩
  | true =>
   simp only [if_true]
   rcases Xv pre with rfl | ⟨p, y, rfl⟩
   ·have e : Nw ((([] : List A1).length : Nat) : Int) 0 = false := rfl
    rw [e]
    exact ⟨b, h1, h2⟩
   ·obtain ⟨e1, e2⟩ := Xu hp hl
    rw [e1, e2]
    simp only [if_true, A5]
    cases geS y.Pre x.Pre with
    | true => exact ⟨false, rfl, rfl⟩
    | false => exact ⟨b, h1, h2⟩
def RL (l : List A1) : Bool := (C6 l).getD false
theorem vj (l : List A1) (hl : l.length ≤ 4000000) (hs : ∀ d ∈ l, d.sz ≤ 4000000) : C6 l = some (RL l) ∧ Mo l = some (RL l) := by
 obtain ⟨b, h1, h2⟩ := ZR l hl hs l [] rfl
 have h1' : C6 l = some b := h1
 have e : RL l = b := by rw [RL, h1']; rfl
 exact ⟨by rw [h1', e], by rw [e]; exact h2⟩
def j7 (a : A3) : Bool := (GK a).getD false
theorem sI (a : A3) (hs : a.sz ≤ 4000000) : Db a = some (j7 a) ∧ GK a = some (j7 a) := by
 rw [A3.sz_eq] at hs
 have h : ∃ c, Db a = some c ∧ GK a = some c := by
  rw [Db, D1, GK, (dA a.Pre (by omega)).1, (dA a.Pre (by omega)).2, ZQ _ _ (by omega), (KK a.Local (by omega)).1, (KK a.Local (by omega)).2.1, (Ts a.Val (by omega)).1, (Ts a.Val (by omega)).2, (Ts a.Uri (by omega)).1, fe]
  simp only [A5, LC, vg]
  cases XY a.Pre <;> cases Cs a.Pre ⟨#[]⟩ <;> cases Cs a.Uri ⟨#[]⟩ <;> cases I4 a.Local <;> cases Cs a.Local ⟨#[120, 109, 108, 110, 115]⟩ <;> cases P9 a.Val <;> cases P9 a.Uri <;> cases Rg (AU a.Uri) 40 <;> exact ⟨_, rfl, rfl⟩
 obtain ⟨c, h3, h4⟩ := h
 have e : j7 a = c := by rw [j7, h4]; rfl
 exact ⟨by rw [h3, e], by rw [h4, e]⟩
theorem sJ (a b : A3) : ∃ c, ER a b = some c ∧ FN a b = some (!geI c 0) := by
 rw [ER, strings_Compare, strings_Compare, FN]
 simp only [A5, Rp, sH, vh, Bool.not_not]
 have h1 := sG a.Uri b.Uri
 have h2 := sH a.Uri b.Uri
 cases he : Cs a.Uri b.Uri with
 | false =>
  refine ⟨_, rfl, ?_⟩
  rw [h1]
  cases ltS a.Uri b.Uri <;> rfl
 | true =>
  refine ⟨_, rfl, ?_⟩
  rw [sG]
  have : ltS a.Uri b.Uri = false := by
   rw [← h1, FR]
   rw [he] at h2
   have := V1.1 h2
   omega
  rw [this]
  rfl
theorem ZS (n : A0) (hl : n.Attrs.length ≤ 4000000) (hs : ∀ d ∈ n.Attrs, d.sz ≤ 4000000) : ∀ (rest pre : List A3), pre ++ rest = n.Attrs → ∃ b, Ay pre.length n = some b ∧ Cj n.Attrs pre.length = some (b && Rg (AC n.Attrs) 5)
 | [], pre, hp => ⟨true, by rw [Ay, Fa hp]; rfl, by rw [Cj, Fa hp]; rfl⟩
 | x :: rest, pre, hp => by
  have hx : x.sz ≤ 4000000 := hs x (by rw [← hp]; simp)
  obtain ⟨b, h1, h2⟩ := ZS n hl hs rest (pre ++ [x]) (E6 hp)
  rw [Ay, Cj, Ec hp, C8 hp, DU hp (by rw [Ba]; omega)]
  simp only [if_true, A5, (sI x hx).1, (sI x hx).2]
  cases j7 x with
  | false => exact ⟨false, rfl, rfl⟩
  | true =>
   simp only [if_true]
   rcases Xv pre with rfl | ⟨p, y, rfl⟩
   ·have e : Nw ((([] : List A3).length : Nat) : Int) 0 = false := rfl
    rw [e]
    exact ⟨b, h1, h2⟩
   ·obtain ⟨e1, e2⟩ := Xu hp hl
    obtain ⟨c, e3, e4⟩ := sJ y x
    rw [e1, e2]
    simp only [if_true, A5, e3, e4]
    cases geI c 0 with
    | true => exact ⟨false, rfl, rfl⟩
    | false => exact ⟨b, h1, h2⟩
theorem oD (n : A0) (hl : n.Attrs.length ≤ 4000000) (hs : ∀ d ∈ n.Attrs, d.sz ≤ 4000000) : ∃ b, CN n = some b ∧ JY n.Attrs = some (b && Rg (AC n.Attrs) 5) := by
 obtain ⟨b, h1, h2⟩ := ZS n hl hs n.Attrs [] rfl
 exact ⟨b, by rw [CN]; exact h1, by rw [JY]; exact h2⟩
end TT
namespace TT
open Go
theorem ya {α : Type} (l : List α) : Nw (AC l) 0 = !BE (AC l) 0 := by
 cases l with
 | nil => rfl
 | cons x l => rw [Nt (by simp only [AC, List.length_cons]; omega), P5 (by simp only [AC, List.length_cons]; omega)]; rfl
theorem lH (s : ByteArray) (hs : s.size ≤ 4000000) : ∃ b, EO s ⟨#[45]⟩ = some b ∧ (if (Cs s ⟨#[]⟩) then some true else PM s (Bz (AU s) 1) >>= fun x4 => some (neI x4 45)) = some (!b) := by
 have e1 : AU (⟨#[45]⟩ : ByteArray) = 1 := rfl
 rw [EO, Bq, e1]
 by_cases h : 1 ≤ s.size
 ·have e0 : Cs s ⟨#[]⟩ = false := by
   cases he : Cs s ⟨#[]⟩ with
   | false => rfl
   | true => rw [V0.1 he] at h; exact absurd h (by decide)
  have e2 : Bz (AU s) 1 = ((s.size - 1 : Nat) : Int) := by rw [CF (by simp only [AU]; omega) (by simp only [AU]; omega)]; simp only [AU]; omega
  have e3 : PN s ((s.size - 1 : Nat) : Int) (AU s) = some (s.extract (s.size - 1) s.size) := by
   show PN s ((s.size - 1 : Nat) : Int) ((s.size : Nat) : Int) = _
   unfold PN
   rw [if_pos ⟨by omega, by omega, by omega⟩]
   congr 1
  have hd : s.data.toList.drop (s.size - 1) = [s.data.toList[s.size - 1]'(by rw [Ph]; omega)] := by
   rw [List.drop_eq_getElem_cons (by rw [Ph]; omega)]
   congr 1
   exact List.drop_eq_nil_of_le (by rw [Ph]; omega)
  have e4 : (s.extract (s.size - 1) s.size).toList = [s.data.toList[s.size - 1]'(by rw [Ph]; omega)] := by
   rw [j3, hd]
   have : s.size - (s.size - 1) = 1 := by omega
   rw [this]; rfl
  have e5 : QD s (s.size - 1) = (s.data.toList[s.size - 1]'(by rw [Ph]; omega)).toNat := by
   show (s.data[s.size - 1]!).toNat = _
   rw [← Array.getElem!_toList, getElem!_pos s.data.toList (s.size - 1) (by rw [Ph]; omega)]
  rw [Q4 (by simp only [AU]; omega), e0, e2]
  simp only [if_true, e3, A5, Bool.false_eq_true, if_false, Tr (i := ((s.size - 1 : Nat) : Int)) rfl (show s.size - 1 < s.size by omega), Rp]
  refine ⟨_, rfl, ?_⟩
  congr 2
  rw [e5, Cs, e4, Bool.eq_iff_iff, V1, beq_iff_eq, show (⟨#[45]⟩ : ByteArray).toList = [45] from by rw [Lib.toList_data]]
  constructor
  ·intro hh
   have : s.data.toList[s.size - 1]'(by rw [Ph]; omega) = 45 := UInt8.toNat_inj.1 (by have : ((45 : UInt8).toNat : Int) = 45 := rfl; omega)
   rw [this]
  ·intro hh
   have := (List.cons.inj hh).1
   rw [this]; rfl
 ·have hz : s.size = 0 := by omega
  have e0 : Cs s ⟨#[]⟩ = true := V0.2 (by
   apply toList_inj
   rw [Lib.toList_data, Lib.toList_data]
   have := Ph s
   rw [hz] at this
   rw [List.eq_nil_of_length_eq_zero this])
  rw [RG (by simp only [AU]; omega), e0]
  exact ⟨false, rfl, rfl⟩
theorem oE (n : Int) : ∃ b, EL n = some b ∧ Ge n = some b := by
 rw [EL, Ge]
 cases BE n 9 <;> cases BE n 10 <;> cases BE n 13 <;> exact ⟨_, rfl, rfl⟩
theorem oG (s : ByteArray) (hs : s.size ≤ 4000000) : ∃ b, (if (Cs s ⟨#[]⟩) then some true else PM s 0 >>= fun x5 => EL (wr .i64 x5) >>= fun r22 => some (!r22)) = some b ∧ (if (Cs s ⟨#[]⟩) then some true else PM s 0 >>= fun x => Ge (wr .i64 x) >>= fun r5 => some (!r5)) = some b := by
 cases he : Cs s ⟨#[]⟩ with
 | true => exact ⟨true, rfl, rfl⟩
 | false =>
  have hz : 0 < s.size := by
   rcases Nat.eq_zero_or_pos s.size with h | h
   ·have : s = ⟨#[]⟩ := by
     apply toList_inj
     rw [Lib.toList_data, Lib.toList_data]
     have := Ph s
     rw [h] at this
     rw [List.eq_nil_of_length_eq_zero this]
    rw [this] at he
    rw [Fg] at he
    cases he
   ·exact h
  obtain ⟨b, h1, h2⟩ := oE (wr .i64 ((QD s 0 : Nat) : Int))
  have e : PM s 0 = some ((QD s 0 : Nat) : Int) := Tr (i := 0) (k := 0) rfl hz
  simp only [Bool.false_eq_true, if_false, e, A5, h1, h2]
  exact ⟨_, rfl, rfl⟩
def dB (n : A0) : Bool := (GI n).getD false
theorem yb (n : A0) (hs : n.sz ≤ 4000000) (hk : BE n.Kind 1 = false) : Bw n = some (dB n) ∧ GI n = some (dB n) := by
 rw [A0.sz_eq] at hs
 have h : ∃ c, Bw n = some c ∧ GI n = some c := by
  obtain ⟨b1, s1, s2⟩ := lH n.Text (by omega)
  obtain ⟨b2, f1, f2⟩ := oG n.Text (by omega)
  have c1 := fc n.Text ⟨#[45, 45]⟩ (by decide) (by omega) (by decide)
  have c2 := fc n.Text ⟨#[13]⟩ (by decide) (by omega) (by decide)
  have c3 := fc n.Text ⟨#[63, 62]⟩ (by decide) (by omega) (by decide)
  have x1 := vf n.Local (by omega)
  have p1 := KK n.Local (by omega)
  have t1 := Ts n.Text (by omega)
  rw [Bw, GI, GH, Nm, Nn, FO, hk, s1, s2, f1, f2, c1.1, c1.2, c2.1, c2.2, c3.1, c3.2, x1.1, x1.2, p1.1, p1.2.1, t1.1, t1.2]
  simp only [A5, LC, Rp, ya, Bool.false_eq_true, if_false]
  have k23 : BE n.Kind 2 = true → BE n.Kind 3 = false ∧ BE n.Kind 4 = false := fun h => by
   have := V1.1 h; exact ⟨P5 (by omega), P5 (by omega)⟩
  have k34 : BE n.Kind 3 = true → BE n.Kind 4 = false := fun h => by
   have := V1.1 h; exact P5 (by omega)
  cases Cs n.Pre ⟨#[]⟩ <;> cases Cs n.Uri ⟨#[]⟩ <;> cases BE (AC n.Decls) 0 <;> cases BE (AC n.Attrs) 0 <;> cases BE (AC n.Kids) 0
  all_goals try (cases h2 : BE n.Kind 2 <;> cases h3 : BE n.Kind 3 <;> cases h4 : BE n.Kind 4 <;> exact ⟨false, rfl, rfl⟩)
  cases h2 : BE n.Kind 2 with
  | true =>
   obtain ⟨h3, h4⟩ := k23 h2
   rw [h4]
   cases Cs n.Local ⟨#[]⟩ <;> cases Cs n.Text ⟨#[]⟩ <;> cases P9 n.Text <;> exact ⟨_, rfl, rfl⟩
  | false =>
   cases h3 : BE n.Kind 3 with
   | true =>
    rw [k34 h3]
    cases Cs n.Local ⟨#[]⟩ <;> cases P9 n.Text <;> cases F9 n.Text ⟨#[45, 45]⟩ <;> cases F9 n.Text ⟨#[13]⟩ <;> cases b1 <;> exact ⟨_, rfl, rfl⟩
   | false =>
    cases h4 : BE n.Kind 4 with
    | true => cases Cs n.Local ⟨#[]⟩ <;> cases I4 n.Local <;> cases SE n.Local ⟨#[120, 109, 108]⟩ <;> cases P9 n.Text <;> cases F9 n.Text ⟨#[63, 62]⟩ <;> cases F9 n.Text ⟨#[13]⟩ <;> exact ⟨_, rfl, rfl⟩
    | false => cases Cs n.Local ⟨#[]⟩ <;> exact ⟨_, rfl, rfl⟩
 obtain ⟨c, h3, h4⟩ := h
 have e : dB n = c := by rw [dB, h4]; rfl
 exact ⟨by rw [h3, e], by rw [h4, e]⟩
end TT
namespace TT
open Go
def elB (n : A0) : Bool := (Bw n).getD false
theorem A07 (n : A0) (hs : n.sz ≤ 4000000) (hk : BE n.Kind 1 = true) : Bw n = some (elB n) ∧ ∀ (d : Int) (b : Bool), geI d 7 = false → Dd n (Ac d 1) = some b → Be n d = some (elB n && b) := by
 have hsz := hs
 rw [A0.sz_eq] at hs
 obtain ⟨ab, a1, a2⟩ := oD n (by omega) (fun x hx => by have := Cq A3.sz hx; omega)
 obtain ⟨d1, d2⟩ := vj n.Decls (by omega) (fun x hx => by have := Cq A1.sz hx; omega)
 have e1 : Bw n = some (XY n.Pre && (I4 n.Local && (Cs n.Text ⟨#[]⟩ && (fe n.Uri n.Pre && (RL n.Decls && (ab && Rg (AC n.Attrs) 5)))))) := by
  rw [Bw, hk, (dA n.Pre (by omega)).1, (KK n.Local (by omega)).1, (Ts n.Uri (by omega)).1, d1, a1, fe]
  simp only [A5, LC, if_true, vi]
  cases XY n.Pre <;> cases I4 n.Local <;> cases Cs n.Text ⟨#[]⟩ <;> cases Cs n.Pre ⟨#[]⟩ <;> cases Cs n.Uri ⟨#[]⟩ <;> cases P9 n.Uri <;> cases Rg (AU n.Uri) 40 <;> cases RL n.Decls <;> cases Rg (AC n.Attrs) 5 <;> cases ab <;> rfl
 have e2 : elB n = (XY n.Pre && (I4 n.Local && (Cs n.Text ⟨#[]⟩ && (fe n.Uri n.Pre && (RL n.Decls && (ab && Rg (AC n.Attrs) 5)))))) := by rw [elB, e1]; rfl
 refine ⟨by rw [e1, e2], fun d b hd hb => ?_⟩
 rw [Be, Rp, hk, hd, (dA n.Pre (by omega)).2, ZQ _ _ (by omega), (KK n.Local (by omega)).2.1, d2, a2, hb, e2]
 simp only [A5, LC, Bool.not_true, Bool.false_eq_true, if_false]
 cases XY n.Pre <;> cases I4 n.Local <;> cases Cs n.Text ⟨#[]⟩ <;> cases fe n.Uri n.Pre <;> cases RL n.Decls <;> cases Rg (AC n.Attrs) 5 <;> cases ab <;> rfl
def j8 (x : A0) (deep : Int) : Option Bool := Bw x >>= fun r2 => if r2 then (if BE x.Kind 1 then (if BE deep 7 then some false else Ak x.Kids (Ac deep 1)) else some true) else some false
def isT (x : A0) : Bool := BE x.Kind 2
def mD (pre : List A0) : Bool := match pre.getLast? with
 | some y => isT y
 | none => false
def RM : Bool → List A0 → Bool
 | _, [] => true
 | p, x :: xs => !(p && isT x) && RM (isT x) xs
theorem Rq (pre : List A0) (x : A0) : mD (pre ++ [x]) = isT x := by simp [mD]
def pB (d : Int) (k : A0) : Bool := (Be k d).getD false
theorem WE (l : List A0) (hl : l.length ≤ 4000000) (d : Int) (hk : ∀ k ∈ l, j8 k d = some (pB d k)) : ∀ (rest pre : List A0), pre ++ rest = l → Ai l d pre.length = some (RM (mD pre) rest && rest.all (pB d))
 | [], pre, hp => by rw [Ai, Fa hp]; rfl
 | x :: rest, pre, hp => by
  have ih := WE l hl d hk rest (pre ++ [x]) (E6 hp)
  have hx := hk x (by rw [← hp]; simp)
  rw [Rq] at ih
  rw [j8] at hx
  obtain ⟨r2, h2, hx⟩ := Option.bind_eq_some_iff.1 hx
  have hj : r2 = true → Bh l d pre.length x = some (pB d x && (RM (isT x) rest && rest.all (pB d))) := fun hr => by
   rw [hr] at hx
   rw [Bh, DU hp (by rw [Ba]; omega), ih]
   simp only [if_true] at hx
   revert hx
   cases BE x.Kind 1 with
   | false =>
    simp only [Bool.false_eq_true, if_false]
    intro hx
    rw [← Option.some.inj hx]; rfl
   | true =>
    simp only [if_true]
    cases BE d 7 with
    | true => simp only [if_true]; intro hx; rw [← Option.some.inj hx]; rfl
    | false =>
     simp only [Bool.false_eq_true, if_false]
     intro hx
     rw [hx]
     simp only [A5]
     cases pB d x <;> rfl
  rw [Ai, Ec hp, C8 hp]
  simp only [if_true, A5, h2]
  cases r2 with
  | false =>
   simp only [Bool.false_eq_true, if_false] at hx ⊢
   have : pB d x = false := (Option.some.inj hx).symm
   simp only [List.all_cons, this, Bool.false_and, Bool.and_false]
  | true =>
   rw [hj rfl]
   simp only [if_true, RM, List.all_cons]
   show (if isT x = true then _ else _) = _
   cases hx2 : isT x with
   | false => simp only [Bool.false_eq_true, if_false, Bool.and_false, Bool.not_false, Bool.true_and]; cases pB d x <;> simp
   | true =>
    simp only [if_true, Bool.and_true]
    rcases Xv pre with rfl | ⟨p, y, rfl⟩
    ·have e : Nw ((([] : List A0).length : Nat) : Int) 0 = false := rfl
     rw [e]
     simp only [Bool.false_eq_true, if_false]
     show _ = some ((!(false) && RM true rest) && _)
     cases pB d x <;> simp
    ·obtain ⟨e1, e2⟩ := Xu hp hl
     rw [e1, e2, Rq]
     simp only [if_true, A5]
     show (if isT y = true then _ else _) = _
     cases isT y with
     | true => simp
     | false => simp only [Bool.false_eq_true, if_false]; cases pB d x <;> simp
theorem j9 (l : List A0) (hl : l.length ≤ 4000000) : ∀ (rest pre : List A0), pre ++ rest = l → BJ l pre.length = some (RM (mD pre) rest)
 | [], pre, hp => by rw [BJ, Fa hp]; rfl
 | x :: rest, pre, hp => by
  have ih := j9 l hl rest (pre ++ [x]) (E6 hp)
  rw [Rq] at ih
  rw [BJ, Ec hp, C8 hp, DU hp (by rw [Ba]; omega), ih]
  simp only [if_true, A5, RM]
  rcases Xv pre with rfl | ⟨p, y, rfl⟩
  ·have e : Nw ((([] : List A0).length : Nat) : Int) 0 = false := rfl
   rw [e]; rfl
  ·obtain ⟨e1, e2⟩ := Xu hp hl
   rw [e1, e2, Rq]
   simp only [if_true, A5]
   show (if isT x = true then (if isT y = true then _ else _) else _) = _
   cases isT x <;> cases isT y <;> rfl
theorem jA (l : List A0) (hl : l.length ≤ 4000000) (d : Int) (hk : ∀ k ∈ l, Be k d = some (pB d k)) : ∀ (rest pre : List A0), pre ++ rest = l → ∃ r, AS l pre.length d = some (r, d) ∧ geI r 0 = !rest.all (pB d)
 | [], pre, hp => ⟨-1, by rw [AS, Fa hp]; rfl, rfl⟩
 | x :: rest, pre, hp => by
  obtain ⟨r, h1, h2⟩ := jA l hl d hk rest (pre ++ [x]) (E6 hp)
  rw [AS, Ec hp, C8 hp, DU hp (by rw [Ba]; omega)]
  simp only [if_true, A5, List.all_cons, L6, hk x (by rw [← hp]; simp)]
  cases pB d x with
  | true => exact ⟨r, h1, by rw [h2]; rfl⟩
  | false => exact ⟨pre.length, rfl, by rw [Q4 (by omega)]; rfl⟩
def PB (d : Int) (l : List A0) : Bool := RM false l && l.all (pB d)
theorem dC (n : A0) (hl : n.Kids.length ≤ 4000000) (d : Int) (hk : ∀ k ∈ n.Kids, Be k d = some (pB d k)) : Dd n d = some (PB d n.Kids) := by
 have h1 : Ff n.Kids = some (RM false n.Kids) := by rw [Ff]; exact j9 n.Kids hl n.Kids [] rfl
 obtain ⟨r, h2, h3⟩ := jA n.Kids hl d hk n.Kids [] rfl
 have h2' : AS n.Kids 0 d = some (r, d) := h2
 rw [Dd, h1, BP, Bu, h2']
 simp only [A5, h3, Bool.not_not, PB]
 cases RM false n.Kids <;> rfl
theorem ZT : ∀ n : A0, n.sz ≤ 1048576 → ∀ d : Nat, d ≤ 7 → Be n d = some (pB d n) ∧ j8 n d = some (pB d n) := by
 refine A0.ind' fun n ih hs d hd => ?_
 have h : ∃ b, Be n d = some b ∧ j8 n d = some b := by
  have hsz := hs
  rw [A0.sz_eq] at hs
  cases hk : BE n.Kind 1 with
  | false =>
   obtain ⟨l1, l2⟩ := yb n (by omega) hk
   refine ⟨dB n, ?_, ?_⟩
   ·rw [Be, Rp, hk, l2]; rfl
   ·rw [j8, l1, hk]
    cases dB n <;> rfl
  | true =>
   obtain ⟨e1, e2⟩ := A07 n (by omega) hk
   by_cases h7 : d = 7
   ·subst h7
    refine ⟨false, ?_, ?_⟩
    ·rw [Be, Rp, hk]; rfl
    ·rw [j8, e1, hk]
     have : BE ((7 : Nat) : Int) 7 = true := rfl
     rw [this]
     cases elB n <;> rfl
   ·have hadd : Ac (d : Int) 1 = ((d + 1 : Nat) : Int) := by rw [Az (by omega) (by omega)]; omega
    have hkid : ∀ k ∈ n.Kids, Be k ((d + 1 : Nat) : Int) = some (pB ((d + 1 : Nat) : Int) k) ∧ j8 k ((d + 1 : Nat) : Int) = some (pB ((d + 1 : Nat) : Int) k) := fun k hk => ih k hk (by have := Cq A0.sz hk; omega) (d + 1) (by omega)
    have k1 := dC n (by omega) _ fun k hk => (hkid k hk).1
    have k2 : Ak n.Kids ((d + 1 : Nat) : Int) = some (PB ((d + 1 : Nat) : Int) n.Kids) := by
     rw [Ak]
     exact WE n.Kids (by omega) _ (fun k hk => (hkid k hk).2) n.Kids [] rfl
    refine ⟨elB n && PB ((d + 1 : Nat) : Int) n.Kids, e2 d _ (RG (by omega)) (by rw [hadd]; exact k1), ?_⟩
    rw [j8, e1, hk, P5 (show (d : Int) ≠ 7 by omega), hadd, k2]
    cases elB n <;> rfl
 obtain ⟨b, h1, h2⟩ := h
 have e : pB d n = b := by rw [pB, h1]; rfl
 exact ⟨by rw [h1, e], by rw [h2, e]⟩
theorem jB (l : List A0) (hl : l.length ≤ 4000000) (hs : ∀ k ∈ l, k.sz ≤ 1048576) (d : Nat) (hd : d ≤ 7) : Ak l d = some (PB d l) := by
 rw [Ak]
 exact WE l hl _ (fun k hk => (ZT k (hs k hk) d hd).2) l [] rfl
theorem oH (n : A0) (hs : n.sz ≤ 1048576) (d : Nat) (hd : d ≤ 7) : Dd n d = some (PB d n.Kids) := by
 rw [A0.sz_eq] at hs
 exact dC n (by omega) _ fun k hk => (ZT k (by have := Cq A0.sz hk; omega) d hd).1
theorem jC (n : A0) (hl : n.Kids.length ≤ 4000000) (hk : ∀ k ∈ n.Kids, ∃ c : Nat, Aw k = some (c : Int) ∧ EN k = some (c : Int) ∧ c ≤ 1 + k.sz) : ∀ (rest pre : List A0) (a : Nat), pre ++ rest = n.Kids → a + rest.length + szs A0.sz rest ≤ 100000000 → ∃ c : Nat, Ad a pre.length n = some (c : Int) ∧ ED a n pre.length = some (c : Int) ∧ c ≤ a + rest.length + szs A0.sz rest
 | [], pre, a, hp, hb => ⟨a, by rw [Ad, Fa hp]; rfl, by rw [ED, Fa hp]; rfl, by omega⟩
 | x :: rest, pre, a, hp, hb => by
  obtain ⟨c, h1, h2, h3⟩ := hk x (by rw [← hp]; simp)
  rw [E3, List.length_cons] at hb
  obtain ⟨q, g1, g2, g3⟩ := jC n hl hk rest (pre ++ [x]) (a + c) (E6 hp) (by omega)
  have e : Ac (a : Int) (c : Int) = ((a + c : Nat) : Int) := by rw [Az (by omega) (by omega)]; omega
  refine ⟨q, ?_, ?_, by rw [E3, List.length_cons]; omega⟩
  ·rw [Ad, Ec hp, C8 hp, DU hp (by rw [Ba]; omega)]
   simp only [if_true, A5, h1, e]
   exact g1
  ·rw [ED, Ec hp, C8 hp, DU hp (by rw [Ba]; omega)]
   simp only [if_true, A5, h2, e]
   exact g2
theorem vl : ∀ n : A0, n.sz ≤ 1048576 → ∃ c : Nat, Aw n = some (c : Int) ∧ EN n = some (c : Int) ∧ c ≤ 1 + n.sz := by
 refine A0.ind' fun n ih hs => ?_
 have hz := A0.sz_eq n
 rw [hz] at hs
 obtain ⟨c, h1, h2, h3⟩ := jC n (by omega) (fun k hk => ih k hk (by have := Cq A0.sz hk; omega)) n.Kids [] (1 + n.Attrs.length) rfl (by omega)
 have e : Ac 1 (AC n.Attrs) = ((1 + n.Attrs.length : Nat) : Int) := by rw [Az (by simp only [AC]; omega) (by simp only [AC]; omega)]; simp only [AC]; omega
 exact ⟨c, by rw [Aw, e]; exact h1, by rw [EN, e]; exact h2, by omega⟩
def ofK (k : Int) (l : List A0) : Nat := l.countP fun x => BE x.Kind k
theorem RN (l : List A0) (k : Int) (hl : l.length ≤ 4000000) : ∀ (rest pre : List A0) (a : Nat), pre ++ rest = l → a + rest.length ≤ 8000000 → DA k a l pre.length = some ((a + ofK k rest : Nat) : Int)
 | [], pre, a, hp, hb => by rw [DA, Fa hp]; rfl
 | x :: rest, pre, a, hp, hb => by
  rw [List.length_cons] at hb
  rw [DA, Ec hp, C8 hp, DU hp (by rw [Ba]; omega)]
  simp only [if_true, A5]
  cases hx : BE x.Kind k with
  | true =>
   have e : Ac (a : Int) 1 = ((a + 1 : Nat) : Int) := by rw [Az (by omega) (by omega)]; omega
   rw [e, if_pos rfl, RN l k hl rest (pre ++ [x]) (a + 1) (E6 hp) (by omega)]
   simp only [ofK, List.countP_cons, hx, if_true]
   congr 2; omega
  | false =>
   simp only [Bool.false_eq_true, if_false]
   rw [RN l k hl rest (pre ++ [x]) a (E6 hp) (by omega)]
   simp only [ofK, List.countP_cons, hx, Bool.false_eq_true, if_false, Nat.add_zero]
theorem ZU (l : List A0) (k : Int) (hl : l.length ≤ 4000000) : IH l k = some (ofK k l : Int) := by
 rw [IH]
 have := RN l k hl l [] 0 rfl (by omega)
 simpa using this
def jD (n : A0) : Bool := Cs n.Pre ⟨#[]⟩ && (Cs n.Local ⟨#[]⟩ && (Cs n.Uri ⟨#[]⟩ && (Cs n.Text ⟨#[]⟩ && (BE (AC n.Decls) 0 && BE (AC n.Attrs) 0))))
theorem dD (n : A0) (hs : n.sz ≤ 1048576) : ∀ (rest pre : List A0) (a : Nat), pre ++ rest = n.Kids → a + rest.length ≤ 8000000 → AT a pre.length n = some (BE (ofK 2 rest : Int) 0 && (BE ((a + ofK 1 rest : Nat) : Int) 1 && (jD n && PB 0 n.Kids)))
 | [], pre, a, hp, hb => by
  have hk := jB n.Kids (by rw [A0.sz_eq] at hs; omega) (fun k hk => by rw [A0.sz_eq] at hs; have := Cq A0.sz hk; omega) 0 (by omega)
  have hk' : Ak n.Kids 0 = some (PB 0 n.Kids) := hk
  rw [AT, Fa hp, hk', jD]
  simp only [Bool.false_eq_true, if_false, A5, ofK, List.countP_nil, Nat.add_zero]
  show _ = some (true && _)
  cases BE (a : Int) 1 <;> cases Cs n.Pre ⟨#[]⟩ <;> cases Cs n.Local ⟨#[]⟩ <;> cases Cs n.Uri ⟨#[]⟩ <;> cases Cs n.Text ⟨#[]⟩ <;> cases BE (AC n.Decls) 0 <;> cases BE (AC n.Attrs) 0 <;> rfl
 | x :: rest, pre, a, hp, hb => by
  have hl : n.Kids.length ≤ 4000000 := by rw [A0.sz_eq] at hs; omega
  rw [List.length_cons] at hb
  have hj : ∀ q : Nat, q + rest.length ≤ 8000000 → Bi q pre.length n = some (!isT x && (BE (ofK 2 rest : Int) 0 && (BE ((q + ofK 1 rest : Nat) : Int) 1 && (jD n && PB 0 n.Kids)))) := fun q hq => by
   rw [Bi, C8 hp, DU hp (by rw [Ba]; omega), dD n hs rest (pre ++ [x]) q (E6 hp) hq]
   simp only [A5]
   show (if isT x = true then _ else _) = _
   cases isT x <;> rfl
  have ht : BE ((ofK 2 (x :: rest) : Nat) : Int) 0 = (!isT x && BE (ofK 2 rest : Int) 0) := by
   simp only [ofK, List.countP_cons]
   show BE ((_ + (if isT x = true then 1 else 0) : Nat) : Int) 0 = _
   cases isT x with
   | false => rfl
   | true => rw [P5 (by simp only [if_true]; omega)]; rfl
  rw [AT, Ec hp, C8 hp, ht]
  simp only [if_true, A5]
  cases hx : BE x.Kind 1 with
  | true =>
   have e : Ac (a : Int) 1 = ((a + 1 : Nat) : Int) := by rw [Az (by omega) (by omega)]; omega
   rw [if_pos rfl, e, hj (a + 1) (by omega)]
   simp only [ofK, List.countP_cons, hx, if_true]
   rw [show a + 1 + List.countP (fun x => BE x.Kind 1) rest = a + (List.countP (fun x => BE x.Kind 1) rest + 1) by omega, Bool.and_assoc]
  | false =>
   simp only [Bool.false_eq_true, if_false]
   rw [hj a (by omega)]
   simp only [ofK, List.countP_cons, hx, Bool.false_eq_true, if_false, Nat.add_zero, Bool.and_assoc]
def ZV (n : A0) : Bool := (GL n).getD false
theorem yc (n : A0) (hs : n.sz ≤ 1048576) : Cg n = some (ZV n) ∧ GL n = some (ZV n) := by
 have h : ∃ c, Cg n = some c ∧ GL n = some c := by
  obtain ⟨c, h1, h2, h3⟩ := vl n hs
  have hl : n.Kids.length ≤ 4000000 := by rw [A0.sz_eq] at hs; omega
  rw [Cg, GL, h1, h2]
  simp only [A5]
  cases Nw (c : Int) 60 with
  | true => exact ⟨false, rfl, rfl⟩
  | false =>
   simp only [Bool.false_eq_true, if_false]
   cases neI n.Kind 0 with
   | true =>
    simp only [if_true]
    have h4 := (ZT n hs 0 (by omega)).1
    have h5 := jB [n] (by simp) (fun k hk => by rw [List.mem_singleton.1 hk]; exact hs) 0 (by omega)
    have h5' : Ak [n] 0 = some (PB 0 [n]) := h5
    have h4' : Be n 0 = some (pB 0 n) := h4
    rw [h4', h5']
    refine ⟨_, rfl, ?_⟩
    simp only [A5, PB, RM, List.all_cons, List.all_nil, Bool.false_and, Bool.not_false, Bool.true_and, Bool.and_true]
   | false =>
    simp only [Bool.false_eq_true, if_false]
    have h6 := dD n hs n.Kids [] 0 rfl (by omega)
    have h6' : AT 0 0 n = some (BE (ofK 2 n.Kids : Int) 0 && (BE ((0 + ofK 1 n.Kids : Nat) : Int) 1 && (jD n && PB 0 n.Kids))) := h6
    have h7 : Dd n 0 = some (PB 0 n.Kids) := oH n hs 0 (by omega)
    rw [h6', Nat.zero_add, jD, Bj, Bj, ZU _ _ hl, ZU _ _ hl, h7]
    simp only [A5, Bool.false_eq_true, if_false]
    cases BE (ofK 2 n.Kids : Int) 0 <;> cases BE (ofK 1 n.Kids : Int) 1 <;> cases Cs n.Pre ⟨#[]⟩ <;> cases Cs n.Local ⟨#[]⟩ <;> cases Cs n.Uri ⟨#[]⟩ <;> cases Cs n.Text ⟨#[]⟩ <;> cases BE (AC n.Decls) 0 <;> cases BE (AC n.Attrs) 0 <;> exact ⟨_, rfl, rfl⟩
 obtain ⟨c, h3, h4⟩ := h
 have e : ZV n = c := by rw [ZV, h4]; rfl
 exact ⟨by rw [h3, e], by rw [h4, e]⟩
end TT
namespace TT
open Go
def prs (l : List A1) : List (ByteArray × ByteArray) := l.map fun x => (x.Pre, x.Uri)
theorem lI (l : List (ByteArray × ByteArray)) (x : ByteArray × ByteArray) (p : ByteArray) : Ib (l ++ [x]) p = if decide (x.1 = p) then (x.2, true) else Ib l p := by
 simp only [Ib, List.reverse_append, List.reverse_cons, List.reverse_nil, List.nil_append, List.cons_append, List.find?_cons]
 cases decide (x.1 = p) <;> rfl
theorem Xw (x y : ByteArray) : Cs x y = decide (x = y) := by
 rw [Bool.eq_iff_iff, V0, decide_eq_true_iff]
theorem ZW (l : List A1) (p : ByteArray) (hl : l.length ≤ 4000000) : ∀ k, k ≤ l.length → B7 l p ((k : Int) - 1) = some (Ib (prs (l.take k)) p)
 | 0, _ => by
  rw [B7, RG (by omega)]
  simp only [Bool.false_eq_true, if_false, List.take_zero, prs, List.map_nil]
  rw [Xw]; rfl
 | k + 1, h => by
  have e : (((k + 1 : Nat) : Int) - 1) = (k : Int) := by omega
  have hx : l[k]? = some (l[k]'(by omega)) := List.getElem?_eq_getElem (by omega)
  have hg : getI l (k : Int) = some (l[k]'(by omega)) := by
   unfold getI
   rw [if_pos (by omega)]
   simp
  have ih := ZW l p hl k (by omega)
  rw [B7, e, Q4 (by omega), hg, List.take_add_one, hx, CF (by omega) (by omega), ih]
  simp only [if_true, A5, Option.toList_some, prs, List.map_append, List.map_cons, List.map_nil]
  rw [lI, Xw]
  cases decide ((l[k]'(by omega)).Pre = p) <;> rfl
theorem ZX (l : List A1) (p : ByteArray) (hl : l.length ≤ 4000000) : B5 l p = some (Ib (prs l) p) := by
 have e : Bz (AC l) 1 = ((l.length : Int) - 1) := CF (by simp only [AC]; omega) (by simp only [AC]; omega)
 rw [B5, e, ZW l p hl l.length (Nat.le_refl _), List.take_length]
theorem lJ (l m : List A1) (hl : l.length + m.length ≤ 4000000) : DL l m = some (l ++ m) := by
 rw [DL, Fb (by omega) (by omega) (by omega), Fb (by omega) (by omega) (by omega)]
 simp
theorem oI (l : List A1) : HK (l.map A1.row) = some (prs l) := by
 induction l with
 | nil => rfl
 | cons x l ih =>
  show (HK (l.map A1.row)).map _ = _
  rw [ih]; rfl
def ats (l : List A3) : List (ByteArray × ByteArray) := l.map fun x => (x.Pre, x.Uri)
theorem sK (l : List A3) : QS (l.map A3.row) = some (ats l) := by
 induction l with
 | nil => rfl
 | cons x l ih =>
  show (QS (l.map A3.row)).map _ = _
  rw [ih]; rfl
theorem dE (n : A0) (own : List A1) (hl : n.Kids.length ≤ 4000000) (hk : ∀ k ∈ n.Kids, ∃ b, BG k own = some b ∧ LO (A0.row false k) (prs own) = some b) : ∀ (rest pre : List A0), pre ++ rest = n.Kids → ∃ b, AO own pre.length n = some b ∧ Nz (rest.map (A0.row false)) (prs own) = some b
 | [], pre, hp => ⟨true, by rw [AO, Fa hp]; rfl, by simp only [List.map_nil, Nz]⟩
 | x :: rest, pre, hp => by
  obtain ⟨b, h1, h2⟩ := hk x (by rw [← hp]; simp)
  obtain ⟨c, h3, h4⟩ := dE n own hl hk rest (pre ++ [x]) (E6 hp)
  refine ⟨b && c, ?_, by simp only [List.map_cons, Nz, h2, h4]⟩
  rw [AO, Ec hp, C8 hp, DU hp (by rw [Ba]; omega)]
  simp only [if_true, A5, h1, h3]
  cases b <;> rfl
theorem dF (n : A0) (own : List A1) (ho : own.length ≤ 4000000) (hl : n.Attrs.length ≤ 4000000) (c : Bool) (hc : AO own 0 n = some c) : ∀ (rest pre : List A3), pre ++ rest = n.Attrs → Am own pre.length n = some ((ats rest).all (UL (prs own)) && c)
 | [], pre, hp => by rw [Am, Fa hp]; exact hc
 | x :: rest, pre, hp => by
  have ih := dF n own ho hl c hc rest (pre ++ [x]) (E6 hp)
  rw [Am, Ec hp, C8 hp, DU hp (by rw [Ba]; omega), ih]
  simp only [if_true, A5, ZX _ _ ho, LC, ats, List.map_cons, List.all_cons, UL, Ny, Xw]
  cases decide (x.Pre = ⟨#[]⟩) <;> cases (Ib (prs own) x.Pre).2 <;> cases decide ((Ib (prs own) x.Pre).1 = x.Uri) <;> simp
theorem sL : ∀ n : A0, n.sz ≤ 1048576 → ∀ l : List A1, l.length + n.sz ≤ 4000000 → ∃ b, BG n l = some b ∧ LO (A0.row false n) (prs l) = some b := by
 refine A0.ind' fun n ih hs l hb => ?_
 have hz := A0.sz_eq n
 rw [hz] at hs hb
 have ho : (l ++ n.Decls).length ≤ 4000000 := by rw [List.length_append]; omega
 obtain ⟨c, h1, h2⟩ := dE n (l ++ n.Decls) (by omega) (fun k hk => ih k hk (by have := Cq A0.sz hk; omega) (l ++ n.Decls) (by rw [List.length_append]; have := Cq A0.sz hk; omega)) n.Kids [] rfl
 have h3 := dF n (l ++ n.Decls) ho (by omega) c h1 n.Attrs [] rfl
 have h3' : BM (l ++ n.Decls) n = some ((ats n.Attrs).all (UL (prs (l ++ n.Decls))) && c) := by rw [BM]; exact h3
 have hp : prs l ++ prs n.Decls = prs (l ++ n.Decls) := by simp [prs]
 have hpl : (prs l ++ prs n.Decls).length ≤ 4000000 := by rw [hp, prs, List.length_map]; exact ho
 refine ⟨((decide (n.Kind ≠ 1) || Ny (prs (l ++ n.Decls)) n.Pre n.Uri) && (ats n.Attrs).all (UL (prs (l ++ n.Decls)))) && c, ?_, ?_⟩
 rotate_left
 ·rw [A0.row_eq, LO, oI, sK]
  rw [hp] at hpl
  simp only [hp, h2]
  rw [if_pos hpl]
 ·rw [BG, lJ _ _ (by rw [List.length_append] at ho; exact ho)]
  simp only [A5, ZX _ _ ho, h3', LC, Ny, Xw]
  cases hk : BE n.Kind 1 with
  | false =>
   have hne : decide (n.Kind ≠ 1) = true := decide_eq_true fun e => by rw [Wu e] at hk; cases hk
   rw [hne]
   simp
  | true =>
   have hne : decide (n.Kind ≠ 1) = false := decide_eq_false fun e => e (V1.1 hk)
   rw [hne]
   cases (Ib (prs (l ++ n.Decls)) n.Pre).2 <;> cases decide ((Ib (prs (l ++ n.Decls)) n.Pre).1 = n.Uri) <;> simp
def sM (n : A0) (l : List A1) : Bool := (BG n l).getD false
theorem zo (n : A0) (l : List A1) (hs : n.sz ≤ 1048576) (hb : l.length + n.sz ≤ 4000000) : BG n l = some (sM n l) ∧ No n l = some (sM n l) := by
 obtain ⟨b, h1, h2⟩ := sL n hs l hb
 have e : sM n l = b := by rw [sM, h1]; rfl
 exact ⟨by rw [h1, e], by rw [No, e]; exact h2⟩
end TT
namespace TT
open Go
def PC (n : A0) : Bool := BE n.Kind 0 && (ZV n && sM n [])
theorem ZY (n : A0) (hs : n.sz ≤ 1048576) : CC n = some (PC n) ∧ II n = some (PC n) := by
 obtain ⟨n1, n2⟩ := yc n hs
 obtain ⟨f1, f2⟩ := zo n [] hs (by simp; omega)
 constructor
 ·rw [CC, n1, f1, PC]
  simp only [A5]
  cases BE n.Kind 0 <;> cases ZV n <;> rfl
 ·rw [II, n2, f2, PC]
  simp only [A5]
  cases BE n.Kind 0 <;> cases ZV n <;> rfl
end TT
