import Derived.Test.YtaeegkjcjlnanaaGreatDoorTP2Sign
import Derived.Lib.IndexMore
import Derived.Lib.Fold
import Derived.Test.YtaeegkjcjlnanaaGreatDoorTP0
import Derived.Test.YtaeegkjcjlnanaaGreatDoorTP1
import Derived.Test.YtaeegkjcjlnanaaGreatDoorTHX4
set_option linter.unusedVariables false
set_option linter.unusedSimpArgs false
namespace TT
open Go
theorem kR (s : ByteArray) (i k : Nat) : (s.extract i k).toList = (s.data.toList.drop i).take (k - i) := by
 rw [Lib.toList_data, Lib.extract_data]
theorem QL (s : ByteArray) : s.data.toList.length = s.size := Array.length_toList
theorem tg (s t : ByteArray) (ht : 1 ≤ t.size) (hs : s.size ≤ 4000000) (hts : t.size ≤ 4000000) : ∀ (m i : Nat), i ≤ s.size → s.size - i ≤ m →
  ∃ b, Bj s t i = some b ∧ (b = true ↔ ∃ j, i ≤ j ∧ j ≤ s.size ∧ Lib.occAt s.data.toList t.data.toList j = true) := by
 intro m
 have hz : ∀ i, s.size < i + t.size → ∀ j, i ≤ j → j ≤ s.size → Lib.occAt s.data.toList t.data.toList j = false := fun i hi j h1 h2 => by
  rw [Bool.eq_false_iff]
  intro h
  rcases Lib.occAt_room h with h' | h'
  ·rw [QL, QL] at h'; omega
  ·have := QL t; rw [h'] at this; simp at this; omega
 have hend : ∀ i, i ≤ s.size → s.size < i + t.size → ∃ b, Bj s t i = some b ∧ (b = true ↔ ∃ j, i ≤ j ∧ j ≤ s.size ∧ Lib.occAt s.data.toList t.data.toList j = true) := fun i hi h => by
  refine ⟨false, ?_, ?_⟩
  ·rw [Bj, Af (by simp only [AU]; omega) (by simp only [AU]; omega), Xk (by simp only [AU]; omega)]; rfl
  ·constructor
   ·intro h; cases h
   ·rintro ⟨j, h1, h2, h3⟩
    rw [hz i h j h1 h2] at h3; cases h3
 induction m with
 | zero => intro i h hm; exact hend i h (by omega)
 | succ m ih =>
  intro i h hm
  by_cases hi : i + t.size ≤ s.size
  ·obtain ⟨b, h1, h2⟩ := ih (i + 1) (by omega) (by omega)
   have hsub : Q2 s i ((i : Int) + t.size) = some (s.extract i (i + t.size)) := by
    unfold Q2
    rw [if_pos ⟨by omega, by omega, by omega⟩]
    congr 1
   have hocc : Lib.occAt s.data.toList t.data.toList i = ((s.extract i (i + t.size)).toList == t.toList) := by
    rw [Lib.occAt_iff_take _ _ _ (by rw [QL, QL]; exact hi), kR, QL, Lib.toList_data, show i + t.size - i = t.size by omega]
   have e1 : AY (i : Int) (AU t) = (i : Int) + t.size := Af (by simp only [AU]; omega) (by simp only [AU]; omega)
   rw [Bj, e1, Tp (by simp only [AU]; omega)]
   have he : Cu (s.extract i (i + t.size)) t = Lib.occAt s.data.toList t.data.toList i := by rw [Cu]; exact hocc.symm
   simp only [if_true, hsub, A3, he]
   cases ho : Lib.occAt s.data.toList t.data.toList i with
   | true => exact ⟨true, rfl, fun _ => ⟨i, Nat.le_refl _, by omega, ho⟩, fun _ => rfl⟩
   | false =>
    refine ⟨b, ?_, h2.trans ⟨fun ⟨j, g1, g2, g3⟩ => ⟨j, by omega, g2, g3⟩, fun ⟨j, g1, g2, g3⟩ => ⟨j, ?_, g2, g3⟩⟩⟩
    ·simp only [Bool.false_eq_true, if_false]
     rw [Af (by omega) (by omega)]
     exact h1
    ·by_cases e : j = i
     ·subst e; rw [ho] at g3; cases g3
     ·omega
  ·exact hend i h (by omega)
theorem iK (s t : ByteArray) (ht : 1 ≤ t.size) (hs : s.size ≤ 4000000) (hts : t.size ≤ 4000000) : D3 s t = some (FF s t) ∧ strings_Contains s t = some (FF s t) := by
 refine ⟨?_, by rw [strings_Contains, if_pos (by omega)]⟩
 obtain ⟨b, h1, h2⟩ := tg s t ht hs hts s.size 0 (Nat.zero_le _) (by omega)
 have h1' : Bj s t 0 = some b := h1
 rw [D3, h1']
 congr 1
 rw [Bool.eq_iff_iff, h2, FF, Lib.contains, decide_eq_true_iff]
 rcases Lib.index_spec s.data.toList t.data.toList with ⟨g1, g2⟩ | ⟨i, g1, g2, g3, _⟩
 ·rw [g1]
  constructor
  ·rintro ⟨j, _, a, b⟩
   rw [g2 j (by rw [QL]; exact a)] at b; cases b
  ·intro h; omega
 ·rw [g1]
  exact ⟨fun _ => by omega, fun _ => ⟨i, Nat.zero_le _, by rw [QL] at g2; exact g2, g3⟩⟩
theorem au (x y : UInt8) (h : 97 ≤ y.toNat ∧ y.toNat ≤ 122) : Lib.foldEq x y = (decide (x.toNat = y.toNat) || decide (x.toNat + 32 = y.toNat)) := by
 rw [Bool.eq_iff_iff, Lib.foldEq, Bool.or_eq_true, decide_eq_true_iff, decide_eq_true_iff, decide_eq_true_iff]
 have := x.toNat_lt
 omega
theorem xJ (s : ByteArray) (hs : s.size ≤ 4000000) : Hv s = some (Sx s ⟨#[120, 109, 108]⟩) ∧ strings_EqualFold s ⟨#[120, 109, 108]⟩ = some (Sx s ⟨#[120, 109, 108]⟩) := by
 refine ⟨?_, by rw [strings_EqualFold, if_pos ⟨by omega, by decide⟩]⟩
 rw [Hv]
 by_cases h : s.size = 3
 ·have hl := QL s
  rw [h] at hl
  match hd : s.data.toList, hl with
  | [a, b, c], _ =>
   have g0 : s.get! 0 = a := by
    show s.data[0]! = a
    rw [← Array.getElem!_toList, hd]; rfl
   have g1 : s.get! 1 = b := by
    show s.data[1]! = b
    rw [← Array.getElem!_toList, hd]; rfl
   have g2 : s.get! 2 = c := by
    show s.data[2]! = c
    rw [← Array.getElem!_toList, hd]; rfl
   have e0 : Q1 s 0 = some ((a.toNat : Nat) : Int) := (UX (i := 0) (k := 0) rfl (by omega)).trans (by rw [Qn, g0])
   have e1 : Q1 s 1 = some ((b.toNat : Nat) : Int) := (UX (i := 1) (k := 1) rfl (by omega)).trans (by rw [Qn, g1])
   have e2 : Q1 s 2 = some ((c.toNat : Nat) : Int) := (UX (i := 2) (k := 2) rfl (by omega)).trans (by rw [Qn, g2])
   have hf : Sx s ⟨#[120, 109, 108]⟩ = ((decide (a.toNat = 120) || decide (a.toNat = 88)) && ((decide (b.toNat = 109) || decide (b.toNat = 77)) && (decide (c.toNat = 108) || decide (c.toNat = 76)))) := by
    rw [Sx, hd]
    show (Lib.foldEq a 120 && (Lib.foldEq b 109 && (Lib.foldEq c 108 && true))) = _
    rw [au a 120 (by decide), au b 109 (by decide), au c 108 (by decide), Bool.and_true]
    congr 1
    ·congr 1; rw [decide_eq_decide]; show a.toNat + 32 = 120 ↔ _; omega
    ·congr 1
     ·congr 1; rw [decide_eq_decide]; show b.toNat + 32 = 109 ↔ _; omega
     ·congr 1; rw [decide_eq_decide]; show c.toNat + 32 = 108 ↔ _; omega
   have ei : ∀ (x k : Nat), Al (x : Int) (k : Int) = decide (x = k) := fun x k => by
    rw [Al, Bool.eq_iff_iff, beq_iff_eq, decide_eq_true_iff]; omega
   have q1 := ei a.toNat 120; have q2 := ei a.toNat 88; have q3 := ei b.toNat 109; have q4 := ei b.toNat 77; have q5 := ei c.toNat 108; have q6 := ei c.toNat 76
   rw [ml, G9 (by simp only [AU]; omega)]
   simp only [Bool.not_true, Bool.false_eq_true, if_false, e0, e1, e2, A3, hf]
   simp only [Int.cast_ofNat_Int] at q1 q2 q3 q4 q5 q6
   rw [q1, q2, q3, q4, q5, q6]
   cases decide (a.toNat = 120) <;> cases decide (a.toNat = 88) <;> cases decide (b.toNat = 109) <;> cases decide (b.toNat = 77) <;> cases decide (c.toNat = 108) <;> cases decide (c.toNat = 76) <;> rfl
 ·rw [ml, DJ (by simp only [AU]; omega)]
  simp only [Bool.not_false, if_true]
  congr 1
  symm
  rw [Sx, Bool.eq_false_iff]
  intro hh
  have hlen : ∀ (x y : List UInt8), Lib.equalFold x y = true → x.length = y.length := by
   intro x
   induction x with
   | nil => intro y h; cases y with
    | nil => rfl
    | cons _ _ => cases h
   | cons a x ih => intro y h; cases y with
    | nil => cases h
    | cons b y =>
     rw [Lib.equalFold, Bool.and_eq_true] at h
     simp [ih y h.2]
  have := hlen _ _ hh
  rw [QL] at this
  exact h this
theorem av : ∀ (a b : List UInt8), ((Lib.compareBytes a b < 0) ↔ Op.bytesLess a b = true) ∧ (Lib.compareBytes a b = 0 ↔ a = b)
 | [], [] => by simp [Lib.compareBytes, Op.bytesLess]
 | [], _ :: _ => by simp [Lib.compareBytes, Op.bytesLess]
 | _ :: _, [] => by simp [Lib.compareBytes, Op.bytesLess]
 | x :: a, y :: b => by
  obtain ⟨h1, h2⟩ := av a b
  unfold Lib.compareBytes Op.bytesLess
  by_cases hxy : x < y
  ·rw [if_pos hxy]
   refine ⟨by simp [hxy], ?_⟩
   constructor
   ·intro h; cases h
   ·intro h; injection h with e; subst e; exact absurd hxy (UInt8.lt_irrefl x)
  ·rw [if_neg hxy]
   by_cases hyx : y < x
   ·rw [if_pos hyx]
    have hne : x ≠ y := fun e => by subst e; exact UInt8.lt_irrefl x hyx
    refine ⟨by simp [hxy, hne], ?_⟩
    constructor
    ·intro h; cases h
    ·intro h; injection h with e; exact absurd e hne
   ·rw [if_neg hyx]
    have e : x = y := UInt8.le_antisymm (UInt8.not_lt.1 hyx) (UInt8.not_lt.1 hxy)
    subst e
    refine ⟨by rw [h1]; simp [UInt8.lt_irrefl], by rw [h2]; simp⟩
theorem tj (s t : ByteArray) : Jw (Lh s t) 0 = ltS s t := by
 rw [Jw, Lh, ltS, Bool.eq_iff_iff, decide_eq_true_iff, (av _ _).1, Lib.toList_data, Lib.toList_data]
theorem tk (s t : ByteArray) : Al (Lh s t) 0 = Cu s t := by
 rw [Al, Lh, Cu, Bool.eq_iff_iff, beq_iff_eq, (av _ _).2, beq_iff_eq, Lib.toList_data, Lib.toList_data]
end TT
namespace TT
open Go
def Pq (s : ByteArray) : Bool := (BN s).getD false
theorem UY (s : ByteArray) (hs : s.size ≤ 4000000) : BN s = some (Pq s) ∧ Dh s = some (Pq s) := by
 obtain ⟨b, h1, h2⟩ := tf s hs
 have e : Pq s = b := by rw [Pq, h1]; rfl
 exact ⟨by rw [h1, e], by rw [h2, e]⟩
theorem OS (x y : ByteArray) : neS x y = !Cu x y := Bool.eq_iff_iff.2 Iff.rfl
theorem Fm (x y : Int) : SZ x y = !Al x y := Bool.eq_iff_iff.2 Iff.rfl
theorem xK (x y : Bool) : neB x y = !eqB x y := Bool.eq_iff_iff.2 Iff.rfl
theorem xL (x y : Int) : geI x y = !Jw x y := by
 rw [geI, Jw, Bool.eq_iff_iff]; simp
theorem xM (x y : Int) : NN x y = !SR x y := by
 rw [NN, SR, Bool.eq_iff_iff]; simp
theorem nj (s : ByteArray) (hs : s.size ≤ 4000000) : ∃ b, GR s = some b ∧ EZ s ⟨#[120, 109, 108]⟩ = some b := by
 have e3 : AU (⟨#[120, 109, 108]⟩ : ByteArray) = 3 := rfl
 rw [GR, EZ, Bu, e3]
 by_cases h : 3 ≤ s.size
 ·have e : Q2 s 0 3 = some (s.extract 0 3) := by
   unfold Q2
   rw [if_pos ⟨by omega, by omega, by omega⟩]; rfl
  rw [Qc (by simp only [AU]; omega)]
  simp only [if_true, e, A3]
  exact ⟨_, rfl, rfl⟩
 ·rw [Pf (by simp only [AU]; omega)]
  exact ⟨false, rfl, rfl⟩
def YX (s : ByteArray) : Bool := (Dz s).getD false
theorem eo (s : ByteArray) (hs : s.size ≤ 4000000) : Dz s = some (YX s) ∧ GX s = some (YX s) := by
 obtain ⟨b, h1, h2⟩ := nj s hs
 obtain ⟨p1, p2, _⟩ := Ka s hs
 have h : ∃ c, Dz s = some c ∧ GX s = some c := by
  rw [Dz, GX, p1, p2, h1, h2]
  simp only [A3]
  cases Cu s ⟨#[]⟩ <;> cases I5 s <;> exact ⟨_, rfl, rfl⟩
 obtain ⟨c, h3, h4⟩ := h
 have e : YX s = c := by rw [YX, h3]; rfl
 exact ⟨by rw [h3, e], by rw [h4, e]⟩
def iL (u p : ByteArray) : Bool := Pq u && (SR (AU u) 40 && (!Cu u ⟨#[]⟩ || Cu p ⟨#[]⟩))
theorem aw (u p : ByteArray) (hu : u.size ≤ 4000000) : Hy u p = some (iL u p) := by
 rw [Hy, (UY u hu).2, iL]
 simp only [A3, OS]
 cases Pq u <;> cases SR (AU u) 40 <;> cases Cu u ⟨#[]⟩ <;> rfl
def kS (d : A1) : Bool := YX d.Pre && iL d.Uri d.Pre
theorem pi (d : A1) (hs : d.sz ≤ 4000000) : Ln d = some (kS d) := by
 rw [A1.sz_eq] at hs
 rw [Ln, (eo d.Pre (by omega)).2, aw _ _ (by omega), kS]
 simp only [A3]
 cases YX d.Pre <;> rfl
theorem pj (d : A1) (hs : d.sz ≤ 4000000) : GT d = some (kS d) := by
 rw [A1.sz_eq] at hs
 obtain ⟨b, h1, h2⟩ := nj d.Pre (by omega)
 obtain ⟨p1, p2, _⟩ := Ka d.Pre (by omega)
 have e : YX d.Pre = (Cu d.Pre ⟨#[]⟩ || (I5 d.Pre && !b)) := by
  have := (eo d.Pre (by omega)).1
  rw [Dz, p1, h1] at this
  simp only [A3] at this
  revert this
  cases Cu d.Pre ⟨#[]⟩ <;> cases I5 d.Pre <;> intro this <;> simp_all
 rw [GT, E0, p1, h1, (UY d.Uri (by omega)).1, kS, e, iL]
 simp only [A3, OS]
 cases Cu d.Pre ⟨#[]⟩ <;> cases I5 d.Pre <;> cases b <;> cases Cu d.Uri ⟨#[]⟩ <;> cases Pq d.Uri <;> cases SR (AU d.Uri) 40 <;> rfl
theorem Z1 {α : Type} {l pre rest : List α} {x y : α} (h : (pre ++ [y]) ++ x :: rest = l) (hl : l.length ≤ 4000000) : NN ((pre ++ [y]).length : Int) 0 = true ∧ getI l (BE ((pre ++ [y]).length : Int) 1) = some y := by
 have hlen : (pre ++ [y]).length = pre.length + 1 := by simp
 have hb : pre.length + 1 ≤ l.length := by rw [← h]; simp
 refine ⟨Lp (by rw [hlen]; omega), ?_⟩
 have e : BE ((pre ++ [y]).length : Int) 1 = (pre.length : Int) := by
  rw [Bw (by omega) (by omega), hlen]; omega
 rw [e]
 exact Bb (rest := x :: rest) (by rw [← h]; simp)
theorem Z2 {α : Type} (pre : List α) : pre = [] ∨ ∃ p y, pre = p ++ [y] := by
 rcases List.eq_nil_or_concat pre with h | ⟨p, y, h⟩
 ·exact .inl h
 ·exact .inr ⟨p, y, by rw [h, List.concat_eq_append]⟩
theorem ax (l : List A1) (hl : l.length ≤ 4000000) (hs : ∀ d ∈ l, d.sz ≤ 4000000) : ∀ (rest pre : List A1), pre ++ rest = l → ∃ b, BH l pre.length = some b ∧ Cn l pre.length = some b
 | [], pre, hp => ⟨_, by rw [BH, FU hp]; rfl, by rw [Cn, FU hp]; rfl⟩
 | x :: rest, pre, hp => by
  have hx : x.sz ≤ 4000000 := hs x (by rw [← hp]; simp)
  obtain ⟨b, h1, h2⟩ := ax l hl hs rest (pre ++ [x]) (Ej hp)
  rw [BH, Cn, EC hp, Bb hp, Cw hp (by rw [B9]; omega)]
  simp only [if_true, A3, pj x hx, pi x hx]
  cases kS x with
  | false => exact ⟨false, rfl, rfl⟩
  | true =>
   simp only [if_true]
   rcases Z2 pre with rfl | ⟨p, y, rfl⟩
   ·have e : NN ((([] : List A1).length : Nat) : Int) 0 = false := rfl
    rw [e]
    exact ⟨b, h1, h2⟩
   ·obtain ⟨e1, e2⟩ := Z1 hp hl
    rw [e1, e2]
    simp only [if_true, A3]
    cases geS y.Pre x.Pre with
    | true => exact ⟨false, rfl, rfl⟩
    | false => exact ⟨b, h1, h2⟩
def S8 (l : List A1) : Bool := (DW l).getD false
theorem xO (l : List A1) (hl : l.length ≤ 4000000) (hs : ∀ d ∈ l, d.sz ≤ 4000000) : DW l = some (S8 l) ∧ NC l = some (S8 l) := by
 obtain ⟨b, h1, h2⟩ := ax l hl hs l [] rfl
 have h1' : DW l = some b := h1
 have e : S8 l = b := by rw [S8, h1']; rfl
 exact ⟨by rw [h1', e], by rw [e]; exact h2⟩
def kT (a : A4) : Bool := (GY a).getD false
theorem tl (a : A4) (hs : a.sz ≤ 4000000) : Df a = some (kT a) ∧ GY a = some (kT a) := by
 rw [A4.sz_eq] at hs
 have h : ∃ c, Df a = some c ∧ GY a = some c := by
  rw [Df, D4, GY, (eo a.Pre (by omega)).1, (eo a.Pre (by omega)).2, aw _ _ (by omega), (Ka a.Local (by omega)).1, (Ka a.Local (by omega)).2.1, (UY a.Val (by omega)).1, (UY a.Val (by omega)).2, (UY a.Uri (by omega)).1, iL]
  simp only [A3, OS, xK]
  cases YX a.Pre <;> cases Cu a.Pre ⟨#[]⟩ <;> cases Cu a.Uri ⟨#[]⟩ <;> cases I5 a.Local <;> cases Cu a.Local ⟨#[120, 109, 108, 110, 115]⟩ <;> cases Pq a.Val <;> cases Pq a.Uri <;> cases SR (AU a.Uri) 40 <;> exact ⟨_, rfl, rfl⟩
 obtain ⟨c, h3, h4⟩ := h
 have e : kT a = c := by rw [kT, h4]; rfl
 exact ⟨by rw [h3, e], by rw [h4, e]⟩
theorem tn (a b : A4) : ∃ c, Ea a b = some c ∧ FY a b = some (!geI c 0) := by
 rw [Ea, strings_Compare, strings_Compare, FY]
 simp only [A3, Fm, tk, xL, Bool.not_not]
 have h1 := tj a.Uri b.Uri
 have h2 := tk a.Uri b.Uri
 cases he : Cu a.Uri b.Uri with
 | false =>
  refine ⟨_, rfl, ?_⟩
  rw [h1]
  cases ltS a.Uri b.Uri <;> rfl
 | true =>
  refine ⟨_, rfl, ?_⟩
  rw [tj]
  have : ltS a.Uri b.Uri = false := by
   rw [← h1, Fd]
   rw [he] at h2
   have := LX.1 h2
   omega
  rw [this]
  rfl
theorem ay (n : A0) (hl : n.Attrs.length ≤ 4000000) (hs : ∀ d ∈ n.Attrs, d.sz ≤ 4000000) : ∀ (rest pre : List A4), pre ++ rest = n.Attrs → ∃ b, B6 pre.length n = some b ∧ Co n.Attrs pre.length = some (b && SR (A8 n.Attrs) 5)
 | [], pre, hp => ⟨true, by rw [B6, FU hp]; rfl, by rw [Co, FU hp]; rfl⟩
 | x :: rest, pre, hp => by
  have hx : x.sz ≤ 4000000 := hs x (by rw [← hp]; simp)
  obtain ⟨b, h1, h2⟩ := ay n hl hs rest (pre ++ [x]) (Ej hp)
  rw [B6, Co, EC hp, Bb hp, Cw hp (by rw [B9]; omega)]
  simp only [if_true, A3, (tl x hx).1, (tl x hx).2]
  cases kT x with
  | false => exact ⟨false, rfl, rfl⟩
  | true =>
   simp only [if_true]
   rcases Z2 pre with rfl | ⟨p, y, rfl⟩
   ·have e : NN ((([] : List A4).length : Nat) : Int) 0 = false := rfl
    rw [e]
    exact ⟨b, h1, h2⟩
   ·obtain ⟨e1, e2⟩ := Z1 hp hl
    obtain ⟨c, e3, e4⟩ := tn y x
    rw [e1, e2]
    simp only [if_true, A3, e3, e4]
    cases geI c 0 with
    | true => exact ⟨false, rfl, rfl⟩
    | false => exact ⟨b, h1, h2⟩
theorem pk (n : A0) (hl : n.Attrs.length ≤ 4000000) (hs : ∀ d ∈ n.Attrs, d.sz ≤ 4000000) : ∃ b, Dg n = some b ∧ Ji n.Attrs = some (b && SR (A8 n.Attrs) 5) := by
 obtain ⟨b, h1, h2⟩ := ay n hl hs n.Attrs [] rfl
 exact ⟨b, by rw [Dg]; exact h1, by rw [Ji]; exact h2⟩
end TT
namespace TT
open Go
theorem A01 {α : Type} (l : List α) : NN (A8 l) 0 = !Al (A8 l) 0 := by
 cases l with
 | nil => rfl
 | cons x l => rw [Lp (by simp only [A8, List.length_cons]; omega), DJ (by simp only [A8, List.length_cons]; omega)]; rfl
theorem mz (s : ByteArray) (hs : s.size ≤ 4000000) : ∃ b, EX s ⟨#[45]⟩ = some b ∧ (if (Cu s ⟨#[]⟩) then some true else Q1 s (BE (AU s) 1) >>= fun x4 => some (SZ x4 45)) = some (!b) := by
 have e1 : AU (⟨#[45]⟩ : ByteArray) = 1 := rfl
 rw [EX, Bt, e1]
 by_cases h : 1 ≤ s.size
 ·have e0 : Cu s ⟨#[]⟩ = false := by
   cases he : Cu s ⟨#[]⟩ with
   | false => rfl
   | true => rw [SW.1 he] at h; exact absurd h (by decide)
  have e2 : BE (AU s) 1 = ((s.size - 1 : Nat) : Int) := by rw [Bw (by simp only [AU]; omega) (by simp only [AU]; omega)]; simp only [AU]; omega
  have e3 : Q2 s ((s.size - 1 : Nat) : Int) (AU s) = some (s.extract (s.size - 1) s.size) := by
   show Q2 s ((s.size - 1 : Nat) : Int) ((s.size : Nat) : Int) = _
   unfold Q2
   rw [if_pos ⟨by omega, by omega, by omega⟩]
   congr 1
  have hd : s.data.toList.drop (s.size - 1) = [s.data.toList[s.size - 1]'(by rw [QL]; omega)] := by
   rw [List.drop_eq_getElem_cons (by rw [QL]; omega)]
   congr 1
   exact List.drop_eq_nil_of_le (by rw [QL]; omega)
  have e4 : (s.extract (s.size - 1) s.size).toList = [s.data.toList[s.size - 1]'(by rw [QL]; omega)] := by
   rw [kR, hd]
   have : s.size - (s.size - 1) = 1 := by omega
   rw [this]; rfl
  have e5 : Qn s (s.size - 1) = (s.data.toList[s.size - 1]'(by rw [QL]; omega)).toNat := by
   show (s.data[s.size - 1]!).toNat = _
   rw [← Array.getElem!_toList, getElem!_pos s.data.toList (s.size - 1) (by rw [QL]; omega)]
  rw [Qc (by simp only [AU]; omega), e0, e2]
  simp only [if_true, e3, A3, Bool.false_eq_true, if_false, UX (i := ((s.size - 1 : Nat) : Int)) rfl (show s.size - 1 < s.size by omega), Fm]
  refine ⟨_, rfl, ?_⟩
  congr 2
  rw [e5, Cu, e4, Bool.eq_iff_iff, LX, beq_iff_eq, show (⟨#[45]⟩ : ByteArray).toList = [45] from by rw [Lib.toList_data]]
  constructor
  ·intro hh
   have : s.data.toList[s.size - 1]'(by rw [QL]; omega) = 45 := UInt8.toNat_inj.1 (by have : ((45 : UInt8).toNat : Int) = 45 := rfl; omega)
   rw [this]
  ·intro hh
   have := (List.cons.inj hh).1
   rw [this]; rfl
 ·have hz : s.size = 0 := by omega
  have e0 : Cu s ⟨#[]⟩ = true := SW.2 (by
   apply toList_inj
   rw [Lib.toList_data, Lib.toList_data]
   have := QL s
   rw [hz] at this
   rw [List.eq_nil_of_length_eq_zero this])
  rw [Pf (by simp only [AU]; omega), e0]
  exact ⟨false, rfl, rfl⟩
theorem pl (n : Int) : ∃ b, ET n = some b ∧ Gw n = some b := by
 rw [ET, Gw]
 cases Al n 9 <;> cases Al n 10 <;> cases Al n 13 <;> exact ⟨_, rfl, rfl⟩
theorem pm (s : ByteArray) (hs : s.size ≤ 4000000) : ∃ b, (if (Cu s ⟨#[]⟩) then some true else Q1 s 0 >>= fun x5 => ET (wr .i64 x5) >>= fun r22 => some (!r22)) = some b ∧ (if (Cu s ⟨#[]⟩) then some true else Q1 s 0 >>= fun x => Gw (wr .i64 x) >>= fun r5 => some (!r5)) = some b := by
 cases he : Cu s ⟨#[]⟩ with
 | true => exact ⟨true, rfl, rfl⟩
 | false =>
  have hz : 0 < s.size := by
   rcases Nat.eq_zero_or_pos s.size with h | h
   ·have : s = ⟨#[]⟩ := by
     apply toList_inj
     rw [Lib.toList_data, Lib.toList_data]
     have := QL s
     rw [h] at this
     rw [List.eq_nil_of_length_eq_zero this]
    rw [this] at he
    rw [Ju] at he
    cases he
   ·exact h
  obtain ⟨b, h1, h2⟩ := pl (wr .i64 ((Qn s 0 : Nat) : Int))
  have e : Q1 s 0 = some ((Qn s 0 : Nat) : Int) := UX (i := 0) (k := 0) rfl hz
  simp only [Bool.false_eq_true, if_false, e, A3, h1, h2]
  exact ⟨_, rfl, rfl⟩
def OT (n : A0) : Bool := (Di n).getD false
theorem n7 (n : A0) (hs : n.sz ≤ 4000000) (hk : Al n.Kind 1 = false) : By n = some (OT n) ∧ Di n = some (OT n) := by
 rw [A0.sz_eq] at hs
 have h : ∃ c, By n = some c ∧ Di n = some c := by
  obtain ⟨b1, s1, s2⟩ := mz n.Text (by omega)
  obtain ⟨b2, f1, f2⟩ := pm n.Text (by omega)
  have c1 := iK n.Text ⟨#[45, 45]⟩ (by decide) (by omega) (by decide)
  have c2 := iK n.Text ⟨#[13]⟩ (by decide) (by omega) (by decide)
  have c3 := iK n.Text ⟨#[63, 62]⟩ (by decide) (by omega) (by decide)
  have x1 := xJ n.Local (by omega)
  have p1 := Ka n.Local (by omega)
  have t1 := UY n.Text (by omega)
  rw [By, Di, E7, OL, OM, De, hk, s1, s2, f1, f2, c1.1, c1.2, c2.1, c2.2, c3.1, c3.2, x1.1, x1.2, p1.1, p1.2.1, t1.1, t1.2]
  simp only [A3, OS, Fm, A01, Bool.false_eq_true, if_false]
  have k23 : Al n.Kind 2 = true → Al n.Kind 3 = false ∧ Al n.Kind 4 = false := fun h => by
   have := LX.1 h; exact ⟨DJ (by omega), DJ (by omega)⟩
  have k34 : Al n.Kind 3 = true → Al n.Kind 4 = false := fun h => by
   have := LX.1 h; exact DJ (by omega)
  cases Cu n.Pre ⟨#[]⟩ <;> cases Cu n.Uri ⟨#[]⟩ <;> cases Al (A8 n.Decls) 0 <;> cases Al (A8 n.Attrs) 0 <;> cases Al (A8 n.Kids) 0
  all_goals try (cases h2 : Al n.Kind 2 <;> cases h3 : Al n.Kind 3 <;> cases h4 : Al n.Kind 4 <;> exact ⟨false, rfl, rfl⟩)
  cases h2 : Al n.Kind 2 with
  | true =>
   obtain ⟨h3, h4⟩ := k23 h2
   rw [h4]
   cases Cu n.Local ⟨#[]⟩ <;> cases Cu n.Text ⟨#[]⟩ <;> cases Pq n.Text <;> exact ⟨_, rfl, rfl⟩
  | false =>
   cases h3 : Al n.Kind 3 with
   | true =>
    rw [k34 h3]
    cases Cu n.Local ⟨#[]⟩ <;> cases Pq n.Text <;> cases FF n.Text ⟨#[45, 45]⟩ <;> cases FF n.Text ⟨#[13]⟩ <;> cases b1 <;> exact ⟨_, rfl, rfl⟩
   | false =>
    cases h4 : Al n.Kind 4 with
    | true => cases Cu n.Local ⟨#[]⟩ <;> cases I5 n.Local <;> cases Sx n.Local ⟨#[120, 109, 108]⟩ <;> cases Pq n.Text <;> cases FF n.Text ⟨#[63, 62]⟩ <;> cases FF n.Text ⟨#[13]⟩ <;> exact ⟨_, rfl, rfl⟩
    | false => cases Cu n.Local ⟨#[]⟩ <;> exact ⟨_, rfl, rfl⟩
 obtain ⟨c, h3, h4⟩ := h
 have e : OT n = c := by rw [OT, h4]; rfl
 exact ⟨by rw [h3, e], by rw [h4, e]⟩
end TT
namespace TT
open Go
def elB (n : A0) : Bool := (By n).getD false
theorem A02 (n : A0) (hs : n.sz ≤ 4000000) (hk : Al n.Kind 1 = true) : By n = some (elB n) ∧ ∀ (d : Int) (b : Bool), geI d 7 = false → Dj n (AY d 1) = some b → AW n d = some (elB n && b) := by
 have hsz := hs
 rw [A0.sz_eq] at hs
 obtain ⟨ab, a1, a2⟩ := pk n (by omega) (fun x hx => by have := CB A4.sz hx; omega)
 obtain ⟨d1, d2⟩ := xO n.Decls (by omega) (fun x hx => by have := CB A1.sz hx; omega)
 have e1 : By n = some (YX n.Pre && (I5 n.Local && (Cu n.Text ⟨#[]⟩ && (iL n.Uri n.Pre && (S8 n.Decls && (ab && SR (A8 n.Attrs) 5)))))) := by
  rw [By, hk, (eo n.Pre (by omega)).1, (Ka n.Local (by omega)).1, (UY n.Uri (by omega)).1, d1, a1, iL]
  simp only [A3, OS, if_true, xM]
  cases YX n.Pre <;> cases I5 n.Local <;> cases Cu n.Text ⟨#[]⟩ <;> cases Cu n.Pre ⟨#[]⟩ <;> cases Cu n.Uri ⟨#[]⟩ <;> cases Pq n.Uri <;> cases SR (AU n.Uri) 40 <;> cases S8 n.Decls <;> cases SR (A8 n.Attrs) 5 <;> cases ab <;> rfl
 have e2 : elB n = (YX n.Pre && (I5 n.Local && (Cu n.Text ⟨#[]⟩ && (iL n.Uri n.Pre && (S8 n.Decls && (ab && SR (A8 n.Attrs) 5)))))) := by rw [elB, e1]; rfl
 refine ⟨by rw [e1, e2], fun d b hd hb => ?_⟩
 rw [AW, Fm, hk, hd, (eo n.Pre (by omega)).2, aw _ _ (by omega), (Ka n.Local (by omega)).2.1, d2, a2, hb, e2]
 simp only [A3, OS, Bool.not_true, Bool.false_eq_true, if_false]
 cases YX n.Pre <;> cases I5 n.Local <;> cases Cu n.Text ⟨#[]⟩ <;> cases iL n.Uri n.Pre <;> cases S8 n.Decls <;> cases SR (A8 n.Attrs) 5 <;> cases ab <;> rfl
def kU (x : A0) (deep : Int) : Option Bool := By x >>= fun r2 => if r2 then (if Al x.Kind 1 then (if Al deep 7 then some false else Ab x.Kids (AY deep 1)) else some true) else some false
def isT (x : A0) : Bool := Al x.Kind 2
def nk (pre : List A0) : Bool := match pre.getLast? with
 | some y => isT y
 | none => false
def S9 : Bool → List A0 → Bool
 | _, [] => true
 | p, x :: xs => !(p && isT x) && S9 (isT x) xs
theorem SX (pre : List A0) (x : A0) : nk (pre ++ [x]) = isT x := by simp [nk]
def pB (d : Int) (k : A0) : Bool := (AW k d).getD false
theorem X5 (l : List A0) (hl : l.length ≤ 4000000) (d : Int) (hk : ∀ k ∈ l, kU k d = some (pB d k)) : ∀ (rest pre : List A0), pre ++ rest = l → Ah l d pre.length = some (S9 (nk pre) rest && rest.all (pB d))
 | [], pre, hp => by rw [Ah, FU hp]; rfl
 | x :: rest, pre, hp => by
  have ih := X5 l hl d hk rest (pre ++ [x]) (Ej hp)
  have hx := hk x (by rw [← hp]; simp)
  rw [SX] at ih
  rw [kU] at hx
  obtain ⟨r2, h2, hx⟩ := Option.bind_eq_some_iff.1 hx
  have hj : r2 = true → Aw l d pre.length x = some (pB d x && (S9 (isT x) rest && rest.all (pB d))) := fun hr => by
   rw [hr] at hx
   rw [Aw, Cw hp (by rw [B9]; omega), ih]
   simp only [if_true] at hx
   revert hx
   cases Al x.Kind 1 with
   | false =>
    simp only [Bool.false_eq_true, if_false]
    intro hx
    rw [← Option.some.inj hx]; rfl
   | true =>
    simp only [if_true]
    cases Al d 7 with
    | true => simp only [if_true]; intro hx; rw [← Option.some.inj hx]; rfl
    | false =>
     simp only [Bool.false_eq_true, if_false]
     intro hx
     rw [hx]
     simp only [A3]
     cases pB d x <;> rfl
  rw [Ah, EC hp, Bb hp]
  simp only [if_true, A3, h2]
  cases r2 with
  | false =>
   simp only [Bool.false_eq_true, if_false] at hx ⊢
   have : pB d x = false := (Option.some.inj hx).symm
   simp only [List.all_cons, this, Bool.false_and, Bool.and_false]
  | true =>
   rw [hj rfl]
   simp only [if_true, S9, List.all_cons]
   show (if isT x = true then _ else _) = _
   cases hx2 : isT x with
   | false => simp only [Bool.false_eq_true, if_false, Bool.and_false, Bool.not_false, Bool.true_and]; cases pB d x <;> simp
   | true =>
    simp only [if_true, Bool.and_true]
    rcases Z2 pre with rfl | ⟨p, y, rfl⟩
    ·have e : NN ((([] : List A0).length : Nat) : Int) 0 = false := rfl
     rw [e]
     simp only [Bool.false_eq_true, if_false]
     show _ = some ((!(false) && S9 true rest) && _)
     cases pB d x <;> simp
    ·obtain ⟨e1, e2⟩ := Z1 hp hl
     rw [e1, e2, SX]
     simp only [if_true, A3]
     show (if isT y = true then _ else _) = _
     cases isT y with
     | true => simp
     | false => simp only [Bool.false_eq_true, if_false]; cases pB d x <;> simp
theorem kV (l : List A0) (hl : l.length ≤ 4000000) : ∀ (rest pre : List A0), pre ++ rest = l → BC l pre.length = some (S9 (nk pre) rest)
 | [], pre, hp => by rw [BC, FU hp]; rfl
 | x :: rest, pre, hp => by
  have ih := kV l hl rest (pre ++ [x]) (Ej hp)
  rw [SX] at ih
  rw [BC, EC hp, Bb hp, Cw hp (by rw [B9]; omega), ih]
  simp only [if_true, A3, S9]
  rcases Z2 pre with rfl | ⟨p, y, rfl⟩
  ·have e : NN ((([] : List A0).length : Nat) : Int) 0 = false := rfl
   rw [e]; rfl
  ·obtain ⟨e1, e2⟩ := Z1 hp hl
   rw [e1, e2, SX]
   simp only [if_true, A3]
   show (if isT x = true then (if isT y = true then _ else _) else _) = _
   cases isT x <;> cases isT y <;> rfl
theorem kW (l : List A0) (hl : l.length ≤ 4000000) (d : Int) (hk : ∀ k ∈ l, AW k d = some (pB d k)) : ∀ (rest pre : List A0), pre ++ rest = l → ∃ r, AT l pre.length d = some (r, d) ∧ geI r 0 = !rest.all (pB d)
 | [], pre, hp => ⟨-1, by rw [AT, FU hp]; rfl, rfl⟩
 | x :: rest, pre, hp => by
  obtain ⟨r, h1, h2⟩ := kW l hl d hk rest (pre ++ [x]) (Ej hp)
  rw [AT, EC hp, Bb hp, Cw hp (by rw [B9]; omega)]
  simp only [if_true, A3, List.all_cons, LR, hk x (by rw [← hp]; simp)]
  cases pB d x with
  | true => exact ⟨r, h1, by rw [h2]; rfl⟩
  | false => exact ⟨pre.length, rfl, by rw [Qc (by omega)]; rfl⟩
def IL (d : Int) (l : List A0) : Bool := S9 false l && l.all (pB d)
theorem eq (n : A0) (hl : n.Kids.length ≤ 4000000) (d : Int) (hk : ∀ k ∈ n.Kids, AW k d = some (pB d k)) : Dj n d = some (IL d n.Kids) := by
 have h1 : Fs n.Kids = some (S9 false n.Kids) := by rw [Fs]; exact kV n.Kids hl n.Kids [] rfl
 obtain ⟨r, h2, h3⟩ := kW n.Kids hl d hk n.Kids [] rfl
 have h2' : AT n.Kids 0 d = some (r, d) := h2
 rw [Dj, h1, BK, Bv, h2']
 simp only [A3, h3, Bool.not_not, IL]
 cases S9 false n.Kids <;> rfl
theorem az : ∀ n : A0, n.sz ≤ 1048576 → ∀ d : Nat, d ≤ 7 → AW n d = some (pB d n) ∧ kU n d = some (pB d n) := by
 refine A0.ind' fun n ih hs d hd => ?_
 have h : ∃ b, AW n d = some b ∧ kU n d = some b := by
  have hsz := hs
  rw [A0.sz_eq] at hs
  cases hk : Al n.Kind 1 with
  | false =>
   obtain ⟨l1, l2⟩ := n7 n (by omega) hk
   refine ⟨OT n, ?_, ?_⟩
   ·rw [AW, Fm, hk, l2]; rfl
   ·rw [kU, l1, hk]
    cases OT n <;> rfl
  | true =>
   obtain ⟨e1, e2⟩ := A02 n (by omega) hk
   by_cases h7 : d = 7
   ·subst h7
    refine ⟨false, ?_, ?_⟩
    ·rw [AW, Fm, hk]; rfl
    ·rw [kU, e1, hk]
     have : Al ((7 : Nat) : Int) 7 = true := rfl
     rw [this]
     cases elB n <;> rfl
   ·have hadd : AY (d : Int) 1 = ((d + 1 : Nat) : Int) := by rw [Af (by omega) (by omega)]; omega
    have hkid : ∀ k ∈ n.Kids, AW k ((d + 1 : Nat) : Int) = some (pB ((d + 1 : Nat) : Int) k) ∧ kU k ((d + 1 : Nat) : Int) = some (pB ((d + 1 : Nat) : Int) k) := fun k hk => ih k hk (by have := CB A0.sz hk; omega) (d + 1) (by omega)
    have k1 := eq n (by omega) _ fun k hk => (hkid k hk).1
    have k2 : Ab n.Kids ((d + 1 : Nat) : Int) = some (IL ((d + 1 : Nat) : Int) n.Kids) := by
     rw [Ab]
     exact X5 n.Kids (by omega) _ (fun k hk => (hkid k hk).2) n.Kids [] rfl
    refine ⟨elB n && IL ((d + 1 : Nat) : Int) n.Kids, e2 d _ (Pf (by omega)) (by rw [hadd]; exact k1), ?_⟩
    rw [kU, e1, hk, DJ (show (d : Int) ≠ 7 by omega), hadd, k2]
    cases elB n <;> rfl
 obtain ⟨b, h1, h2⟩ := h
 have e : pB d n = b := by rw [pB, h1]; rfl
 exact ⟨by rw [h1, e], by rw [h2, e]⟩
theorem kX (l : List A0) (hl : l.length ≤ 4000000) (hs : ∀ k ∈ l, k.sz ≤ 1048576) (d : Nat) (hd : d ≤ 7) : Ab l d = some (IL d l) := by
 rw [Ab]
 exact X5 l hl _ (fun k hk => (az k (hs k hk) d hd).2) l [] rfl
theorem X6 (n : A0) (hs : n.sz ≤ 1048576) (d : Nat) (hd : d ≤ 7) : Dj n d = some (IL d n.Kids) := by
 rw [A0.sz_eq] at hs
 exact eq n (by omega) _ fun k hk => (az k (by have := CB A0.sz hk; omega) d hd).1
theorem kY (n : A0) (hl : n.Kids.length ≤ 4000000) (hk : ∀ k ∈ n.Kids, ∃ c : Nat, C7 k = some (c : Int) ∧ DB k = some (c : Int) ∧ c ≤ 1 + k.sz) : ∀ (rest pre : List A0) (a : Nat), pre ++ rest = n.Kids → a + rest.length + szs A0.sz rest ≤ 100000000 → ∃ c : Nat, BF a pre.length n = some (c : Int) ∧ C9 a n pre.length = some (c : Int) ∧ c ≤ a + rest.length + szs A0.sz rest
 | [], pre, a, hp, hb => ⟨a, by rw [BF, FU hp]; rfl, by rw [C9, FU hp]; rfl, by omega⟩
 | x :: rest, pre, a, hp, hb => by
  obtain ⟨c, h1, h2, h3⟩ := hk x (by rw [← hp]; simp)
  rw [CY, List.length_cons] at hb
  obtain ⟨q, g1, g2, g3⟩ := kY n hl hk rest (pre ++ [x]) (a + c) (Ej hp) (by omega)
  have e : AY (a : Int) (c : Int) = ((a + c : Nat) : Int) := by rw [Af (by omega) (by omega)]; omega
  refine ⟨q, ?_, ?_, by rw [CY, List.length_cons]; omega⟩
  ·rw [BF, EC hp, Bb hp, Cw hp (by rw [B9]; omega)]
   simp only [if_true, A3, h1, e]
   exact g1
  ·rw [C9, EC hp, Bb hp, Cw hp (by rw [B9]; omega)]
   simp only [if_true, A3, h2, e]
   exact g2
theorem iM : ∀ n : A0, n.sz ≤ 1048576 → ∃ c : Nat, C7 n = some (c : Int) ∧ DB n = some (c : Int) ∧ c ≤ 1 + n.sz := by
 refine A0.ind' fun n ih hs => ?_
 have hz := A0.sz_eq n
 rw [hz] at hs
 obtain ⟨c, h1, h2, h3⟩ := kY n (by omega) (fun k hk => ih k hk (by have := CB A0.sz hk; omega)) n.Kids [] (1 + n.Attrs.length) rfl (by omega)
 have e : AY 1 (A8 n.Attrs) = ((1 + n.Attrs.length : Nat) : Int) := by rw [Af (by simp only [A8]; omega) (by simp only [A8]; omega)]; simp only [A8]; omega
 exact ⟨c, by rw [C7, e]; exact h1, by rw [DB, e]; exact h2, by omega⟩
def ofK (k : Int) (l : List A0) : Nat := l.countP fun x => Al x.Kind k
theorem SA (l : List A0) (k : Int) (hl : l.length ≤ 4000000) : ∀ (rest pre : List A0) (a : Nat), pre ++ rest = l → a + rest.length ≤ 8000000 → DD k a l pre.length = some ((a + ofK k rest : Nat) : Int)
 | [], pre, a, hp, hb => by rw [DD, FU hp]; rfl
 | x :: rest, pre, a, hp, hb => by
  rw [List.length_cons] at hb
  rw [DD, EC hp, Bb hp, Cw hp (by rw [B9]; omega)]
  simp only [if_true, A3]
  cases hx : Al x.Kind k with
  | true =>
   have e : AY (a : Int) 1 = ((a + 1 : Nat) : Int) := by rw [Af (by omega) (by omega)]; omega
   rw [e, if_pos rfl, SA l k hl rest (pre ++ [x]) (a + 1) (Ej hp) (by omega)]
   simp only [ofK, List.countP_cons, hx, if_true]
   congr 2; omega
  | false =>
   simp only [Bool.false_eq_true, if_false]
   rw [SA l k hl rest (pre ++ [x]) a (Ej hp) (by omega)]
   simp only [ofK, List.countP_cons, hx, Bool.false_eq_true, if_false, Nat.add_zero]
theorem b5 (l : List A0) (k : Int) (hl : l.length ≤ 4000000) : IG l k = some (ofK k l : Int) := by
 rw [IG]
 have := SA l k hl l [] 0 rfl (by omega)
 simpa using this
def kZ (n : A0) : Bool := Cu n.Pre ⟨#[]⟩ && (Cu n.Local ⟨#[]⟩ && (Cu n.Uri ⟨#[]⟩ && (Cu n.Text ⟨#[]⟩ && (Al (A8 n.Decls) 0 && Al (A8 n.Attrs) 0))))
theorem X7 (n : A0) (hs : n.sz ≤ 1048576) : ∀ (rest pre : List A0) (a : Nat), pre ++ rest = n.Kids → a + rest.length ≤ 8000000 → AP a pre.length n = some (Al (ofK 2 rest : Int) 0 && (Al ((a + ofK 1 rest : Nat) : Int) 1 && (kZ n && IL 0 n.Kids)))
 | [], pre, a, hp, hb => by
  have hk := kX n.Kids (by rw [A0.sz_eq] at hs; omega) (fun k hk => by rw [A0.sz_eq] at hs; have := CB A0.sz hk; omega) 0 (by omega)
  have hk' : Ab n.Kids 0 = some (IL 0 n.Kids) := hk
  rw [AP, FU hp, hk', kZ]
  simp only [Bool.false_eq_true, if_false, A3, ofK, List.countP_nil, Nat.add_zero]
  show _ = some (true && _)
  cases Al (a : Int) 1 <;> cases Cu n.Pre ⟨#[]⟩ <;> cases Cu n.Local ⟨#[]⟩ <;> cases Cu n.Uri ⟨#[]⟩ <;> cases Cu n.Text ⟨#[]⟩ <;> cases Al (A8 n.Decls) 0 <;> cases Al (A8 n.Attrs) 0 <;> rfl
 | x :: rest, pre, a, hp, hb => by
  have hl : n.Kids.length ≤ 4000000 := by rw [A0.sz_eq] at hs; omega
  rw [List.length_cons] at hb
  have hj : ∀ q : Nat, q + rest.length ≤ 8000000 → Bk q pre.length n = some (!isT x && (Al (ofK 2 rest : Int) 0 && (Al ((q + ofK 1 rest : Nat) : Int) 1 && (kZ n && IL 0 n.Kids)))) := fun q hq => by
   rw [Bk, Bb hp, Cw hp (by rw [B9]; omega), X7 n hs rest (pre ++ [x]) q (Ej hp) hq]
   simp only [A3]
   show (if isT x = true then _ else _) = _
   cases isT x <;> rfl
  have ht : Al ((ofK 2 (x :: rest) : Nat) : Int) 0 = (!isT x && Al (ofK 2 rest : Int) 0) := by
   simp only [ofK, List.countP_cons]
   show Al ((_ + (if isT x = true then 1 else 0) : Nat) : Int) 0 = _
   cases isT x with
   | false => rfl
   | true => rw [DJ (by simp only [if_true]; omega)]; rfl
  rw [AP, EC hp, Bb hp, ht]
  simp only [if_true, A3]
  cases hx : Al x.Kind 1 with
  | true =>
   have e : AY (a : Int) 1 = ((a + 1 : Nat) : Int) := by rw [Af (by omega) (by omega)]; omega
   rw [if_pos rfl, e, hj (a + 1) (by omega)]
   simp only [ofK, List.countP_cons, hx, if_true]
   rw [show a + 1 + List.countP (fun x => Al x.Kind 1) rest = a + (List.countP (fun x => Al x.Kind 1) rest + 1) by omega, Bool.and_assoc]
  | false =>
   simp only [Bool.false_eq_true, if_false]
   rw [hj a (by omega)]
   simp only [ofK, List.countP_cons, hx, Bool.false_eq_true, if_false, Nat.add_zero, Bool.and_assoc]
def Pr (n : A0) : Bool := (Dk n).getD false
theorem UZ (n : A0) (hs : n.sz ≤ 1048576) : CG n = some (Pr n) ∧ Dk n = some (Pr n) := by
 have h : ∃ c, CG n = some c ∧ Dk n = some c := by
  obtain ⟨c, h1, h2, h3⟩ := iM n hs
  have hl : n.Kids.length ≤ 4000000 := by rw [A0.sz_eq] at hs; omega
  rw [CG, Dk, h1, h2]
  simp only [A3]
  cases NN (c : Int) 60 with
  | true => exact ⟨false, rfl, rfl⟩
  | false =>
   simp only [Bool.false_eq_true, if_false]
   cases SZ n.Kind 0 with
   | true =>
    simp only [if_true]
    have h4 := (az n hs 0 (by omega)).1
    have h5 := kX [n] (by simp) (fun k hk => by rw [List.mem_singleton.1 hk]; exact hs) 0 (by omega)
    have h5' : Ab [n] 0 = some (IL 0 [n]) := h5
    have h4' : AW n 0 = some (pB 0 n) := h4
    rw [h4', h5']
    refine ⟨_, rfl, ?_⟩
    simp only [A3, IL, S9, List.all_cons, List.all_nil, Bool.false_and, Bool.not_false, Bool.true_and, Bool.and_true]
   | false =>
    simp only [Bool.false_eq_true, if_false]
    have h6 := X7 n hs n.Kids [] 0 rfl (by omega)
    have h6' : AP 0 0 n = some (Al (ofK 2 n.Kids : Int) 0 && (Al ((0 + ofK 1 n.Kids : Nat) : Int) 1 && (kZ n && IL 0 n.Kids))) := h6
    have h7 : Dj n 0 = some (IL 0 n.Kids) := X6 n hs 0 (by omega)
    rw [h6', Nat.zero_add, kZ, Bm, Bm, b5 _ _ hl, b5 _ _ hl, h7]
    simp only [A3, Bool.false_eq_true, if_false]
    cases Al (ofK 2 n.Kids : Int) 0 <;> cases Al (ofK 1 n.Kids : Int) 1 <;> cases Cu n.Pre ⟨#[]⟩ <;> cases Cu n.Local ⟨#[]⟩ <;> cases Cu n.Uri ⟨#[]⟩ <;> cases Cu n.Text ⟨#[]⟩ <;> cases Al (A8 n.Decls) 0 <;> cases Al (A8 n.Attrs) 0 <;> exact ⟨_, rfl, rfl⟩
 obtain ⟨c, h3, h4⟩ := h
 have e : Pr n = c := by rw [Pr, h4]; rfl
 exact ⟨by rw [h3, e], by rw [h4, e]⟩
end TT
namespace TT
open Go
def prs (l : List A1) : List (ByteArray × ByteArray) := l.map fun x => (x.Pre, x.Uri)
theorem n8 (l : List (ByteArray × ByteArray)) (x : ByteArray × ByteArray) (p : ByteArray) : Ib (l ++ [x]) p = if decide (x.1 = p) then (x.2, true) else Ib l p := by
 simp only [Ib, List.reverse_append, List.reverse_cons, List.reverse_nil, List.nil_append, List.cons_append, List.find?_cons]
 cases decide (x.1 = p) <;> rfl
theorem Z3 (x y : ByteArray) : Cu x y = decide (x = y) := by
 rw [Bool.eq_iff_iff, SW, decide_eq_true_iff]
theorem b6 (l : List A1) (p : ByteArray) (hl : l.length ≤ 4000000) : ∀ k, k ≤ l.length → Bh l p ((k : Int) - 1) = some (Ib (prs (l.take k)) p)
 | 0, _ => by
  rw [Bh, Pf (by omega)]
  simp only [Bool.false_eq_true, if_false, List.take_zero, prs, List.map_nil]
  rw [Z3]; rfl
 | k + 1, h => by
  have e : (((k + 1 : Nat) : Int) - 1) = (k : Int) := by omega
  have hx : l[k]? = some (l[k]'(by omega)) := List.getElem?_eq_getElem (by omega)
  have hg : getI l (k : Int) = some (l[k]'(by omega)) := by
   unfold getI
   rw [if_pos (by omega)]
   simp
  have ih := b6 l p hl k (by omega)
  rw [Bh, e, Qc (by omega), hg, List.take_add_one, hx, Bw (by omega) (by omega), ih]
  simp only [if_true, A3, Option.toList_some, prs, List.map_append, List.map_cons, List.map_nil]
  rw [n8, Z3]
  cases decide ((l[k]'(by omega)).Pre = p) <;> rfl
theorem b7 (l : List A1) (p : ByteArray) (hl : l.length ≤ 4000000) : Bn l p = some (Ib (prs l) p) := by
 have e : BE (A8 l) 1 = ((l.length : Int) - 1) := Bw (by simp only [A8]; omega) (by simp only [A8]; omega)
 rw [Bn, e, b6 l p hl l.length (Nat.le_refl _), List.take_length]
theorem n9 (l m : List A1) (hl : l.length + m.length ≤ 4000000) : GQ l m = some (l ++ m) := by
 rw [GQ, DX (by omega) (by omega) (by omega), DX (by omega) (by omega) (by omega)]
 simp
theorem pn (l : List A1) : HR (l.map A1.row) = some (prs l) := by
 induction l with
 | nil => rfl
 | cons x l ih =>
  show (HR (l.map A1.row)).map _ = _
  rw [ih]; rfl
def ats (l : List A4) : List (ByteArray × ByteArray) := l.map fun x => (x.Pre, x.Uri)
theorem tq (l : List A4) : R2 (l.map A4.row) = some (ats l) := by
 induction l with
 | nil => rfl
 | cons x l ih =>
  show (R2 (l.map A4.row)).map _ = _
  rw [ih]; rfl
theorem er (n : A0) (own : List A1) (hl : n.Kids.length ≤ 4000000) (hk : ∀ k ∈ n.Kids, ∃ b, Cj k own = some b ∧ Lj (A0.row false k) (prs own) = some b) : ∀ (rest pre : List A0), pre ++ rest = n.Kids → ∃ b, Ax own pre.length n = some b ∧ OY (rest.map (A0.row false)) (prs own) = some b
 | [], pre, hp => ⟨true, by rw [Ax, FU hp]; rfl, by simp only [List.map_nil, OY]⟩
 | x :: rest, pre, hp => by
  obtain ⟨b, h1, h2⟩ := hk x (by rw [← hp]; simp)
  obtain ⟨c, h3, h4⟩ := er n own hl hk rest (pre ++ [x]) (Ej hp)
  refine ⟨b && c, ?_, by simp only [List.map_cons, OY, h2, h4]⟩
  rw [Ax, EC hp, Bb hp, Cw hp (by rw [B9]; omega)]
  simp only [if_true, A3, h1, h3]
  cases b <;> rfl
theorem et (n : A0) (own : List A1) (ho : own.length ≤ 4000000) (hl : n.Attrs.length ≤ 4000000) (c : Bool) (hc : Ax own 0 n = some c) : ∀ (rest pre : List A4), pre ++ rest = n.Attrs → B4 own pre.length n = some ((ats rest).all (V2 (prs own)) && c)
 | [], pre, hp => by rw [B4, FU hp]; exact hc
 | x :: rest, pre, hp => by
  have ih := et n own ho hl c hc rest (pre ++ [x]) (Ej hp)
  rw [B4, EC hp, Bb hp, Cw hp (by rw [B9]; omega), ih]
  simp only [if_true, A3, b7 _ _ ho, OS, ats, List.map_cons, List.all_cons, V2, OX, Z3]
  cases decide (x.Pre = ⟨#[]⟩) <;> cases (Ib (prs own) x.Pre).2 <;> cases decide ((Ib (prs own) x.Pre).1 = x.Uri) <;> simp
theorem tr : ∀ n : A0, n.sz ≤ 1048576 → ∀ l : List A1, l.length + n.sz ≤ 4000000 → ∃ b, Cj n l = some b ∧ Lj (A0.row false n) (prs l) = some b := by
 refine A0.ind' fun n ih hs l hb => ?_
 have hz := A0.sz_eq n
 rw [hz] at hs hb
 have ho : (l ++ n.Decls).length ≤ 4000000 := by rw [List.length_append]; omega
 obtain ⟨c, h1, h2⟩ := er n (l ++ n.Decls) (by omega) (fun k hk => ih k hk (by have := CB A0.sz hk; omega) (l ++ n.Decls) (by rw [List.length_append]; have := CB A0.sz hk; omega)) n.Kids [] rfl
 have h3 := et n (l ++ n.Decls) ho (by omega) c h1 n.Attrs [] rfl
 have h3' : E1 (l ++ n.Decls) n = some ((ats n.Attrs).all (V2 (prs (l ++ n.Decls))) && c) := by rw [E1]; exact h3
 have hp : prs l ++ prs n.Decls = prs (l ++ n.Decls) := by simp [prs]
 have hpl : (prs l ++ prs n.Decls).length ≤ 4000000 := by rw [hp, prs, List.length_map]; exact ho
 refine ⟨((decide (n.Kind ≠ 1) || OX (prs (l ++ n.Decls)) n.Pre n.Uri) && (ats n.Attrs).all (V2 (prs (l ++ n.Decls)))) && c, ?_, ?_⟩
 rotate_left
 ·rw [A0.row_eq, Lj, pn, tq]
  rw [hp] at hpl
  simp only [hp, h2]
  rw [if_pos hpl]
 ·rw [Cj, n9 _ _ (by rw [List.length_append] at ho; exact ho)]
  simp only [A3, b7 _ _ ho, h3', OS, OX, Z3]
  cases hk : Al n.Kind 1 with
  | false =>
   have hne : decide (n.Kind ≠ 1) = true := decide_eq_true fun e => by rw [G9 e] at hk; cases hk
   rw [hne]
   simp
  | true =>
   have hne : decide (n.Kind ≠ 1) = false := decide_eq_false fun e => e (LX.1 hk)
   rw [hne]
   cases (Ib (prs (l ++ n.Decls)) n.Pre).2 <;> cases decide ((Ib (prs (l ++ n.Decls)) n.Pre).1 = n.Uri) <;> simp
def tt (n : A0) (l : List A1) : Bool := (Cj n l).getD false
theorem A12 (n : A0) (l : List A1) (hs : n.sz ≤ 1048576) (hb : l.length + n.sz ≤ 4000000) : Cj n l = some (tt n l) ∧ ON n l = some (tt n l) := by
 obtain ⟨b, h1, h2⟩ := tr n hs l hb
 have e : tt n l = b := by rw [tt, h1]; rfl
 exact ⟨by rw [h1, e], by rw [ON, e]; exact h2⟩
end TT
namespace TT
open Go
def O8 (n : A0) : Bool := Al n.Kind 0 && (Pr n && tt n [])
theorem X8 (n : A0) (hs : n.sz ≤ 1048576) : Bz n = some (O8 n) ∧ IH n = some (O8 n) := by
 obtain ⟨n1, n2⟩ := UZ n hs
 obtain ⟨f1, f2⟩ := A12 n [] hs (by simp; omega)
 constructor
 ·rw [Bz, n1, f1, O8]
  simp only [A3]
  cases Al n.Kind 0 <;> cases Pr n <;> rfl
 ·rw [IH, n2, f2, O8]
  simp only [A3]
  cases Al n.Kind 0 <;> cases Pr n <;> rfl
end TT
