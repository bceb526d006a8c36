import Derived.Test.YtjnjaaimgdjcgaaGreatDoorTP3Copy
import Derived.Lib.IndexMore
import Derived.Lib.Fold
import Derived.Test.YtjnjaaimgdjcgaaGreatDoorTP0
import Derived.Test.YtjnjaaimgdjcgaaGreatDoorTP1
import Derived.Test.YtjnjaaimgdjcgaaGreatDoorTHX4
set_option linter.unusedVariables false
set_option linter.unusedSimpArgs false
namespace TT
open Go
theorem ext_list (s : ByteArray) (i k : Nat) : (s.extract i k).toList = (s.data.toList.drop i).take (k - i) := by
 rw [Lib.toList_data, Lib.extract_data]
theorem dlen (s : ByteArray) : s.data.toList.length = s.size := Array.length_toList
theorem has_loop (s t : ByteArray) (ht : 1 ≤ t.size) (hs : s.size ≤ 4000000) (hts : t.size ≤ 4000000) : ∀ (m i : Nat), i ≤ s.size → s.size - i ≤ m →
  ∃ b, spec_l5Has_l6 s t i = some b ∧ (b = true ↔ ∃ j, i ≤ j ∧ j ≤ s.size ∧ Lib.occAt s.data.toList t.data.toList j = true) := by
 intro m
 have hz : ∀ i, s.size < i + t.size → ∀ j, i ≤ j → j ≤ s.size → Lib.occAt s.data.toList t.data.toList j = false := fun i hi j h1 h2 => by
  rw [Bool.eq_false_iff]
  intro h
  rcases Lib.occAt_room h with h' | h'
  ·rw [dlen, dlen] at h'; omega
  ·have := dlen t; rw [h'] at this; simp at this; omega
 have hend : ∀ i, i ≤ s.size → s.size < i + t.size → ∃ b, spec_l5Has_l6 s t i = some b ∧ (b = true ↔ ∃ j, i ≤ j ∧ j ≤ s.size ∧ Lib.occAt s.data.toList t.data.toList j = true) := fun i hi h => by
  refine ⟨false, ?_, ?_⟩
  ·rw [spec_l5Has_l6, addI_eq (by simp only [lenS]; omega) (by simp only [lenS]; omega), leI_f (by simp only [lenS]; omega)]; rfl
  ·constructor
   ·intro h; cases h
   ·rintro ⟨j, h1, h2, h3⟩
    rw [hz i h j h1 h2] at h3; cases h3
 induction m with
 | zero => intro i h hm; exact hend i h (by omega)
 | succ m ih =>
  intro i h hm
  by_cases hi : i + t.size ≤ s.size
  ·obtain ⟨b, h1, h2⟩ := ih (i + 1) (by omega) (by omega)
   have hsub : subS s i ((i : Int) + t.size) = some (s.extract i (i + t.size)) := by
    unfold subS
    rw [if_pos ⟨by omega, by omega, by omega⟩]
    congr 1
   have hocc : Lib.occAt s.data.toList t.data.toList i = ((s.extract i (i + t.size)).toList == t.toList) := by
    rw [Lib.occAt_iff_take _ _ _ (by rw [dlen, dlen]; exact hi), ext_list, dlen, Lib.toList_data, show i + t.size - i = t.size by omega]
   have e1 : addI (i : Int) (lenS t) = (i : Int) + t.size := addI_eq (by simp only [lenS]; omega) (by simp only [lenS]; omega)
   rw [spec_l5Has_l6, e1, leI_t (by simp only [lenS]; omega)]
   have he : eqS (s.extract i (i + t.size)) t = Lib.occAt s.data.toList t.data.toList i := by rw [eqS]; exact hocc.symm
   simp only [if_true, hsub, some_bnd, he]
   cases ho : Lib.occAt s.data.toList t.data.toList i with
   | true => exact ⟨true, rfl, fun _ => ⟨i, Nat.le_refl _, by omega, ho⟩, fun _ => rfl⟩
   | false =>
    refine ⟨b, ?_, h2.trans ⟨fun ⟨j, g1, g2, g3⟩ => ⟨j, by omega, g2, g3⟩, fun ⟨j, g1, g2, g3⟩ => ⟨j, ?_, g2, g3⟩⟩⟩
    ·simp only [Bool.false_eq_true, if_false]
     rw [addI_eq (by omega) (by omega)]
     exact h1
    ·by_cases e : j = i
     ·subst e; rw [ho] at g3; cases g3
     ·omega
  ·exact hend i h (by omega)
theorem has_all (s t : ByteArray) (ht : 1 ≤ t.size) (hs : s.size ≤ 4000000) (hts : t.size ≤ 4000000) : spec_l5Has s t = some (containsB s t) ∧ strings_Contains s t = some (containsB s t) := by
 refine ⟨?_, by rw [strings_Contains, if_pos (by omega)]⟩
 obtain ⟨b, h1, h2⟩ := has_loop s t ht hs hts s.size 0 (Nat.zero_le _) (by omega)
 have h1' : spec_l5Has_l6 s t 0 = some b := h1
 rw [spec_l5Has, h1']
 congr 1
 rw [Bool.eq_iff_iff, h2, containsB, Lib.contains, decide_eq_true_iff]
 rcases Lib.index_spec s.data.toList t.data.toList with ⟨g1, g2⟩ | ⟨i, g1, g2, g3, _⟩
 ·rw [g1]
  constructor
  ·rintro ⟨j, _, a, b⟩
   rw [g2 j (by rw [dlen]; exact a)] at b; cases b
  ·intro h; omega
 ·rw [g1]
  exact ⟨fun _ => by omega, fun _ => ⟨i, Nat.zero_le _, by rw [dlen] at g2; exact g2, g3⟩⟩
theorem fold_low (x y : UInt8) (h : 97 ≤ y.toNat ∧ y.toNat ≤ 122) : Lib.foldEq x y = (decide (x.toNat = y.toNat) || decide (x.toNat + 32 = y.toNat)) := by
 rw [Bool.eq_iff_iff, Lib.foldEq, Bool.or_eq_true, decide_eq_true_iff, decide_eq_true_iff, decide_eq_true_iff]
 have := x.toNat_lt
 omega
theorem xml_all (s : ByteArray) (hs : s.size ≤ 4000000) : spec_l5Xml s = some (foldB s ⟨#[120, 109, 108]⟩) ∧ strings_EqualFold s ⟨#[120, 109, 108]⟩ = some (foldB s ⟨#[120, 109, 108]⟩) := by
 refine ⟨?_, by rw [strings_EqualFold, if_pos ⟨by omega, by decide⟩]⟩
 rw [spec_l5Xml]
 by_cases h : s.size = 3
 ·have hl := dlen s
  rw [h] at hl
  match hd : s.data.toList, hl with
  | [a, b, c], _ =>
   have g0 : s.get! 0 = a := by
    show s.data[0]! = a
    rw [← Array.getElem!_toList, hd]; rfl
   have g1 : s.get! 1 = b := by
    show s.data[1]! = b
    rw [← Array.getElem!_toList, hd]; rfl
   have g2 : s.get! 2 = c := by
    show s.data[2]! = c
    rw [← Array.getElem!_toList, hd]; rfl
   have e0 : atS s 0 = some ((a.toNat : Nat) : Int) := (atS_by (i := 0) (k := 0) rfl (by omega)).trans (by rw [by', g0])
   have e1 : atS s 1 = some ((b.toNat : Nat) : Int) := (atS_by (i := 1) (k := 1) rfl (by omega)).trans (by rw [by', g1])
   have e2 : atS s 2 = some ((c.toNat : Nat) : Int) := (atS_by (i := 2) (k := 2) rfl (by omega)).trans (by rw [by', g2])
   have hf : foldB s ⟨#[120, 109, 108]⟩ = ((decide (a.toNat = 120) || decide (a.toNat = 88)) && ((decide (b.toNat = 109) || decide (b.toNat = 77)) && (decide (c.toNat = 108) || decide (c.toNat = 76)))) := by
    rw [foldB, hd]
    show (Lib.foldEq a 120 && (Lib.foldEq b 109 && (Lib.foldEq c 108 && true))) = _
    rw [fold_low a 120 (by decide), fold_low b 109 (by decide), fold_low c 108 (by decide), Bool.and_true]
    congr 1
    ·congr 1; rw [decide_eq_decide]; show a.toNat + 32 = 120 ↔ _; omega
    ·congr 1
     ·congr 1; rw [decide_eq_decide]; show b.toNat + 32 = 109 ↔ _; omega
     ·congr 1; rw [decide_eq_decide]; show c.toNat + 32 = 108 ↔ _; omega
   have ei : ∀ (x k : Nat), eqI (x : Int) (k : Int) = decide (x = k) := fun x k => by
    rw [eqI, Bool.eq_iff_iff, beq_iff_eq, decide_eq_true_iff]; omega
   have q1 := ei a.toNat 120; have q2 := ei a.toNat 88; have q3 := ei b.toNat 109; have q4 := ei b.toNat 77; have q5 := ei c.toNat 108; have q6 := ei c.toNat 76
   rw [neI_eq, eqI_t (by simp only [lenS]; omega)]
   simp only [Bool.not_true, Bool.false_eq_true, if_false, e0, e1, e2, some_bnd, hf]
   simp only [Int.cast_ofNat_Int] at q1 q2 q3 q4 q5 q6
   rw [q1, q2, q3, q4, q5, q6]
   cases decide (a.toNat = 120) <;> cases decide (a.toNat = 88) <;> cases decide (b.toNat = 109) <;> cases decide (b.toNat = 77) <;> cases decide (c.toNat = 108) <;> cases decide (c.toNat = 76) <;> rfl
 ·rw [neI_eq, eqI_f (by simp only [lenS]; omega)]
  simp only [Bool.not_false, if_true]
  congr 1
  symm
  rw [foldB, Bool.eq_false_iff]
  intro hh
  have hlen : ∀ (x y : List UInt8), Lib.equalFold x y = true → x.length = y.length := by
   intro x
   induction x with
   | nil => intro y h; cases y with
    | nil => rfl
    | cons _ _ => cases h
   | cons a x ih => intro y h; cases y with
    | nil => cases h
    | cons b y =>
     rw [Lib.equalFold, Bool.and_eq_true] at h
     simp [ih y h.2]
  have := hlen _ _ hh
  rw [dlen] at this
  exact h this
theorem cmp_list : ∀ (a b : List UInt8), ((Lib.compareBytes a b < 0) ↔ Op.bytesLess a b = true) ∧ (Lib.compareBytes a b = 0 ↔ a = b)
 | [], [] => by simp [Lib.compareBytes, Op.bytesLess]
 | [], _ :: _ => by simp [Lib.compareBytes, Op.bytesLess]
 | _ :: _, [] => by simp [Lib.compareBytes, Op.bytesLess]
 | x :: a, y :: b => by
  obtain ⟨h1, h2⟩ := cmp_list a b
  unfold Lib.compareBytes Op.bytesLess
  by_cases hxy : x < y
  ·rw [if_pos hxy]
   refine ⟨by simp [hxy], ?_⟩
   constructor
   ·intro h; cases h
   ·intro h; injection h with e; subst e; exact absurd hxy (UInt8.lt_irrefl x)
  ·rw [if_neg hxy]
   by_cases hyx : y < x
   ·rw [if_pos hyx]
    have hne : x ≠ y := fun e => by subst e; exact UInt8.lt_irrefl x hyx
    refine ⟨by simp [hxy, hne], ?_⟩
    constructor
    ·intro h; cases h
    ·intro h; injection h with e; exact absurd e hne
   ·rw [if_neg hyx]
    have e : x = y := UInt8.le_antisymm (UInt8.not_lt.1 hyx) (UInt8.not_lt.1 hxy)
    subst e
    refine ⟨by rw [h1]; simp [UInt8.lt_irrefl], by rw [h2]; simp⟩
theorem cmp_lt (s t : ByteArray) : ltI (compareB s t) 0 = ltS s t := by
 rw [ltI, compareB, ltS, Bool.eq_iff_iff, decide_eq_true_iff, (cmp_list _ _).1, Lib.toList_data, Lib.toList_data]
theorem cmp_eq (s t : ByteArray) : eqI (compareB s t) 0 = eqS s t := by
 rw [eqI, compareB, eqS, Bool.eq_iff_iff, beq_iff_eq, (cmp_list _ _).2, beq_iff_eq, Lib.toList_data, Lib.toList_data]
end TT
namespace TT
open Go
def textB (s : ByteArray) : Bool := (spec_TextOk s).getD false
theorem text_b (s : ByteArray) (hs : s.size ≤ 4000000) : spec_TextOk s = some (textB s) ∧ impl_TextOk s = some (textB s) := by
 obtain ⟨b, h1, h2⟩ := text_all s hs
 have e : textB s = b := by rw [textB, h1]; rfl
 exact ⟨by rw [h1, e], by rw [h2, e]⟩
theorem neS_not (x y : ByteArray) : neS x y = !eqS x y := Bool.eq_iff_iff.2 Iff.rfl
theorem neI_not (x y : Int) : neI x y = !eqI x y := Bool.eq_iff_iff.2 Iff.rfl
theorem neB_not (x y : Bool) : neB x y = !eqB x y := Bool.eq_iff_iff.2 Iff.rfl
theorem geI_not (x y : Int) : geI x y = !ltI x y := by
 rw [geI, ltI, Bool.eq_iff_iff]; simp
theorem gtI_not (x y : Int) : gtI x y = !leI x y := by
 rw [gtI, leI, Bool.eq_iff_iff]; simp
theorem pre_all (s : ByteArray) (hs : s.size ≤ 4000000) : ∃ b, spec_l4Xml s = some b ∧ strings_HasPrefix s ⟨#[120, 109, 108]⟩ = some b := by
 have e3 : lenS (⟨#[120, 109, 108]⟩ : ByteArray) = 3 := rfl
 rw [spec_l4Xml, strings_HasPrefix, internal_stringslite_HasPrefix, e3]
 by_cases h : 3 ≤ s.size
 ·have e : subS s 0 3 = some (s.extract 0 3) := by
   unfold subS
   rw [if_pos ⟨by omega, by omega, by omega⟩]; rfl
  rw [geI_t (by simp only [lenS]; omega)]
  simp only [if_true, e, some_bnd]
  exact ⟨_, rfl, rfl⟩
 ·rw [geI_f (by simp only [lenS]; omega)]
  exact ⟨false, rfl, rfl⟩
def preB (s : ByteArray) : Bool := (spec_l5Pre s).getD false
theorem pre_b (s : ByteArray) (hs : s.size ≤ 4000000) : spec_l5Pre s = some (preB s) ∧ impl_preOk s = some (preB s) := by
 obtain ⟨b, h1, h2⟩ := pre_all s hs
 obtain ⟨p1, p2, _⟩ := plain_all s hs
 have h : ∃ c, spec_l5Pre s = some c ∧ impl_preOk s = some c := by
  rw [spec_l5Pre, impl_preOk, p1, p2, h1, h2]
  simp only [some_bnd]
  cases eqS s ⟨#[]⟩ <;> cases plainB s <;> exact ⟨_, rfl, rfl⟩
 obtain ⟨c, h3, h4⟩ := h
 have e : preB s = c := by rw [preB, h3]; rfl
 exact ⟨by rw [h3, e], by rw [h4, e]⟩
def uriB (u p : ByteArray) : Bool := textB u && (leI (lenS u) 40 && (!eqS u ⟨#[]⟩ || eqS p ⟨#[]⟩))
theorem uri_impl (u p : ByteArray) (hu : u.size ≤ 4000000) : impl_uriOk u p = some (uriB u p) := by
 rw [impl_uriOk, (text_b u hu).2, uriB]
 simp only [some_bnd, neS_not]
 cases textB u <;> cases leI (lenS u) 40 <;> cases eqS u ⟨#[]⟩ <;> rfl
def declB (d : GDecl) : Bool := preB d.Pre && uriB d.Uri d.Pre
theorem decl_impl (d : GDecl) (hs : d.sz ≤ 4000000) : impl_DeclOk d = some (declB d) := by
 rw [GDecl.sz_eq] at hs
 rw [impl_DeclOk, (pre_b d.Pre (by omega)).2, uri_impl _ _ (by omega), declB]
 simp only [some_bnd]
 cases preB d.Pre <;> rfl
theorem decl_spec (d : GDecl) (hs : d.sz ≤ 4000000) : spec_DeclOk d = some (declB d) := by
 rw [GDecl.sz_eq] at hs
 obtain ⟨b, h1, h2⟩ := pre_all d.Pre (by omega)
 obtain ⟨p1, p2, _⟩ := plain_all d.Pre (by omega)
 have e : preB d.Pre = (eqS d.Pre ⟨#[]⟩ || (plainB d.Pre && !b)) := by
  have := (pre_b d.Pre (by omega)).1
  rw [spec_l5Pre, p1, h1] at this
  simp only [some_bnd] at this
  revert this
  cases eqS d.Pre ⟨#[]⟩ <;> cases plainB d.Pre <;> intro this <;> simp_all
 rw [spec_DeclOk, spec_DeclOk_j2, p1, h1, (text_b d.Uri (by omega)).1, declB, e, uriB]
 simp only [some_bnd, neS_not]
 cases eqS d.Pre ⟨#[]⟩ <;> cases plainB d.Pre <;> cases b <;> cases eqS d.Uri ⟨#[]⟩ <;> cases textB d.Uri <;> cases leI (lenS d.Uri) 40 <;> rfl
theorem back_at {α : Type} {l pre rest : List α} {x y : α} (h : (pre ++ [y]) ++ x :: rest = l) (hl : l.length ≤ 4000000) : gtI ((pre ++ [y]).length : Int) 0 = true ∧ getI l (subI ((pre ++ [y]).length : Int) 1) = some y := by
 have hlen : (pre ++ [y]).length = pre.length + 1 := by simp
 have hb : pre.length + 1 ≤ l.length := by rw [← h]; simp
 refine ⟨gtI_t (by rw [hlen]; omega), ?_⟩
 have e : subI ((pre ++ [y]).length : Int) 1 = (pre.length : Int) := by
  rw [subI_eq (by omega) (by omega), hlen]; omega
 rw [e]
 exact getI_at (rest := x :: rest) (by rw [← h]; simp)
theorem last_of {α : Type} (pre : List α) : pre = [] ∨ ∃ p y, pre = p ++ [y] := by
 rcases List.eq_nil_or_concat pre with h | ⟨p, y, h⟩
 ·exact .inl h
 ·exact .inr ⟨p, y, by rw [h, List.concat_eq_append]⟩
theorem decls_loop (l : List GDecl) (hl : l.length ≤ 4000000) (hs : ∀ d ∈ l, d.sz ≤ 4000000) : ∀ (rest pre : List GDecl), pre ++ rest = l → ∃ b, spec_DeclsOk_l6 l pre.length = some b ∧ impl_DeclsOk_l6 l pre.length = some b
 | [], pre, hp => ⟨_, by rw [spec_DeclsOk_l6, end_at hp]; rfl, by rw [impl_DeclsOk_l6, end_at hp]; rfl⟩
 | x :: rest, pre, hp => by
  have hx : x.sz ≤ 4000000 := hs x (by rw [← hp]; simp)
  obtain ⟨b, h1, h2⟩ := decls_loop l hl hs rest (pre ++ [x]) (step_at hp)
  rw [spec_DeclsOk_l6, impl_DeclsOk_l6, more_at hp, getI_at hp, next_at hp (by rw [maxLen_eq]; omega)]
  simp only [if_true, some_bnd, decl_spec x hx, decl_impl x hx]
  cases declB x with
  | false => exact ⟨false, rfl, rfl⟩
  | true =>
   simp only [if_true]
   rcases last_of pre with rfl | ⟨p, y, rfl⟩
   ·have e : gtI ((([] : List GDecl).length : Nat) : Int) 0 = false := rfl
    rw [e]
    exact ⟨b, h1, h2⟩
   ·obtain ⟨e1, e2⟩ := back_at hp hl
    rw [e1, e2]
    simp only [if_true, some_bnd]
    cases geS y.Pre x.Pre with
    | true => exact ⟨false, rfl, rfl⟩
    | false => exact ⟨b, h1, h2⟩
def declsB (l : List GDecl) : Bool := (spec_DeclsOk l).getD false
theorem decls_b (l : List GDecl) (hl : l.length ≤ 4000000) (hs : ∀ d ∈ l, d.sz ≤ 4000000) : spec_DeclsOk l = some (declsB l) ∧ impl_DeclsOk l = some (declsB l) := by
 obtain ⟨b, h1, h2⟩ := decls_loop l hl hs l [] rfl
 have h1' : spec_DeclsOk l = some b := h1
 have e : declsB l = b := by rw [declsB, h1']; rfl
 exact ⟨by rw [h1', e], by rw [e]; exact h2⟩
def attrB (a : GAttr) : Bool := (impl_attrOk a).getD false
theorem attr_b (a : GAttr) (hs : a.sz ≤ 4000000) : spec_l5AttrOk a = some (attrB a) ∧ impl_attrOk a = some (attrB a) := by
 rw [GAttr.sz_eq] at hs
 have h : ∃ c, spec_l5AttrOk a = some c ∧ impl_attrOk a = some c := by
  rw [spec_l5AttrOk, spec_l5AttrOk_j2, impl_attrOk, (pre_b a.Pre (by omega)).1, (pre_b a.Pre (by omega)).2, uri_impl _ _ (by omega), (plain_all a.Local (by omega)).1, (plain_all a.Local (by omega)).2.1, (text_b a.Val (by omega)).1, (text_b a.Val (by omega)).2, (text_b a.Uri (by omega)).1, uriB]
  simp only [some_bnd, neS_not, neB_not]
  cases preB a.Pre <;> cases eqS a.Pre ⟨#[]⟩ <;> cases eqS a.Uri ⟨#[]⟩ <;> cases plainB a.Local <;> cases eqS a.Local ⟨#[120, 109, 108, 110, 115]⟩ <;> cases textB a.Val <;> cases textB a.Uri <;> cases leI (lenS a.Uri) 40 <;> exact ⟨_, rfl, rfl⟩
 obtain ⟨c, h3, h4⟩ := h
 have e : attrB a = c := by rw [attrB, h4]; rfl
 exact ⟨by rw [h3, e], by rw [h4, e]⟩
theorem less_all (a b : GAttr) : ∃ c, impl_compareAttrs a b = some c ∧ spec_l5Less a b = some (!geI c 0) := by
 rw [impl_compareAttrs, strings_Compare, strings_Compare, spec_l5Less]
 simp only [some_bnd, neI_not, cmp_eq, geI_not, Bool.not_not]
 have h1 := cmp_lt a.Uri b.Uri
 have h2 := cmp_eq a.Uri b.Uri
 cases he : eqS a.Uri b.Uri with
 | false =>
  refine ⟨_, rfl, ?_⟩
  rw [h1]
  cases ltS a.Uri b.Uri <;> rfl
 | true =>
  refine ⟨_, rfl, ?_⟩
  rw [cmp_lt]
  have : ltS a.Uri b.Uri = false := by
   rw [← h1, ltI_f]
   rw [he] at h2
   have := eqI_iff.1 h2
   omega
  rw [this]
  rfl
theorem attrs_loop (n : GNode) (hl : n.Attrs.length ≤ 4000000) (hs : ∀ d ∈ n.Attrs, d.sz ≤ 4000000) : ∀ (rest pre : List GAttr), pre ++ rest = n.Attrs → ∃ b, spec_l5One_l21 pre.length n = some b ∧ impl_attrsOk_l6 n.Attrs pre.length = some (b && leI (lenL n.Attrs) 5)
 | [], pre, hp => ⟨true, by rw [spec_l5One_l21, end_at hp]; rfl, by rw [impl_attrsOk_l6, end_at hp]; rfl⟩
 | x :: rest, pre, hp => by
  have hx : x.sz ≤ 4000000 := hs x (by rw [← hp]; simp)
  obtain ⟨b, h1, h2⟩ := attrs_loop n hl hs rest (pre ++ [x]) (step_at hp)
  rw [spec_l5One_l21, impl_attrsOk_l6, more_at hp, getI_at hp, next_at hp (by rw [maxLen_eq]; omega)]
  simp only [if_true, some_bnd, (attr_b x hx).1, (attr_b x hx).2]
  cases attrB x with
  | false => exact ⟨false, rfl, rfl⟩
  | true =>
   simp only [if_true]
   rcases last_of pre with rfl | ⟨p, y, rfl⟩
   ·have e : gtI ((([] : List GAttr).length : Nat) : Int) 0 = false := rfl
    rw [e]
    exact ⟨b, h1, h2⟩
   ·obtain ⟨e1, e2⟩ := back_at hp hl
    obtain ⟨c, e3, e4⟩ := less_all y x
    rw [e1, e2]
    simp only [if_true, some_bnd, e3, e4]
    cases geI c 0 with
    | true => exact ⟨false, rfl, rfl⟩
    | false => exact ⟨b, h1, h2⟩
theorem attrs_all (n : GNode) (hl : n.Attrs.length ≤ 4000000) (hs : ∀ d ∈ n.Attrs, d.sz ≤ 4000000) : ∃ b, spec_l5One_j9 n = some b ∧ impl_attrsOk n.Attrs = some (b && leI (lenL n.Attrs) 5) := by
 obtain ⟨b, h1, h2⟩ := attrs_loop n hl hs n.Attrs [] rfl
 exact ⟨b, by rw [spec_l5One_j9]; exact h1, by rw [impl_attrsOk]; exact h2⟩
end TT
namespace TT
open Go
theorem lenL_0 {α : Type} (l : List α) : gtI (lenL l) 0 = !eqI (lenL l) 0 := by
 cases l with
 | nil => rfl
 | cons x l => rw [gtI_t (by simp only [lenL, List.length_cons]; omega), eqI_f (by simp only [lenL, List.length_cons]; omega)]; rfl
theorem suffix_all (s : ByteArray) (hs : s.size ≤ 4000000) : ∃ b, strings_HasSuffix s ⟨#[45]⟩ = some b ∧ (if (eqS s ⟨#[]⟩) then some true else atS s (subI (lenS s) 1) >>= fun x4 => some (neI x4 45)) = some (!b) := by
 have e1 : lenS (⟨#[45]⟩ : ByteArray) = 1 := rfl
 rw [strings_HasSuffix, internal_stringslite_HasSuffix, e1]
 by_cases h : 1 ≤ s.size
 ·have e0 : eqS s ⟨#[]⟩ = false := by
   cases he : eqS s ⟨#[]⟩ with
   | false => rfl
   | true => rw [eqS_iff.1 he] at h; exact absurd h (by decide)
  have e2 : subI (lenS s) 1 = ((s.size - 1 : Nat) : Int) := by rw [subI_eq (by simp only [lenS]; omega) (by simp only [lenS]; omega)]; simp only [lenS]; omega
  have e3 : subS s ((s.size - 1 : Nat) : Int) (lenS s) = some (s.extract (s.size - 1) s.size) := by
   show subS s ((s.size - 1 : Nat) : Int) ((s.size : Nat) : Int) = _
   unfold subS
   rw [if_pos ⟨by omega, by omega, by omega⟩]
   congr 1
  have hd : s.data.toList.drop (s.size - 1) = [s.data.toList[s.size - 1]'(by rw [dlen]; omega)] := by
   rw [List.drop_eq_getElem_cons (by rw [dlen]; omega)]
   congr 1
   exact List.drop_eq_nil_of_le (by rw [dlen]; omega)
  have e4 : (s.extract (s.size - 1) s.size).toList = [s.data.toList[s.size - 1]'(by rw [dlen]; omega)] := by
   rw [ext_list, hd]
   have : s.size - (s.size - 1) = 1 := by omega
   rw [this]; rfl
  have e5 : by' s (s.size - 1) = (s.data.toList[s.size - 1]'(by rw [dlen]; omega)).toNat := by
   show (s.data[s.size - 1]!).toNat = _
   rw [← Array.getElem!_toList, getElem!_pos s.data.toList (s.size - 1) (by rw [dlen]; omega)]
  rw [geI_t (by simp only [lenS]; omega), e0, e2]
  simp only [if_true, e3, some_bnd, Bool.false_eq_true, if_false, atS_by (i := ((s.size - 1 : Nat) : Int)) rfl (show s.size - 1 < s.size by omega), neI_not]
  refine ⟨_, rfl, ?_⟩
  congr 2
  rw [e5, eqS, e4, Bool.eq_iff_iff, eqI_iff, beq_iff_eq, show (⟨#[45]⟩ : ByteArray).toList = [45] from by rw [Lib.toList_data]]
  constructor
  ·intro hh
   have : s.data.toList[s.size - 1]'(by rw [dlen]; omega) = 45 := UInt8.toNat_inj.1 (by have : ((45 : UInt8).toNat : Int) = 45 := rfl; omega)
   rw [this]
  ·intro hh
   have := (List.cons.inj hh).1
   rw [this]; rfl
 ·have hz : s.size = 0 := by omega
  have e0 : eqS s ⟨#[]⟩ = true := eqS_iff.2 (by
   apply toList_inj
   rw [Lib.toList_data, Lib.toList_data]
   have := dlen s
   rw [hz] at this
   rw [List.eq_nil_of_length_eq_zero this])
  rw [geI_f (by simp only [lenS]; omega), e0]
  exact ⟨false, rfl, rfl⟩
theorem blank_all (n : Int) : ∃ b, spec_IsBlank n = some b ∧ impl_IsBlank n = some b := by
 rw [spec_IsBlank, impl_IsBlank]
 cases eqI n 9 <;> cases eqI n 10 <;> cases eqI n 13 <;> exact ⟨_, rfl, rfl⟩
theorem first_all (s : ByteArray) (hs : s.size ≤ 4000000) : ∃ b, (if (eqS s ⟨#[]⟩) then some true else atS s 0 >>= fun x5 => spec_IsBlank (wr .i64 x5) >>= fun r22 => some (!r22)) = some b ∧ (if (eqS s ⟨#[]⟩) then some true else atS s 0 >>= fun x => impl_IsBlank (wr .i64 x) >>= fun r5 => some (!r5)) = some b := by
 cases he : eqS s ⟨#[]⟩ with
 | true => exact ⟨true, rfl, rfl⟩
 | false =>
  have hz : 0 < s.size := by
   rcases Nat.eq_zero_or_pos s.size with h | h
   ·have : s = ⟨#[]⟩ := by
     apply toList_inj
     rw [Lib.toList_data, Lib.toList_data]
     have := dlen s
     rw [h] at this
     rw [List.eq_nil_of_length_eq_zero this]
    rw [this] at he
    rw [eqS_self] at he
    cases he
   ·exact h
  obtain ⟨b, h1, h2⟩ := blank_all (wr .i64 ((by' s 0 : Nat) : Int))
  have e : atS s 0 = some ((by' s 0 : Nat) : Int) := atS_by (i := 0) (k := 0) rfl hz
  simp only [Bool.false_eq_true, if_false, e, some_bnd, h1, h2]
  exact ⟨_, rfl, rfl⟩
def leafB (n : GNode) : Bool := (impl_leafOk n).getD false
theorem leaf_b (n : GNode) (hs : n.sz ≤ 4000000) (hk : eqI n.Kind 1 = false) : spec_l5One n = some (leafB n) ∧ impl_leafOk n = some (leafB n) := by
 rw [GNode.sz_eq] at hs
 have h : ∃ c, spec_l5One n = some c ∧ impl_leafOk n = some c := by
  obtain ⟨b1, s1, s2⟩ := suffix_all n.Text (by omega)
  obtain ⟨b2, f1, f2⟩ := first_all n.Text (by omega)
  have c1 := has_all n.Text ⟨#[45, 45]⟩ (by decide) (by omega) (by decide)
  have c2 := has_all n.Text ⟨#[13]⟩ (by decide) (by omega) (by decide)
  have c3 := has_all n.Text ⟨#[63, 62]⟩ (by decide) (by omega) (by decide)
  have x1 := xml_all n.Local (by omega)
  have p1 := plain_all n.Local (by omega)
  have t1 := text_b n.Text (by omega)
  rw [spec_l5One, impl_leafOk, impl_leafOk_j2, impl_noteOk, impl_toldOk, spec_l5Bare, hk, s1, s2, f1, f2, c1.1, c1.2, c2.1, c2.2, c3.1, c3.2, x1.1, x1.2, p1.1, p1.2.1, t1.1, t1.2]
  simp only [some_bnd, neS_not, neI_not, lenL_0, Bool.false_eq_true, if_false]
  have k23 : eqI n.Kind 2 = true → eqI n.Kind 3 = false ∧ eqI n.Kind 4 = false := fun h => by
   have := eqI_iff.1 h; exact ⟨eqI_f (by omega), eqI_f (by omega)⟩
  have k34 : eqI n.Kind 3 = true → eqI n.Kind 4 = false := fun h => by
   have := eqI_iff.1 h; exact eqI_f (by omega)
  cases eqS n.Pre ⟨#[]⟩ <;> cases eqS n.Uri ⟨#[]⟩ <;> cases eqI (lenL n.Decls) 0 <;> cases eqI (lenL n.Attrs) 0 <;> cases eqI (lenL n.Kids) 0
  all_goals try (cases h2 : eqI n.Kind 2 <;> cases h3 : eqI n.Kind 3 <;> cases h4 : eqI n.Kind 4 <;> exact ⟨false, rfl, rfl⟩)
  cases h2 : eqI n.Kind 2 with
  | true =>
   obtain ⟨h3, h4⟩ := k23 h2
   rw [h4]
   cases eqS n.Local ⟨#[]⟩ <;> cases eqS n.Text ⟨#[]⟩ <;> cases textB n.Text <;> exact ⟨_, rfl, rfl⟩
  | false =>
   cases h3 : eqI n.Kind 3 with
   | true =>
    rw [k34 h3]
    cases eqS n.Local ⟨#[]⟩ <;> cases textB n.Text <;> cases containsB n.Text ⟨#[45, 45]⟩ <;> cases containsB n.Text ⟨#[13]⟩ <;> cases b1 <;> exact ⟨_, rfl, rfl⟩
   | false =>
    cases h4 : eqI n.Kind 4 with
    | true => cases eqS n.Local ⟨#[]⟩ <;> cases plainB n.Local <;> cases foldB n.Local ⟨#[120, 109, 108]⟩ <;> cases textB n.Text <;> cases containsB n.Text ⟨#[63, 62]⟩ <;> cases containsB n.Text ⟨#[13]⟩ <;> exact ⟨_, rfl, rfl⟩
    | false => cases eqS n.Local ⟨#[]⟩ <;> exact ⟨_, rfl, rfl⟩
 obtain ⟨c, h3, h4⟩ := h
 have e : leafB n = c := by rw [leafB, h4]; rfl
 exact ⟨by rw [h3, e], by rw [h4, e]⟩
end TT
namespace TT
open Go
def elB (n : GNode) : Bool := (spec_l5One n).getD false
theorem el_b (n : GNode) (hs : n.sz ≤ 4000000) (hk : eqI n.Kind 1 = true) : spec_l5One n = some (elB n) ∧ ∀ (d : Int) (b : Bool), geI d 7 = false → impl_kidsOk n (addI d 1) = some b → impl_partOk n d = some (elB n && b) := by
 have hsz := hs
 rw [GNode.sz_eq] at hs
 obtain ⟨ab, a1, a2⟩ := attrs_all n (by omega) (fun x hx => by have := szs_mem GAttr.sz hx; omega)
 obtain ⟨d1, d2⟩ := decls_b n.Decls (by omega) (fun x hx => by have := szs_mem GDecl.sz hx; omega)
 have e1 : spec_l5One n = some (preB n.Pre && (plainB n.Local && (eqS n.Text ⟨#[]⟩ && (uriB n.Uri n.Pre && (declsB n.Decls && (ab && leI (lenL n.Attrs) 5)))))) := by
  rw [spec_l5One, hk, (pre_b n.Pre (by omega)).1, (plain_all n.Local (by omega)).1, (text_b n.Uri (by omega)).1, d1, a1, uriB]
  simp only [some_bnd, neS_not, if_true, gtI_not]
  cases preB n.Pre <;> cases plainB n.Local <;> cases eqS n.Text ⟨#[]⟩ <;> cases eqS n.Pre ⟨#[]⟩ <;> cases eqS n.Uri ⟨#[]⟩ <;> cases textB n.Uri <;> cases leI (lenS n.Uri) 40 <;> cases declsB n.Decls <;> cases leI (lenL n.Attrs) 5 <;> cases ab <;> rfl
 have e2 : elB n = (preB n.Pre && (plainB n.Local && (eqS n.Text ⟨#[]⟩ && (uriB n.Uri n.Pre && (declsB n.Decls && (ab && leI (lenL n.Attrs) 5)))))) := by rw [elB, e1]; rfl
 refine ⟨by rw [e1, e2], fun d b hd hb => ?_⟩
 rw [impl_partOk, neI_not, hk, hd, (pre_b n.Pre (by omega)).2, uri_impl _ _ (by omega), (plain_all n.Local (by omega)).2.1, d2, a2, hb, e2]
 simp only [some_bnd, neS_not, Bool.not_true, Bool.false_eq_true, if_false]
 cases preB n.Pre <;> cases plainB n.Local <;> cases eqS n.Text ⟨#[]⟩ <;> cases uriB n.Uri n.Pre <;> cases declsB n.Decls <;> cases leI (lenL n.Attrs) 5 <;> cases ab <;> rfl
def sKid (x : GNode) (deep : Int) : Option Bool := spec_l5One x >>= fun r2 => if r2 then (if eqI x.Kind 1 then (if eqI deep 7 then some false else spec_l5Kids x.Kids (addI deep 1)) else some true) else some false
def isT (x : GNode) : Bool := eqI x.Kind 2
def lastT (pre : List GNode) : Bool := match pre.getLast? with
 | some y => isT y
 | none => false
def noTwo : Bool → List GNode → Bool
 | _, [] => true
 | p, x :: xs => !(p && isT x) && noTwo (isT x) xs
theorem lastT_app (pre : List GNode) (x : GNode) : lastT (pre ++ [x]) = isT x := by simp [lastT]
def pB (d : Int) (k : GNode) : Bool := (impl_partOk k d).getD false
theorem kids_spec (l : List GNode) (hl : l.length ≤ 4000000) (d : Int) (hk : ∀ k ∈ l, sKid k d = some (pB d k)) : ∀ (rest pre : List GNode), pre ++ rest = l → spec_l5Kids_l6 l d pre.length = some (noTwo (lastT pre) rest && rest.all (pB d))
 | [], pre, hp => by rw [spec_l5Kids_l6, end_at hp]; rfl
 | x :: rest, pre, hp => by
  have ih := kids_spec l hl d hk rest (pre ++ [x]) (step_at hp)
  have hx := hk x (by rw [← hp]; simp)
  rw [lastT_app] at ih
  rw [sKid] at hx
  obtain ⟨r2, h2, hx⟩ := Option.bind_eq_some_iff.1 hx
  have hj : r2 = true → spec_l5Kids_j17 l d pre.length x = some (pB d x && (noTwo (isT x) rest && rest.all (pB d))) := fun hr => by
   rw [hr] at hx
   rw [spec_l5Kids_j17, next_at hp (by rw [maxLen_eq]; omega), ih]
   simp only [if_true] at hx
   revert hx
   cases eqI x.Kind 1 with
   | false =>
    simp only [Bool.false_eq_true, if_false]
    intro hx
    rw [← Option.some.inj hx]; rfl
   | true =>
    simp only [if_true]
    cases eqI d 7 with
    | true => simp only [if_true]; intro hx; rw [← Option.some.inj hx]; rfl
    | false =>
     simp only [Bool.false_eq_true, if_false]
     intro hx
     rw [hx]
     simp only [some_bnd]
     cases pB d x <;> rfl
  rw [spec_l5Kids_l6, more_at hp, getI_at hp]
  simp only [if_true, some_bnd, h2]
  cases r2 with
  | false =>
   simp only [Bool.false_eq_true, if_false] at hx ⊢
   have : pB d x = false := (Option.some.inj hx).symm
   simp only [List.all_cons, this, Bool.false_and, Bool.and_false]
  | true =>
   rw [hj rfl]
   simp only [if_true, noTwo, List.all_cons]
   show (if isT x = true then _ else _) = _
   cases hx2 : isT x with
   | false => simp only [Bool.false_eq_true, if_false, Bool.and_false, Bool.not_false, Bool.true_and]; cases pB d x <;> simp
   | true =>
    simp only [if_true, Bool.and_true]
    rcases last_of pre with rfl | ⟨p, y, rfl⟩
    ·have e : gtI ((([] : List GNode).length : Nat) : Int) 0 = false := rfl
     rw [e]
     simp only [Bool.false_eq_true, if_false]
     show _ = some ((!(false) && noTwo true rest) && _)
     cases pB d x <;> simp
    ·obtain ⟨e1, e2⟩ := back_at hp hl
     rw [e1, e2, lastT_app]
     simp only [if_true, some_bnd]
     show (if isT y = true then _ else _) = _
     cases isT y with
     | true => simp
     | false => simp only [Bool.false_eq_true, if_false]; cases pB d x <;> simp
theorem two_impl (l : List GNode) (hl : l.length ≤ 4000000) : ∀ (rest pre : List GNode), pre ++ rest = l → impl_noTwoTexts_l6 l pre.length = some (noTwo (lastT pre) rest)
 | [], pre, hp => by rw [impl_noTwoTexts_l6, end_at hp]; rfl
 | x :: rest, pre, hp => by
  have ih := two_impl l hl rest (pre ++ [x]) (step_at hp)
  rw [lastT_app] at ih
  rw [impl_noTwoTexts_l6, more_at hp, getI_at hp, next_at hp (by rw [maxLen_eq]; omega), ih]
  simp only [if_true, some_bnd, noTwo]
  rcases last_of pre with rfl | ⟨p, y, rfl⟩
  ·have e : gtI ((([] : List GNode).length : Nat) : Int) 0 = false := rfl
   rw [e]; rfl
  ·obtain ⟨e1, e2⟩ := back_at hp hl
   rw [e1, e2, lastT_app]
   simp only [if_true, some_bnd]
   show (if isT x = true then (if isT y = true then _ else _) else _) = _
   cases isT x <;> cases isT y <;> rfl
theorem idx_impl (l : List GNode) (hl : l.length ≤ 4000000) (d : Int) (hk : ∀ k ∈ l, impl_partOk k d = some (pB d k)) : ∀ (rest pre : List GNode), pre ++ rest = l → ∃ r, slices_IndexFunc_Node_kidsOk_1_l6 l pre.length d = some (r, d) ∧ geI r 0 = !rest.all (pB d)
 | [], pre, hp => ⟨-1, by rw [slices_IndexFunc_Node_kidsOk_1_l6, end_at hp]; rfl, rfl⟩
 | x :: rest, pre, hp => by
  obtain ⟨r, h1, h2⟩ := idx_impl l hl d hk rest (pre ++ [x]) (step_at hp)
  rw [slices_IndexFunc_Node_kidsOk_1_l6, more_at hp, getI_at hp, next_at hp (by rw [maxLen_eq]; omega)]
  simp only [if_true, some_bnd, List.all_cons, impl_kidsOk_1, hk x (by rw [← hp]; simp)]
  cases pB d x with
  | true => exact ⟨r, h1, by rw [h2]; rfl⟩
  | false => exact ⟨pre.length, rfl, by rw [geI_t (by omega)]; rfl⟩
def kidsB (d : Int) (l : List GNode) : Bool := noTwo false l && l.all (pB d)
theorem kids_impl (n : GNode) (hl : n.Kids.length ≤ 4000000) (d : Int) (hk : ∀ k ∈ n.Kids, impl_partOk k d = some (pB d k)) : impl_kidsOk n d = some (kidsB d n.Kids) := by
 have h1 : impl_noTwoTexts n.Kids = some (noTwo false n.Kids) := by rw [impl_noTwoTexts]; exact two_impl n.Kids hl n.Kids [] rfl
 obtain ⟨r, h2, h3⟩ := idx_impl n.Kids hl d hk n.Kids [] rfl
 have h2' : slices_IndexFunc_Node_kidsOk_1_l6 n.Kids 0 d = some (r, d) := h2
 rw [impl_kidsOk, h1, slices_ContainsFunc_Node_kidsOk_1, slices_IndexFunc_Node_kidsOk_1, h2']
 simp only [some_bnd, h3, Bool.not_not, kidsB]
 cases noTwo false n.Kids <;> rfl
theorem part_all : ∀ n : GNode, n.sz ≤ 1048576 → ∀ d : Nat, d ≤ 7 → impl_partOk n d = some (pB d n) ∧ sKid n d = some (pB d n) := by
 refine GNode.ind' fun n ih hs d hd => ?_
 have h : ∃ b, impl_partOk n d = some b ∧ sKid n d = some b := by
  have hsz := hs
  rw [GNode.sz_eq] at hs
  cases hk : eqI n.Kind 1 with
  | false =>
   obtain ⟨l1, l2⟩ := leaf_b n (by omega) hk
   refine ⟨leafB n, ?_, ?_⟩
   ·rw [impl_partOk, neI_not, hk, l2]; rfl
   ·rw [sKid, l1, hk]
    cases leafB n <;> rfl
  | true =>
   obtain ⟨e1, e2⟩ := el_b n (by omega) hk
   by_cases h7 : d = 7
   ·subst h7
    refine ⟨false, ?_, ?_⟩
    ·rw [impl_partOk, neI_not, hk]; rfl
    ·rw [sKid, e1, hk]
     have : eqI ((7 : Nat) : Int) 7 = true := rfl
     rw [this]
     cases elB n <;> rfl
   ·have hadd : addI (d : Int) 1 = ((d + 1 : Nat) : Int) := by rw [addI_eq (by omega) (by omega)]; omega
    have hkid : ∀ k ∈ n.Kids, impl_partOk k ((d + 1 : Nat) : Int) = some (pB ((d + 1 : Nat) : Int) k) ∧ sKid k ((d + 1 : Nat) : Int) = some (pB ((d + 1 : Nat) : Int) k) := fun k hk => ih k hk (by have := szs_mem GNode.sz hk; omega) (d + 1) (by omega)
    have k1 := kids_impl n (by omega) _ fun k hk => (hkid k hk).1
    have k2 : spec_l5Kids n.Kids ((d + 1 : Nat) : Int) = some (kidsB ((d + 1 : Nat) : Int) n.Kids) := by
     rw [spec_l5Kids]
     exact kids_spec n.Kids (by omega) _ (fun k hk => (hkid k hk).2) n.Kids [] rfl
    refine ⟨elB n && kidsB ((d + 1 : Nat) : Int) n.Kids, e2 d _ (geI_f (by omega)) (by rw [hadd]; exact k1), ?_⟩
    rw [sKid, e1, hk, eqI_f (show (d : Int) ≠ 7 by omega), hadd, k2]
    cases elB n <;> rfl
 obtain ⟨b, h1, h2⟩ := h
 have e : pB d n = b := by rw [pB, h1]; rfl
 exact ⟨by rw [h1, e], by rw [h2, e]⟩
theorem kids_all (l : List GNode) (hl : l.length ≤ 4000000) (hs : ∀ k ∈ l, k.sz ≤ 1048576) (d : Nat) (hd : d ≤ 7) : spec_l5Kids l d = some (kidsB d l) := by
 rw [spec_l5Kids]
 exact kids_spec l hl _ (fun k hk => (part_all k (hs k hk) d hd).2) l [] rfl
theorem kidsI_all (n : GNode) (hs : n.sz ≤ 1048576) (d : Nat) (hd : d ≤ 7) : impl_kidsOk n d = some (kidsB d n.Kids) := by
 rw [GNode.sz_eq] at hs
 exact kids_impl n (by omega) _ fun k hk => (part_all k (by have := szs_mem GNode.sz hk; omega) d hd).1
theorem cnt_loop (n : GNode) (hl : n.Kids.length ≤ 4000000) (hk : ∀ k ∈ n.Kids, ∃ c : Nat, spec_CountOf k = some (c : Int) ∧ impl_CountOf k = some (c : Int) ∧ c ≤ 1 + k.sz) : ∀ (rest pre : List GNode) (a : Nat), pre ++ rest = n.Kids → a + rest.length + szs GNode.sz rest ≤ 100000000 → ∃ c : Nat, spec_CountOf_l8 a pre.length n = some (c : Int) ∧ impl_CountOf_l8 a n pre.length = some (c : Int) ∧ c ≤ a + rest.length + szs GNode.sz rest
 | [], pre, a, hp, hb => ⟨a, by rw [spec_CountOf_l8, end_at hp]; rfl, by rw [impl_CountOf_l8, end_at hp]; rfl, by omega⟩
 | x :: rest, pre, a, hp, hb => by
  obtain ⟨c, h1, h2, h3⟩ := hk x (by rw [← hp]; simp)
  rw [szs_cons, List.length_cons] at hb
  obtain ⟨q, g1, g2, g3⟩ := cnt_loop n hl hk rest (pre ++ [x]) (a + c) (step_at hp) (by omega)
  have e : addI (a : Int) (c : Int) = ((a + c : Nat) : Int) := by rw [addI_eq (by omega) (by omega)]; omega
  refine ⟨q, ?_, ?_, by rw [szs_cons, List.length_cons]; omega⟩
  ·rw [spec_CountOf_l8, more_at hp, getI_at hp, next_at hp (by rw [maxLen_eq]; omega)]
   simp only [if_true, some_bnd, h1, e]
   exact g1
  ·rw [impl_CountOf_l8, more_at hp, getI_at hp, next_at hp (by rw [maxLen_eq]; omega)]
   simp only [if_true, some_bnd, h2, e]
   exact g2
theorem cnt_all : ∀ n : GNode, n.sz ≤ 1048576 → ∃ c : Nat, spec_CountOf n = some (c : Int) ∧ impl_CountOf n = some (c : Int) ∧ c ≤ 1 + n.sz := by
 refine GNode.ind' fun n ih hs => ?_
 have hz := GNode.sz_eq n
 rw [hz] at hs
 obtain ⟨c, h1, h2, h3⟩ := cnt_loop n (by omega) (fun k hk => ih k hk (by have := szs_mem GNode.sz hk; omega)) n.Kids [] (1 + n.Attrs.length) rfl (by omega)
 have e : addI 1 (lenL n.Attrs) = ((1 + n.Attrs.length : Nat) : Int) := by rw [addI_eq (by simp only [lenL]; omega) (by simp only [lenL]; omega)]; simp only [lenL]; omega
 exact ⟨c, by rw [spec_CountOf, e]; exact h1, by rw [impl_CountOf, e]; exact h2, by omega⟩
def ofK (k : Int) (l : List GNode) : Nat := l.countP fun x => eqI x.Kind k
theorem ofKind_loop (l : List GNode) (k : Int) (hl : l.length ≤ 4000000) : ∀ (rest pre : List GNode) (a : Nat), pre ++ rest = l → a + rest.length ≤ 8000000 → impl_ofKind_l8 k a l pre.length = some ((a + ofK k rest : Nat) : Int)
 | [], pre, a, hp, hb => by rw [impl_ofKind_l8, end_at hp]; rfl
 | x :: rest, pre, a, hp, hb => by
  rw [List.length_cons] at hb
  rw [impl_ofKind_l8, more_at hp, getI_at hp, next_at hp (by rw [maxLen_eq]; omega)]
  simp only [if_true, some_bnd]
  cases hx : eqI x.Kind k with
  | true =>
   have e : addI (a : Int) 1 = ((a + 1 : Nat) : Int) := by rw [addI_eq (by omega) (by omega)]; omega
   rw [e, if_pos rfl, ofKind_loop l k hl rest (pre ++ [x]) (a + 1) (step_at hp) (by omega)]
   simp only [ofK, List.countP_cons, hx, if_true]
   congr 2; omega
  | false =>
   simp only [Bool.false_eq_true, if_false]
   rw [ofKind_loop l k hl rest (pre ++ [x]) a (step_at hp) (by omega)]
   simp only [ofK, List.countP_cons, hx, Bool.false_eq_true, if_false, Nat.add_zero]
theorem ofKind_all (l : List GNode) (k : Int) (hl : l.length ≤ 4000000) : impl_ofKind l k = some (ofK k l : Int) := by
 rw [impl_ofKind]
 have := ofKind_loop l k hl l [] 0 rfl (by omega)
 simpa using this
def bareB (n : GNode) : Bool := eqS n.Pre ⟨#[]⟩ && (eqS n.Local ⟨#[]⟩ && (eqS n.Uri ⟨#[]⟩ && (eqS n.Text ⟨#[]⟩ && (eqI (lenL n.Decls) 0 && eqI (lenL n.Attrs) 0))))
theorem docs_loop (n : GNode) (hs : n.sz ≤ 1048576) : ∀ (rest pre : List GNode) (a : Nat), pre ++ rest = n.Kids → a + rest.length ≤ 8000000 → spec_NodeOk_l24 a pre.length n = some (eqI (ofK 2 rest : Int) 0 && (eqI ((a + ofK 1 rest : Nat) : Int) 1 && (bareB n && kidsB 0 n.Kids)))
 | [], pre, a, hp, hb => by
  have hk := kids_all n.Kids (by rw [GNode.sz_eq] at hs; omega) (fun k hk => by rw [GNode.sz_eq] at hs; have := szs_mem GNode.sz hk; omega) 0 (by omega)
  have hk' : spec_l5Kids n.Kids 0 = some (kidsB 0 n.Kids) := hk
  rw [spec_NodeOk_l24, end_at hp, hk', bareB]
  simp only [Bool.false_eq_true, if_false, some_bnd, ofK, List.countP_nil, Nat.add_zero]
  show _ = some (true && _)
  cases eqI (a : Int) 1 <;> cases eqS n.Pre ⟨#[]⟩ <;> cases eqS n.Local ⟨#[]⟩ <;> cases eqS n.Uri ⟨#[]⟩ <;> cases eqS n.Text ⟨#[]⟩ <;> cases eqI (lenL n.Decls) 0 <;> cases eqI (lenL n.Attrs) 0 <;> rfl
 | x :: rest, pre, a, hp, hb => by
  have hl : n.Kids.length ≤ 4000000 := by rw [GNode.sz_eq] at hs; omega
  rw [List.length_cons] at hb
  have hj : ∀ q : Nat, q + rest.length ≤ 8000000 → spec_NodeOk_j33 q pre.length n = some (!isT x && (eqI (ofK 2 rest : Int) 0 && (eqI ((q + ofK 1 rest : Nat) : Int) 1 && (bareB n && kidsB 0 n.Kids)))) := fun q hq => by
   rw [spec_NodeOk_j33, getI_at hp, next_at hp (by rw [maxLen_eq]; omega), docs_loop n hs rest (pre ++ [x]) q (step_at hp) hq]
   simp only [some_bnd]
   show (if isT x = true then _ else _) = _
   cases isT x <;> rfl
  have ht : eqI ((ofK 2 (x :: rest) : Nat) : Int) 0 = (!isT x && eqI (ofK 2 rest : Int) 0) := by
   simp only [ofK, List.countP_cons]
   show eqI ((_ + (if isT x = true then 1 else 0) : Nat) : Int) 0 = _
   cases isT x with
   | false => rfl
   | true => rw [eqI_f (by simp only [if_true]; omega)]; rfl
  rw [spec_NodeOk_l24, more_at hp, getI_at hp, ht]
  simp only [if_true, some_bnd]
  cases hx : eqI x.Kind 1 with
  | true =>
   have e : addI (a : Int) 1 = ((a + 1 : Nat) : Int) := by rw [addI_eq (by omega) (by omega)]; omega
   rw [if_pos rfl, e, hj (a + 1) (by omega)]
   simp only [ofK, List.countP_cons, hx, if_true]
   rw [show a + 1 + List.countP (fun x => eqI x.Kind 1) rest = a + (List.countP (fun x => eqI x.Kind 1) rest + 1) by omega, Bool.and_assoc]
  | false =>
   simp only [Bool.false_eq_true, if_false]
   rw [hj a (by omega)]
   simp only [ofK, List.countP_cons, hx, Bool.false_eq_true, if_false, Nat.add_zero, Bool.and_assoc]
def nodeB (n : GNode) : Bool := (impl_NodeOk n).getD false
theorem node_b (n : GNode) (hs : n.sz ≤ 1048576) : spec_NodeOk n = some (nodeB n) ∧ impl_NodeOk n = some (nodeB n) := by
 have h : ∃ c, spec_NodeOk n = some c ∧ impl_NodeOk n = some c := by
  obtain ⟨c, h1, h2, h3⟩ := cnt_all n hs
  have hl : n.Kids.length ≤ 4000000 := by rw [GNode.sz_eq] at hs; omega
  rw [spec_NodeOk, impl_NodeOk, h1, h2]
  simp only [some_bnd]
  cases gtI (c : Int) 60 with
  | true => exact ⟨false, rfl, rfl⟩
  | false =>
   simp only [Bool.false_eq_true, if_false]
   cases neI n.Kind 0 with
   | true =>
    simp only [if_true]
    have h4 := (part_all n hs 0 (by omega)).1
    have h5 := kids_all [n] (by simp) (fun k hk => by rw [List.mem_singleton.1 hk]; exact hs) 0 (by omega)
    have h5' : spec_l5Kids [n] 0 = some (kidsB 0 [n]) := h5
    have h4' : impl_partOk n 0 = some (pB 0 n) := h4
    rw [h4', h5']
    refine ⟨_, rfl, ?_⟩
    simp only [some_bnd, kidsB, noTwo, List.all_cons, List.all_nil, Bool.false_and, Bool.not_false, Bool.true_and, Bool.and_true]
   | false =>
    simp only [Bool.false_eq_true, if_false]
    have h6 := docs_loop n hs n.Kids [] 0 rfl (by omega)
    have h6' : spec_NodeOk_l24 0 0 n = some (eqI (ofK 2 n.Kids : Int) 0 && (eqI ((0 + ofK 1 n.Kids : Nat) : Int) 1 && (bareB n && kidsB 0 n.Kids))) := h6
    have h7 : impl_kidsOk n 0 = some (kidsB 0 n.Kids) := kidsI_all n hs 0 (by omega)
    rw [h6', Nat.zero_add, bareB, impl_NodeOk_j18, impl_NodeOk_j18, ofKind_all _ _ hl, ofKind_all _ _ hl, h7]
    simp only [some_bnd, Bool.false_eq_true, if_false]
    cases eqI (ofK 2 n.Kids : Int) 0 <;> cases eqI (ofK 1 n.Kids : Int) 1 <;> cases eqS n.Pre ⟨#[]⟩ <;> cases eqS n.Local ⟨#[]⟩ <;> cases eqS n.Uri ⟨#[]⟩ <;> cases eqS n.Text ⟨#[]⟩ <;> cases eqI (lenL n.Decls) 0 <;> cases eqI (lenL n.Attrs) 0 <;> exact ⟨_, rfl, rfl⟩
 obtain ⟨c, h3, h4⟩ := h
 have e : nodeB n = c := by rw [nodeB, h4]; rfl
 exact ⟨by rw [h3, e], by rw [h4, e]⟩
end TT
namespace TT
open Go
def prs (l : List GDecl) : List (ByteArray × ByteArray) := l.map fun x => (x.Pre, x.Uri)
theorem spaceL_app (l : List (ByteArray × ByteArray)) (x : ByteArray × ByteArray) (p : ByteArray) : spaceL (l ++ [x]) p = if decide (x.1 = p) then (x.2, true) else spaceL l p := by
 simp only [spaceL, List.reverse_append, List.reverse_cons, List.reverse_nil, List.nil_append, List.cons_append, List.find?_cons]
 cases decide (x.1 = p) <;> rfl
theorem eqS_dec (x y : ByteArray) : eqS x y = decide (x = y) := by
 rw [Bool.eq_iff_iff, eqS_iff, decide_eq_true_iff]
theorem space_loop (l : List GDecl) (p : ByteArray) (hl : l.length ≤ 4000000) : ∀ k, k ≤ l.length → spec_SpaceOf_l6 l p ((k : Int) - 1) = some (spaceL (prs (l.take k)) p)
 | 0, _ => by
  rw [spec_SpaceOf_l6, geI_f (by omega)]
  simp only [Bool.false_eq_true, if_false, List.take_zero, prs, List.map_nil]
  rw [eqS_dec]; rfl
 | k + 1, h => by
  have e : (((k + 1 : Nat) : Int) - 1) = (k : Int) := by omega
  have hx : l[k]? = some (l[k]'(by omega)) := List.getElem?_eq_getElem (by omega)
  have hg : getI l (k : Int) = some (l[k]'(by omega)) := by
   unfold getI
   rw [if_pos (by omega)]
   simp
  have ih := space_loop l p hl k (by omega)
  rw [spec_SpaceOf_l6, e, geI_t (by omega), hg, List.take_add_one, hx, subI_eq (by omega) (by omega), ih]
  simp only [if_true, some_bnd, Option.toList_some, prs, List.map_append, List.map_cons, List.map_nil]
  rw [spaceL_app, eqS_dec]
  cases decide ((l[k]'(by omega)).Pre = p) <;> rfl
theorem space_spec (l : List GDecl) (p : ByteArray) (hl : l.length ≤ 4000000) : spec_SpaceOf l p = some (spaceL (prs l) p) := by
 have e : subI (lenL l) 1 = ((l.length : Int) - 1) := subI_eq (by simp only [lenL]; omega) (by simp only [lenL]; omega)
 rw [spec_SpaceOf, e, space_loop l p hl l.length (Nat.le_refl _), List.take_length]
theorem inner_spec (l m : List GDecl) (hl : l.length + m.length ≤ 4000000) : spec_Inner l m = some (l ++ m) := by
 rw [spec_Inner, room_ok (by omega) (by omega) (by omega), room_ok (by omega) (by omega) (by omega)]
 simp
theorem pairs_prs (l : List GDecl) : pairsOf (l.map GDecl.row) = some (prs l) := by
 induction l with
 | nil => rfl
 | cons x l ih =>
  show (pairsOf (l.map GDecl.row)).map _ = _
  rw [ih]; rfl
def ats (l : List GAttr) : List (ByteArray × ByteArray) := l.map fun x => (x.Pre, x.Uri)
theorem atts_ats (l : List GAttr) : attsOf (l.map GAttr.row) = some (ats l) := by
 induction l with
 | nil => rfl
 | cons x l ih =>
  show (attsOf (l.map GAttr.row)).map _ = _
  rw [ih]; rfl
theorem fits_kids (n : GNode) (own : List GDecl) (hl : n.Kids.length ≤ 4000000) (hk : ∀ k ∈ n.Kids, ∃ b, spec_FitsIn k own = some b ∧ fitsR (GNode.row false k) (prs own) = some b) : ∀ (rest pre : List GNode), pre ++ rest = n.Kids → ∃ b, spec_FitsIn_l45 own pre.length n = some b ∧ fitsRs (rest.map (GNode.row false)) (prs own) = some b
 | [], pre, hp => ⟨true, by rw [spec_FitsIn_l45, end_at hp]; rfl, by simp only [List.map_nil, fitsRs]⟩
 | x :: rest, pre, hp => by
  obtain ⟨b, h1, h2⟩ := hk x (by rw [← hp]; simp)
  obtain ⟨c, h3, h4⟩ := fits_kids n own hl hk rest (pre ++ [x]) (step_at hp)
  refine ⟨b && c, ?_, by simp only [List.map_cons, fitsRs, h2, h4]⟩
  rw [spec_FitsIn_l45, more_at hp, getI_at hp, next_at hp (by rw [maxLen_eq]; omega)]
  simp only [if_true, some_bnd, h1, h3]
  cases b <;> rfl
theorem fits_atts (n : GNode) (own : List GDecl) (ho : own.length ≤ 4000000) (hl : n.Attrs.length ≤ 4000000) (c : Bool) (hc : spec_FitsIn_l45 own 0 n = some c) : ∀ (rest pre : List GAttr), pre ++ rest = n.Attrs → spec_FitsIn_l22 own pre.length n = some ((ats rest).all (attB (prs own)) && c)
 | [], pre, hp => by rw [spec_FitsIn_l22, end_at hp]; exact hc
 | x :: rest, pre, hp => by
  have ih := fits_atts n own ho hl c hc rest (pre ++ [x]) (step_at hp)
  rw [spec_FitsIn_l22, more_at hp, getI_at hp, next_at hp (by rw [maxLen_eq]; omega), ih]
  simp only [if_true, some_bnd, space_spec _ _ ho, neS_not, ats, List.map_cons, List.all_cons, attB, meansB, eqS_dec]
  cases decide (x.Pre = ⟨#[]⟩) <;> cases (spaceL (prs own) x.Pre).2 <;> cases decide ((spaceL (prs own) x.Pre).1 = x.Uri) <;> simp
theorem fits_all : ∀ n : GNode, n.sz ≤ 1048576 → ∀ l : List GDecl, l.length + n.sz ≤ 4000000 → ∃ b, spec_FitsIn n l = some b ∧ fitsR (GNode.row false n) (prs l) = some b := by
 refine GNode.ind' fun n ih hs l hb => ?_
 have hz := GNode.sz_eq n
 rw [hz] at hs hb
 have ho : (l ++ n.Decls).length ≤ 4000000 := by rw [List.length_append]; omega
 obtain ⟨c, h1, h2⟩ := fits_kids n (l ++ n.Decls) (by omega) (fun k hk => ih k hk (by have := szs_mem GNode.sz hk; omega) (l ++ n.Decls) (by rw [List.length_append]; have := szs_mem GNode.sz hk; omega)) n.Kids [] rfl
 have h3 := fits_atts n (l ++ n.Decls) ho (by omega) c h1 n.Attrs [] rfl
 have h3' : spec_FitsIn_j4 (l ++ n.Decls) n = some ((ats n.Attrs).all (attB (prs (l ++ n.Decls))) && c) := by rw [spec_FitsIn_j4]; exact h3
 have hp : prs l ++ prs n.Decls = prs (l ++ n.Decls) := by simp [prs]
 have hpl : (prs l ++ prs n.Decls).length ≤ 4000000 := by rw [hp, prs, List.length_map]; exact ho
 refine ⟨((decide (n.Kind ≠ 1) || meansB (prs (l ++ n.Decls)) n.Pre n.Uri) && (ats n.Attrs).all (attB (prs (l ++ n.Decls)))) && c, ?_, ?_⟩
 rotate_left
 ·rw [GNode.row_eq, fitsR, pairs_prs, atts_ats]
  rw [hp] at hpl
  simp only [hp, h2]
  rw [if_pos hpl]
 ·rw [spec_FitsIn, inner_spec _ _ (by rw [List.length_append] at ho; exact ho)]
  simp only [some_bnd, space_spec _ _ ho, h3', neS_not, meansB, eqS_dec]
  cases hk : eqI n.Kind 1 with
  | false =>
   have hne : decide (n.Kind ≠ 1) = true := decide_eq_true fun e => by rw [eqI_t e] at hk; cases hk
   rw [hne]
   simp
  | true =>
   have hne : decide (n.Kind ≠ 1) = false := decide_eq_false fun e => e (eqI_iff.1 hk)
   rw [hne]
   cases (spaceL (prs (l ++ n.Decls)) n.Pre).2 <;> cases decide ((spaceL (prs (l ++ n.Decls)) n.Pre).1 = n.Uri) <;> simp
def fitB (n : GNode) (l : List GDecl) : Bool := (spec_FitsIn n l).getD false
theorem fit_b (n : GNode) (l : List GDecl) (hs : n.sz ≤ 1048576) (hb : l.length + n.sz ≤ 4000000) : spec_FitsIn n l = some (fitB n l) ∧ impl_FitsIn n l = some (fitB n l) := by
 obtain ⟨b, h1, h2⟩ := fits_all n hs l hb
 have e : fitB n l = b := by rw [fitB, h1]; rfl
 exact ⟨by rw [h1, e], by rw [impl_FitsIn, e]; exact h2⟩
end TT
namespace TT
open Go
def treeB (n : GNode) : Bool := eqI n.Kind 0 && (nodeB n && fitB n [])
theorem tree_b (n : GNode) (hs : n.sz ≤ 1048576) : spec_TreeOk n = some (treeB n) ∧ impl_TreeOk n = some (treeB n) := by
 obtain ⟨n1, n2⟩ := node_b n hs
 obtain ⟨f1, f2⟩ := fit_b n [] hs (by simp; omega)
 constructor
 ·rw [spec_TreeOk, n1, f1, treeB]
  simp only [some_bnd]
  cases eqI n.Kind 0 <;> cases nodeB n <;> rfl
 ·rw [impl_TreeOk, n2, f2, treeB]
  simp only [some_bnd]
  cases eqI n.Kind 0 <;> cases nodeB n <;> rfl
end TT
namespace TT
open Go
def walkB (w : GWalk) : Bool := (nodeAtR w.Tre w.Path).2 && treeB w.Tre
theorem walk_b (w : GWalk) (hs : w.sz ≤ 1048576) : spec_WalkOk w = some (walkB w) ∧ impl_WalkOk w = some (walkB w) := by
 rw [GWalk.sz_eq] at hs
 obtain ⟨t1, t2⟩ := tree_b w.Tre (by omega)
 constructor
 ·rw [spec_WalkOk, nodeAt_spec _ _ (by omega) (by omega), t1, walkB]
  simp only [some_bnd]
  cases (nodeAtR w.Tre w.Path).2 <;> rfl
 ·rw [impl_WalkOk, nodeAt_impl _ _ (by omega) (by omega), t2, walkB]
  simp only [some_bnd]
  cases (nodeAtR w.Tre w.Path).2 <;> rfl
end TT
