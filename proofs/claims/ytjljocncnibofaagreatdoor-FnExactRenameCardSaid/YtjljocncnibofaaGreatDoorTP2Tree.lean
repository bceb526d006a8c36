import Derived.Test.YtjljocncnibofaaGreatDoorTP2Has
import Derived.Test.YtjljocncnibofaaGreatDoorTP0
import Derived.Test.YtjljocncnibofaaGreatDoorTP1
set_option linter.unusedVariables false
set_option linter.unusedSimpArgs false
namespace TT
open Go
def textB (s : ByteArray) : Bool := (spec_TextOk s).getD false
theorem text_b (s : ByteArray) (hs : s.size ≤ 4000000) : spec_TextOk s = some (textB s) ∧ impl_TextOk s = some (textB s) := by
 obtain ⟨b, h1, h2⟩ := text_all s hs
 have e : textB s = b := by rw [textB, h1]; rfl
 exact ⟨by rw [h1, e], by rw [h2, e]⟩
theorem neS_not (x y : ByteArray) : neS x y = !eqS x y := Bool.eq_iff_iff.2 Iff.rfl
theorem neI_not (x y : Int) : neI x y = !eqI x y := Bool.eq_iff_iff.2 Iff.rfl
theorem neB_not (x y : Bool) : neB x y = !eqB x y := Bool.eq_iff_iff.2 Iff.rfl
theorem geI_not (x y : Int) : geI x y = !ltI x y := by
 rw [geI, ltI, Bool.eq_iff_iff]; simp
theorem gtI_not (x y : Int) : gtI x y = !leI x y := by
 rw [gtI, leI, Bool.eq_iff_iff]; simp
theorem pre_all (s : ByteArray) (hs : s.size ≤ 4000000) : ∃ b, spec_l4Xml s = some b ∧ strings_HasPrefix s ⟨#[120, 109, 108]⟩ = some b := by
 have e3 : lenS (⟨#[120, 109, 108]⟩ : ByteArray) = 3 := rfl
 rw [spec_l4Xml, strings_HasPrefix, internal_stringslite_HasPrefix, e3]
 by_cases h : 3 ≤ s.size
 ·have e : subS s 0 3 = some (s.extract 0 3) := by
   unfold subS
   rw [if_pos ⟨by omega, by omega, by omega⟩]; rfl
  rw [geI_t (by simp only [lenS]; omega)]
  simp only [if_true, e, some_bnd]
  exact ⟨_, rfl, rfl⟩
 ·rw [geI_f (by simp only [lenS]; omega)]
  exact ⟨false, rfl, rfl⟩
def preB (s : ByteArray) : Bool := (spec_l5Pre s).getD false
theorem pre_b (s : ByteArray) (hs : s.size ≤ 4000000) : spec_l5Pre s = some (preB s) ∧ impl_preOk s = some (preB s) := by
 obtain ⟨b, h1, h2⟩ := pre_all s hs
 obtain ⟨p1, p2, _⟩ := plain_all s hs
 have h : ∃ c, spec_l5Pre s = some c ∧ impl_preOk s = some c := by
  rw [spec_l5Pre, impl_preOk, p1, p2, h1, h2]
  simp only [some_bnd]
  cases eqS s ⟨#[]⟩ <;> cases plainB s <;> exact ⟨_, rfl, rfl⟩
 obtain ⟨c, h3, h4⟩ := h
 have e : preB s = c := by rw [preB, h3]; rfl
 exact ⟨by rw [h3, e], by rw [h4, e]⟩
def uriB (u p : ByteArray) : Bool := textB u && (leI (lenS u) 40 && (!eqS u ⟨#[]⟩ || eqS p ⟨#[]⟩))
theorem uri_impl (u p : ByteArray) (hu : u.size ≤ 4000000) : impl_uriOk u p = some (uriB u p) := by
 rw [impl_uriOk, (text_b u hu).2, uriB]
 simp only [some_bnd, neS_not]
 cases textB u <;> cases leI (lenS u) 40 <;> cases eqS u ⟨#[]⟩ <;> rfl
def declB (d : GDecl) : Bool := preB d.Pre && uriB d.Uri d.Pre
theorem decl_impl (d : GDecl) (hs : d.sz ≤ 4000000) : impl_DeclOk d = some (declB d) := by
 rw [GDecl.sz_eq] at hs
 rw [impl_DeclOk, (pre_b d.Pre (by omega)).2, uri_impl _ _ (by omega), declB]
 simp only [some_bnd]
 cases preB d.Pre <;> rfl
theorem decl_spec (d : GDecl) (hs : d.sz ≤ 4000000) : spec_DeclOk d = some (declB d) := by
 rw [GDecl.sz_eq] at hs
 obtain ⟨b, h1, h2⟩ := pre_all d.Pre (by omega)
 obtain ⟨p1, p2, _⟩ := plain_all d.Pre (by omega)
 have e : preB d.Pre = (eqS d.Pre ⟨#[]⟩ || (plainB d.Pre && !b)) := by
  have := (pre_b d.Pre (by omega)).1
  rw [spec_l5Pre, p1, h1] at this
  simp only [some_bnd] at this
  revert this
  cases eqS d.Pre ⟨#[]⟩ <;> cases plainB d.Pre <;> intro this <;> simp_all
 rw [spec_DeclOk, spec_DeclOk_j2, p1, h1, (text_b d.Uri (by omega)).1, declB, e, uriB]
 simp only [some_bnd, neS_not]
 cases eqS d.Pre ⟨#[]⟩ <;> cases plainB d.Pre <;> cases b <;> cases eqS d.Uri ⟨#[]⟩ <;> cases textB d.Uri <;> cases leI (lenS d.Uri) 40 <;> rfl
theorem back_at {α : Type} {l pre rest : List α} {x y : α} (h : (pre ++ [y]) ++ x :: rest = l) (hl : l.length ≤ 4000000) : gtI ((pre ++ [y]).length : Int) 0 = true ∧ getI l (subI ((pre ++ [y]).length : Int) 1) = some y := by
 have hlen : (pre ++ [y]).length = pre.length + 1 := by simp
 have hb : pre.length + 1 ≤ l.length := by rw [← h]; simp
 refine ⟨gtI_t (by rw [hlen]; omega), ?_⟩
 have e : subI ((pre ++ [y]).length : Int) 1 = (pre.length : Int) := by
  rw [subI_eq (by omega) (by omega), hlen]; omega
 rw [e]
 exact getI_at (rest := x :: rest) (by rw [← h]; simp)
theorem last_of {α : Type} (pre : List α) : pre = [] ∨ ∃ p y, pre = p ++ [y] := by
 rcases List.eq_nil_or_concat pre with h | ⟨p, y, h⟩
 ·exact .inl h
 ·exact .inr ⟨p, y, by rw [h, List.concat_eq_append]⟩
theorem decls_loop (l : List GDecl) (hl : l.length ≤ 4000000) (hs : ∀ d ∈ l, d.sz ≤ 4000000) : ∀ (rest pre : List GDecl), pre ++ rest = l → ∃ b, spec_DeclsOk_l6 l pre.length = some b ∧ impl_DeclsOk_l6 l pre.length = some b
 | [], pre, hp => ⟨_, by rw [spec_DeclsOk_l6, end_at hp]; rfl, by rw [impl_DeclsOk_l6, end_at hp]; rfl⟩
 | x :: rest, pre, hp => by
  have hx : x.sz ≤ 4000000 := hs x (by rw [← hp]; simp)
  obtain ⟨b, h1, h2⟩ := decls_loop l hl hs rest (pre ++ [x]) (step_at hp)
  rw [spec_DeclsOk_l6, impl_DeclsOk_l6, more_at hp, getI_at hp, next_at hp (by rw [maxLen_eq]; omega)]
  simp only [if_true, some_bnd, decl_spec x hx, decl_impl x hx]
  cases declB x with
  | false => exact ⟨false, rfl, rfl⟩
  | true =>
   simp only [if_true]
   rcases last_of pre with rfl | ⟨p, y, rfl⟩
   ·have e : gtI ((([] : List GDecl).length : Nat) : Int) 0 = false := rfl
    rw [e]
    exact ⟨b, h1, h2⟩
   ·obtain ⟨e1, e2⟩ := back_at hp hl
    rw [e1, e2]
    simp only [if_true, some_bnd]
    cases geS y.Pre x.Pre with
    | true => exact ⟨false, rfl, rfl⟩
    | false => exact ⟨b, h1, h2⟩
def declsB (l : List GDecl) : Bool := (spec_DeclsOk l).getD false
theorem decls_b (l : List GDecl) (hl : l.length ≤ 4000000) (hs : ∀ d ∈ l, d.sz ≤ 4000000) : spec_DeclsOk l = some (declsB l) ∧ impl_DeclsOk l = some (declsB l) := by
 obtain ⟨b, h1, h2⟩ := decls_loop l hl hs l [] rfl
 have h1' : spec_DeclsOk l = some b := h1
 have e : declsB l = b := by rw [declsB, h1']; rfl
 exact ⟨by rw [h1', e], by rw [e]; exact h2⟩
def attrB (a : GAttr) : Bool := (impl_attrOk a).getD false
theorem attr_b (a : GAttr) (hs : a.sz ≤ 4000000) : spec_l5AttrOk a = some (attrB a) ∧ impl_attrOk a = some (attrB a) := by
 rw [GAttr.sz_eq] at hs
 have h : ∃ c, spec_l5AttrOk a = some c ∧ impl_attrOk a = some c := by
  rw [spec_l5AttrOk, spec_l5AttrOk_j2, impl_attrOk, (pre_b a.Pre (by omega)).1, (pre_b a.Pre (by omega)).2, uri_impl _ _ (by omega), (plain_all a.Local (by omega)).1, (plain_all a.Local (by omega)).2.1, (text_b a.Val (by omega)).1, (text_b a.Val (by omega)).2, (text_b a.Uri (by omega)).1, uriB]
  simp only [some_bnd, neS_not, neB_not]
  cases preB a.Pre <;> cases eqS a.Pre ⟨#[]⟩ <;> cases eqS a.Uri ⟨#[]⟩ <;> cases plainB a.Local <;> cases eqS a.Local ⟨#[120, 109, 108, 110, 115]⟩ <;> cases textB a.Val <;> cases textB a.Uri <;> cases leI (lenS a.Uri) 40 <;> exact ⟨_, rfl, rfl⟩
 obtain ⟨c, h3, h4⟩ := h
 have e : attrB a = c := by rw [attrB, h4]; rfl
 exact ⟨by rw [h3, e], by rw [h4, e]⟩
theorem less_all (a b : GAttr) : ∃ c, impl_compareAttrs a b = some c ∧ spec_l5Less a b = some (!geI c 0) := by
 rw [impl_compareAttrs, strings_Compare, strings_Compare, spec_l5Less]
 simp only [some_bnd, neI_not, cmp_eq, geI_not, Bool.not_not]
 have h1 := cmp_lt a.Uri b.Uri
 have h2 := cmp_eq a.Uri b.Uri
 cases he : eqS a.Uri b.Uri with
 | false =>
  refine ⟨_, rfl, ?_⟩
  rw [h1]
  cases ltS a.Uri b.Uri <;> rfl
 | true =>
  refine ⟨_, rfl, ?_⟩
  rw [cmp_lt]
  have : ltS a.Uri b.Uri = false := by
   rw [← h1, ltI_f]
   rw [he] at h2
   have := eqI_iff.1 h2
   omega
  rw [this]
  rfl
theorem attrs_loop (n : GNode) (hl : n.Attrs.length ≤ 4000000) (hs : ∀ d ∈ n.Attrs, d.sz ≤ 4000000) : ∀ (rest pre : List GAttr), pre ++ rest = n.Attrs → ∃ b, spec_l5One_l21 pre.length n = some b ∧ impl_attrsOk_l6 n.Attrs pre.length = some (b && leI (lenL n.Attrs) 5)
 | [], pre, hp => ⟨true, by rw [spec_l5One_l21, end_at hp]; rfl, by rw [impl_attrsOk_l6, end_at hp]; rfl⟩
 | x :: rest, pre, hp => by
  have hx : x.sz ≤ 4000000 := hs x (by rw [← hp]; simp)
  obtain ⟨b, h1, h2⟩ := attrs_loop n hl hs rest (pre ++ [x]) (step_at hp)
  rw [spec_l5One_l21, impl_attrsOk_l6, more_at hp, getI_at hp, next_at hp (by rw [maxLen_eq]; omega)]
  simp only [if_true, some_bnd, (attr_b x hx).1, (attr_b x hx).2]
  cases attrB x with
  | false => exact ⟨false, rfl, rfl⟩
  | true =>
   simp only [if_true]
   rcases last_of pre with rfl | ⟨p, y, rfl⟩
   ·have e : gtI ((([] : List GAttr).length : Nat) : Int) 0 = false := rfl
    rw [e]
    exact ⟨b, h1, h2⟩
   ·obtain ⟨e1, e2⟩ := back_at hp hl
    obtain ⟨c, e3, e4⟩ := less_all y x
    rw [e1, e2]
    simp only [if_true, some_bnd, e3, e4]
    cases geI c 0 with
    | true => exact ⟨false, rfl, rfl⟩
    | false => exact ⟨b, h1, h2⟩
theorem attrs_all (n : GNode) (hl : n.Attrs.length ≤ 4000000) (hs : ∀ d ∈ n.Attrs, d.sz ≤ 4000000) : ∃ b, spec_l5One_j9 n = some b ∧ impl_attrsOk n.Attrs = some (b && leI (lenL n.Attrs) 5) := by
 obtain ⟨b, h1, h2⟩ := attrs_loop n hl hs n.Attrs [] rfl
 exact ⟨b, by rw [spec_l5One_j9]; exact h1, by rw [impl_attrsOk]; exact h2⟩
end TT
namespace TT
open Go
theorem lenL_0 {α : Type} (l : List α) : gtI (lenL l) 0 = !eqI (lenL l) 0 := by
 cases l with
 | nil => rfl
 | cons x l => rw [gtI_t (by simp only [lenL, List.length_cons]; omega), eqI_f (by simp only [lenL, List.length_cons]; omega)]; rfl
theorem suffix_all (s : ByteArray) (hs : s.size ≤ 4000000) : ∃ b, strings_HasSuffix s ⟨#[45]⟩ = some b ∧ (if (eqS s ⟨#[]⟩) then some true else atS s (subI (lenS s) 1) >>= fun x4 => some (neI x4 45)) = some (!b) := by
 have e1 : lenS (⟨#[45]⟩ : ByteArray) = 1 := rfl
 rw [strings_HasSuffix, internal_stringslite_HasSuffix, e1]
 by_cases h : 1 ≤ s.size
 ·have e0 : eqS s ⟨#[]⟩ = false := by
   cases he : eqS s ⟨#[]⟩ with
   | false => rfl
   | true => rw [eqS_iff.1 he] at h; exact absurd h (by decide)
  have e2 : subI (lenS s) 1 = ((s.size - 1 : Nat) : Int) := by rw [subI_eq (by simp only [lenS]; omega) (by simp only [lenS]; omega)]; simp only [lenS]; omega
  have e3 : subS s ((s.size - 1 : Nat) : Int) (lenS s) = some (s.extract (s.size - 1) s.size) := by
   show subS s ((s.size - 1 : Nat) : Int) ((s.size : Nat) : Int) = _
   unfold subS
   rw [if_pos ⟨by omega, by omega, by omega⟩]
   congr 1
  have hd : s.data.toList.drop (s.size - 1) = [s.data.toList[s.size - 1]'(by rw [dlen]; omega)] := by
   rw [List.drop_eq_getElem_cons (by rw [dlen]; omega)]
   congr 1
   exact List.drop_eq_nil_of_le (by rw [dlen]; omega)
  have e4 : (s.extract (s.size - 1) s.size).toList = [s.data.toList[s.size - 1]'(by rw [dlen]; omega)] := by
   rw [ext_list, hd]
   have : s.size - (s.size - 1) = 1 := by omega
   rw [this]; rfl
  have e5 : by' s (s.size - 1) = (s.data.toList[s.size - 1]'(by rw [dlen]; omega)).toNat := by
   show (s.data[s.size - 1]!).toNat = _
   rw [← Array.getElem!_toList, getElem!_pos s.data.toList (s.size - 1) (by rw [dlen]; omega)]
  rw [geI_t (by simp only [lenS]; omega), e0, e2]
  simp only [if_true, e3, some_bnd, Bool.false_eq_true, if_false, atS_by (i := ((s.size - 1 : Nat) : Int)) rfl (show s.size - 1 < s.size by omega), neI_not]
  refine ⟨_, rfl, ?_⟩
  congr 2
  rw [e5, eqS, e4, Bool.eq_iff_iff, eqI_iff, beq_iff_eq, show (⟨#[45]⟩ : ByteArray).toList = [45] from by rw [Lib.toList_data]]
  constructor
  ·intro hh
   have : s.data.toList[s.size - 1]'(by rw [dlen]; omega) = 45 := UInt8.toNat_inj.1 (by have : ((45 : UInt8).toNat : Int) = 45 := rfl; omega)
   rw [this]
  ·intro hh
   have := (List.cons.inj hh).1
   rw [this]; rfl
 ·have hz : s.size = 0 := by omega
  have e0 : eqS s ⟨#[]⟩ = true := eqS_iff.2 (by
   apply toList_inj
   rw [Lib.toList_data, Lib.toList_data]
   have := dlen s
   rw [hz] at this
   rw [List.eq_nil_of_length_eq_zero this])
  rw [geI_f (by simp only [lenS]; omega), e0]
  exact ⟨false, rfl, rfl⟩
theorem blank_all (n : Int) : ∃ b, spec_IsBlank n = some b ∧ impl_IsBlank n = some b := by
 rw [spec_IsBlank, impl_IsBlank]
 cases eqI n 9 <;> cases eqI n 10 <;> cases eqI n 13 <;> exact ⟨_, rfl, rfl⟩
theorem first_all (s : ByteArray) (hs : s.size ≤ 4000000) : ∃ b, (if (eqS s ⟨#[]⟩) then some true else atS s 0 >>= fun x5 => spec_IsBlank (wr .i64 x5) >>= fun r22 => some (!r22)) = some b ∧ (if (eqS s ⟨#[]⟩) then some true else atS s 0 >>= fun x => impl_IsBlank (wr .i64 x) >>= fun r5 => some (!r5)) = some b := by
 cases he : eqS s ⟨#[]⟩ with
 | true => exact ⟨true, rfl, rfl⟩
 | false =>
  have hz : 0 < s.size := by
   rcases Nat.eq_zero_or_pos s.size with h | h
   ·have : s = ⟨#[]⟩ := by
     apply toList_inj
     rw [Lib.toList_data, Lib.toList_data]
     have := dlen s
     rw [h] at this
     rw [List.eq_nil_of_length_eq_zero this]
    rw [this] at he
    rw [eqS_self] at he
    cases he
   ·exact h
  obtain ⟨b, h1, h2⟩ := blank_all (wr .i64 ((by' s 0 : Nat) : Int))
  have e : atS s 0 = some ((by' s 0 : Nat) : Int) := atS_by (i := 0) (k := 0) rfl hz
  simp only [Bool.false_eq_true, if_false, e, some_bnd, h1, h2]
  exact ⟨_, rfl, rfl⟩
end TT
