import Derived.Test.YtejfgkcjhmmjkaaGreatDoorTP5Num
import Derived.Test.YtejfgkcjhmmjkaaGreatDoorTP2Has
import Derived.Lib.CutLaws
set_option linter.unusedVariables false
set_option linter.unusedSimpArgs false
namespace TT
open Go
theorem text_any (s : ByteArray) : ∃ b, spec_TextOk s = some b ∧ impl_TextOk s = some b := by
 rw [spec_TextOk, impl_TextOk]
 by_cases h : s.size ≤ 600
 ·obtain ⟨b, h1, h2⟩ := signs_loop s (by omega) s.size 0 (Nat.zero_le _) (by omega)
  have h1' : spec_l1Signs s = some b := by rw [spec_l1Signs]; exact h1
  have h2' : impl_signsOk s = some b := by rw [impl_signsOk]; exact h2
  rw [leI_t (by simp only [lenS]; omega)]
  exact ⟨b, by simp [h1', some_bnd], by simp [h2', some_bnd]⟩
 ·rw [leI_f (by simp only [lenS]; omega)]
  exact ⟨false, rfl, rfl⟩
theorem cat_ok {x y : ByteArray} (h : x.size + y.size ≤ 4000000000) : catS x y = some (x ++ y) := by unfold catS; rw [if_pos (by omega)]
theorem app_size (x y : ByteArray) : (x ++ y).size = x.size + y.size := ByteArray.size_append
theorem ext_size (s : ByteArray) (i k : Nat) (h : k ≤ s.size) : (s.extract i k).size = k - i := by
 rw [ByteArray.size_extract]; omega
theorem byteArray_data {x y : ByteArray} (h : x.data.toList = y.data.toList) : x = y := by
 cases x; cases y
 congr 1
 exact Array.toList_inj.1 h
theorem ext_data (s : ByteArray) (i k : Nat) : (s.extract i k).data.toList = (s.data.toList.drop i).take (k - i) := by
 rw [← Lib.toList_data, ext_list]
theorem ext_ext (s : ByteArray) (p a b : Nat) (h : p + b ≤ s.size) : (s.extract p s.size).extract a b = s.extract (p + a) (p + b) := by
 apply byteArray_data
 rw [ext_data, ext_data, ext_data, List.drop_take, List.take_take, List.drop_drop]
 congr 1
 omega
theorem ext_app (s : ByteArray) {a b c : Nat} (h1 : a ≤ b) (h2 : b ≤ c) : s.extract a b ++ s.extract b c = s.extract a c := by
 apply byteArray_data
 rw [ByteArray.data_append, Array.toList_append, ext_data, ext_data, ext_data]
 have : s.data.toList.drop b = (s.data.toList.drop a).drop (b - a) := by rw [List.drop_drop]; congr 1; omega
 rw [this, show c - a = (b - a) + (c - b) by omega, List.take_add]
theorem by_ext (s : ByteArray) (p j : Nat) : by' (s.extract p s.size) j = by' s (p + j) := by
 unfold by'
 rw [ext_get]
theorem sub_ok (s : ByteArray) {a b : Nat} (h1 : a ≤ b) (h2 : b ≤ s.size) : subS s (a : Int) (b : Int) = some (s.extract a b) := by
 unfold subS
 rw [if_pos ⟨by omega, by omega, by omega⟩]
 simp
theorem firstB (s : ByteArray) (c : Nat) : ∀ n, (∀ j, j < n → by' s j ≠ c) ∨ ∃ k, k < n ∧ by' s k = c ∧ ∀ j, j < k → by' s j ≠ c
 | 0 => .inl fun j h => by omega
 | n + 1 => by
  rcases firstB s c n with h | ⟨k, h1, h2, h3⟩
  ·by_cases hn : by' s n = c
   ·exact .inr ⟨n, Nat.lt_succ_self _, hn, h⟩
   ·refine .inl fun j hj => ?_
    by_cases e : j = n
    ·rw [e]; exact hn
    ·exact h j (by omega)
  ·exact .inr ⟨k, by omega, h2, h3⟩
theorem cut1 (c : UInt8) (s : ByteArray) : ((∀ j, j < s.size → by' s j ≠ c.toNat) ∧ cutB s ⟨#[c]⟩ = (s, ⟨#[]⟩, false)) ∨
  ∃ k, k < s.size ∧ by' s k = c.toNat ∧ (∀ j, j < k → by' s j ≠ c.toNat) ∧ cutB s ⟨#[c]⟩ = (s.extract 0 k, s.extract (k + 1) s.size, true) := by
 have hlen : s.data.toList.length = s.size := Array.length_toList
 have hby : ∀ j (h : j < s.size), by' s j = (s.data.toList[j]'(by omega)).toNat := fun j h => by
  show ((s.data[j]!).toNat) = _
  rw [Array.getElem_toList, getElem!_pos s.data j h]
 have hocc : ∀ j, j < s.size → Lib.occAt s.data.toList [c] j = decide (by' s j = c.toNat) := fun j h => by
  unfold Lib.occAt
  rw [List.drop_eq_getElem_cons (by omega : j < s.data.toList.length)]
  simp only [List.isPrefixOf, Bool.and_true]
  rw [hby j h, Bool.eq_iff_iff, beq_iff_eq, decide_eq_true_iff]
  constructor
  ·intro e; rw [← e]
  ·intro e; exact (UInt8.toNat_inj.1 e).symm
 have hend : ∀ j, s.size ≤ j → Lib.occAt s.data.toList [c] j = false := fun j h => by
  unfold Lib.occAt
  rw [List.drop_eq_nil_of_le (by omega)]; rfl
 rcases firstB s c.toNat s.size with h | ⟨k, h1, h2, h3⟩
 ·refine .inl ⟨h, ?_⟩
  have hi : Lib.indexB s ⟨#[c]⟩ = -1 := Lib.index_none fun j hj => by
   by_cases hjs : j < s.size
   ·rw [hocc j hjs]; simp [h j hjs]
   ·exact hend j (by omega)
  obtain ⟨c1, c2, c3⟩ := Lib.cutB_miss s ⟨#[c]⟩ hi
  exact Prod.ext c1 (Prod.ext c2 c3)
 ·refine .inr ⟨k, h1, h2, h3, ?_⟩
  have hi : Lib.indexB s ⟨#[c]⟩ = k := Lib.index_first (by omega) (by rw [hocc k h1]; simp [h2]) fun j hj => by rw [hocc j (by omega)]; simp [h3 j hj]
  obtain ⟨c1, c2, c3⟩ := Lib.cutB_hit s ⟨#[c]⟩ k hi
  exact Prod.ext c1 (Prod.ext c2 c3)
theorem pre1 (s : ByteArray) (hs : s.size ≤ 4000000) : strings_CutPrefix s ⟨#[35]⟩ = some (if 1 ≤ s.size ∧ by' s 0 = 35 then (s.extract 1 s.size, true) else (s, false)) := by
 rw [strings_CutPrefix, internal_stringslite_CutPrefix, internal_stringslite_HasPrefix]
 have hp : lenS (⟨#[35]⟩ : ByteArray) = ((1 : Nat) : Int) := rfl
 rw [hp]
 by_cases h : 1 ≤ s.size
 ·have hb : eqS (s.extract 0 1) ⟨#[35]⟩ = decide (by' s 0 = 35) := by
   rw [Bool.eq_iff_iff, eqS_iff, decide_eq_true_iff]
   constructor
   ·intro e
    have := by_ext s 0 0
    have e2 : by' (s.extract 0 1) 0 = by' s 0 := by
     unfold by'
     congr 1
     show (s.extract 0 1).data[0]! = s.data[0]!
     have h1 : 0 < (s.extract 0 1).data.size := by show 0 < (s.extract 0 1).size; rw [ext_size s 0 1 h]; omega
     have h2 : 0 < s.data.size := h
     rw [getElem!_pos _ 0 h1, getElem!_pos _ 0 h2]
     have e3 := ext_data s 0 1
     have e4 : (s.extract 0 1).data.toList[0]? = s.data.toList[0]? := by rw [e3]; simp
     rw [Array.getElem?_toList, Array.getElem?_toList, Array.getElem?_eq_getElem h1, Array.getElem?_eq_getElem h2] at e4
     exact Option.some.inj e4
    rw [← e2, e]
    rfl
   ·intro e
    apply byteArray_data
    rw [ext_data]
    have h2 : 0 < s.data.toList.length := by rw [dlen]; omega
    have e5 : s.data.toList = s.data.toList[0] :: s.data.toList.drop 1 := by
     conv => lhs; rw [← List.drop_zero (l := s.data.toList), List.drop_eq_getElem_cons h2]
    have e6 : s.data.toList[0] = 35 := by
     apply UInt8.toNat_inj.1
     have h2' : 0 < s.data.size := h
     have : (s.data[0]!).toNat = 35 := e
     rw [getElem!_pos _ 0 h2'] at this
     rw [Array.getElem_toList]
     exact this
    rw [e5, e6]
    rfl
  rw [geI_t (by simp only [lenS]; omega), show (0 : Int) = ((0 : Nat) : Int) from rfl, sub_ok s (by omega) h]
  simp only [if_true, some_bnd, hb]
  by_cases h0 : by' s 0 = 35
  ·have es : subS s ((1 : Nat) : Int) (lenS s) = some (s.extract 1 s.size) := sub_ok s h (Nat.le_refl _)
   rw [decide_eq_true h0, if_pos rfl, es, if_pos ⟨h, h0⟩]; rfl
  ·rw [decide_eq_false h0, if_neg Bool.false_ne_true, if_neg (by omega)]; rfl
 ·rw [geI_f (by simp only [lenS]; omega), if_neg Bool.false_ne_true, if_neg (by omega)]; rfl
theorem take2 {L : List UInt8} (h : 1 < L.length) : L.take 2 = [L[0]'(by omega), L[1]'h] := by
 match L, h with
 | a :: b :: r, _ => rfl
theorem pre2 (s : ByteArray) (hs : s.size ≤ 4000000) : strings_CutPrefix s ⟨#[35, 120]⟩ = some (if 2 ≤ s.size ∧ by' s 0 = 35 ∧ by' s 1 = 120 then (s.extract 2 s.size, true) else (s, false)) := by
 rw [strings_CutPrefix, internal_stringslite_CutPrefix, internal_stringslite_HasPrefix]
 have hp : lenS (⟨#[35, 120]⟩ : ByteArray) = ((2 : Nat) : Int) := rfl
 rw [hp]
 by_cases h : 2 ≤ s.size
 ·have h2 : 1 < s.data.toList.length := by rw [dlen]; omega
  have g0 : (s.data.toList[0]'(by omega)).toNat = by' s 0 := by
   have h' : 0 < s.data.size := by show 0 < s.size; omega
   show _ = (s.data[0]!).toNat
   rw [getElem!_pos _ 0 h', Array.getElem_toList]
  have g1 : (s.data.toList[1]'h2).toNat = by' s 1 := by
   have h' : 1 < s.data.size := by show 1 < s.size; omega
   show _ = (s.data[1]!).toNat
   rw [getElem!_pos _ 1 h', Array.getElem_toList]
  have e5 : (s.extract 0 2).data.toList = [s.data.toList[0]'(by omega), s.data.toList[1]'h2] := by
   rw [ext_data, List.drop_zero]
   exact take2 h2
  have hb : eqS (s.extract 0 2) ⟨#[35, 120]⟩ = decide (by' s 0 = 35 ∧ by' s 1 = 120) := by
   rw [Bool.eq_iff_iff, eqS_iff, decide_eq_true_iff]
   constructor
   ·intro e
    rw [e] at e5
    have e7 : [(35 : UInt8), 120] = [s.data.toList[0]'(by omega), s.data.toList[1]'h2] := e5
    injection e7 with e8 e9
    injection e9 with e9 _
    rw [← g0, ← g1, ← e8, ← e9]
    exact ⟨rfl, rfl⟩
   ·intro e
    apply byteArray_data
    rw [e5]
    have a0 : s.data.toList[0]'(by omega) = 35 := UInt8.toNat_inj.1 (by rw [g0, e.1]; rfl)
    have a1 : s.data.toList[1]'h2 = 120 := UInt8.toNat_inj.1 (by rw [g1, e.2]; rfl)
    rw [a0, a1]
  rw [geI_t (by simp only [lenS]; omega), show (0 : Int) = ((0 : Nat) : Int) from rfl, sub_ok s (by omega) h]
  simp only [if_true, some_bnd, hb]
  by_cases h0 : by' s 0 = 35 ∧ by' s 1 = 120
  ·have es : subS s ((2 : Nat) : Int) (lenS s) = some (s.extract 2 s.size) := sub_ok s h (Nat.le_refl _)
   rw [decide_eq_true h0, if_pos rfl, es, if_pos ⟨h, h0⟩]; rfl
  ·rw [decide_eq_false h0, if_neg Bool.false_ne_true, if_neg (by omega)]; rfl
 ·rw [geI_f (by simp only [lenS]; omega), if_neg Bool.false_ne_true, if_neg (by omega)]; rfl
theorem plain35 {s : ByteArray} (h1 : 1 ≤ s.size) (hs : s.size ≤ 4000000) (h : by' s 0 = 35) : plainB s = false := by
 have : spec_PlainOk s = some false := by
  rw [spec_PlainOk, l1In_eq]
  simp only [some_bnd]
  by_cases hl : (1 : Int) ≤ lenS s ∧ lenS s ≤ 16
  ·rw [decide_eq_true hl, if_pos rfl, spec_PlainOk_l14, ltI_t (by simp only [lenS]; omega), if_pos rfl, show (0 : Int) = ((0 : Nat) : Int) from rfl, sg_spec (by omega) hs]
   simp only [some_bnd]
   cases hok : (sg s 0).2.2 with
   | false => rfl
   | true =>
    obtain ⟨k, e1, e2, e3, e4⟩ := sg_ok (by omega) hok
    have hv : (sg s 0).1 = ((35 : Nat) : Int) := by
     rcases e4 with e4 | e4
     ·rw [e4.2, h]
     ·have := e4 0 (Nat.le_refl _) (by omega)
      omega
    rw [if_pos rfl, show eqI ((0 : Nat) : Int) ((0 : Nat) : Int) = true from rfl, if_pos rfl, start_spec, hv]
    rfl
  ·rw [decide_eq_false hl]; rfl
 unfold plainB
 rw [this]; rfl
theorem last_loop (s : ByteArray) (l : List GEnt) (hl : l.length ≤ 4000000) : ∀ (rest pre : List GEnt), pre ++ rest = l → spec_l3One_l30 s l (pre.length : Int) = match fst (fun e => eqS e.Name s) rest pre.length with
  | .ofNat j => (getI l (j : Int)).map fun e => (e.Val, true)
  | .negSucc _ => some (⟨#[]⟩, false)
 | [], pre, h => by rw [spec_l3One_l30, end_at h]; rfl
 | x :: rest, pre, h => by
  rw [spec_l3One_l30, more_at h, getI_at h]
  simp only [if_true, some_bnd, fst]
  by_cases hh : eqS x.Name s = true
  ·rw [if_pos hh, if_pos hh]
   show _ = (getI l ((pre.length : Nat) : Int)).map _
   rw [getI_at h]; rfl
  ·rw [if_neg hh, if_neg hh]
   rw [next_at h (by rw [maxLen_eq]; omega)]
   have := last_loop s l hl rest (pre ++ [x]) (step_at h)
   rw [this, List.length_append, List.length_singleton]
theorem one_both (s : ByteArray) (l : List GEnt) (hs : s.size ≤ 4000000) (hl : l.length ≤ 1048576) (hz : ∀ e ∈ l, e.Name.size ≤ 1048576 ∧ e.Val.size ≤ 1048576) (hp : ∀ e ∈ l, plainB e.Name = true) :
  ∃ (t : ByteArray) (ok : Bool) (v : ByteArray), spec_l3One s l = some (t, ok) ∧ impl_stands s l = some (v, ok) ∧ (ok = true → v = t ∧ t.size ≤ 1048576) := by
 have p2 := pre2 s hs
 have p1 := pre1 s hs
 have esz : (s.extract 2 s.size).size ≤ 4000000 := by rw [ByteArray.size_extract]; omega
 have esz1 : (s.extract 1 s.size).size ≤ 4000000 := by rw [ByteArray.size_extract]; omega
 by_cases h0 : 1 ≤ s.size ∧ by' s 0 = 35
 ·by_cases h2 : 2 ≤ s.size
  ·have a0 : atS s 0 = some ((by' s 0 : Nat) : Int) := atS_by (k := 0) rfl (by omega)
   have a1 : atS s 1 = some ((by' s 1 : Nat) : Int) := atS_by (k := 1) rfl (by omega)
   have hsp : spec_l3One s l = spec_l3One_j3 s l true := by
    rw [spec_l3One, gtI_t (by simp only [lenS]; omega), if_pos rfl, a0]
    simp only [some_bnd]
    rw [eqI_t (by omega)]
   by_cases hx : by' s 1 = 120
   ·obtain ⟨ν, t, ok, v, b1, b2, b3, b4, b5⟩ := num_both (s.extract 2 s.size) 16 6 (.inl ⟨rfl, rfl⟩) esz
    have es : subS s 2 (lenS s) = some (s.extract 2 s.size) := sub_ok s (a := 2) (b := s.size) h2 (Nat.le_refl _)
    have b1' : spec_l3Number (s.extract 2 s.size) 16 6 = some ν := b1
    have b4' : impl_numbered (s.extract 2 s.size) 16 6 = some (v, ok) := b4
    refine ⟨t, ok, v, ?_, ?_, fun h => ⟨b5 h, by omega⟩⟩
    ·rw [hsp, spec_l3One_j3, if_pos rfl, a1]
     simp only [some_bnd]
     rw [eqI_t (by omega), if_pos rfl, es]
     simp only [some_bnd, b1']
     exact b2
    ·rw [impl_stands, p2, if_pos ⟨h2, h0.2, hx⟩]
     simp only [some_bnd, if_true, b4']
   ·obtain ⟨ν, t, ok, v, b1, b2, b3, b4, b5⟩ := num_both (s.extract 1 s.size) 10 7 (.inr ⟨rfl, rfl⟩) esz1
    have es : subS s 1 (lenS s) = some (s.extract 1 s.size) := sub_ok s (a := 1) (b := s.size) (by omega) (Nat.le_refl _)
    have b1' : spec_l3Number (s.extract 1 s.size) 10 7 = some ν := b1
    have b4' : impl_numbered (s.extract 1 s.size) 10 7 = some (v, ok) := b4
    refine ⟨t, ok, v, ?_, ?_, fun h => ⟨b5 h, by omega⟩⟩
    ·rw [hsp, spec_l3One_j3, if_pos rfl, a1]
     simp only [some_bnd]
     rw [eqI_f (by omega), if_neg Bool.false_ne_true, es]
     simp only [some_bnd, b1']
     exact b2
    ·rw [impl_stands, p2, if_neg (by omega), p1, if_pos h0]
     simp only [some_bnd, if_true, Bool.false_eq_true, if_false, b4']
  ·-- the sign alone
   have hsz : s.size = 1 := by omega
   obtain ⟨ν, t, ok, v, b1, b2, b3, b4, b5⟩ := num_both (s.extract 1 s.size) 10 7 (.inr ⟨rfl, rfl⟩) esz1
   have he : s.extract 1 s.size = ⟨#[]⟩ := bne (by rw [ByteArray.size_extract]; omega)
   have hi : impl_numbered (s.extract 1 s.size) 10 7 = some (⟨#[]⟩, false) := by
    rw [he]
    have hd : impl_isDigits ⟨#[]⟩ 10 7 = some false := by
     rw [impl_isDigits]
     exact digits_loop ⟨#[]⟩ 10 7 (.inl rfl) (by decide) 0 0 rfl
    rw [impl_numbered, hd]; rfl
   have hn : ∀ e ∈ l, eqS e.Name s = false := fun e he => by
    cases h : eqS e.Name s with
    | false => rfl
    | true =>
     have e1 := eqS_iff.1 h
     have := plain35 (s := e.Name) (by rw [e1]; omega) (by rw [e1]; omega) (by rw [e1]; exact h0.2)
     rw [hp e he] at this; cases this
   have hf : fst (fun e : GEnt => eqS e.Name s) l 0 = -1 := by
    rcases fst_bnd (fun e : GEnt => eqS e.Name s) l 0 with h | ⟨j, h1, h2, x, h3, h4⟩
    ·exact h
    ·rw [hn x (List.mem_of_getElem? h3)] at h4; cases h4
   have hk : spec_l3Known s = some ⟨#[]⟩ := by
    have nf : ∀ {x : ByteArray}, x.size ≠ s.size → eqS s x = false := fun {x} h => by
     cases h' : eqS s x with
     | false => rfl
     | true => exact absurd (congrArg ByteArray.size (eqS_iff.1 h')).symm h
    rw [spec_l3Known, nf (by rw [hsz]; decide), nf (by rw [hsz]; decide), nf (by rw [hsz]; decide), nf (by rw [hsz]; decide), nf (by rw [hsz]; decide)]
    rfl
   refine ⟨⟨#[]⟩, false, ⟨#[]⟩, ?_, ?_, fun h => by cases h⟩
   ·rw [spec_l3One, gtI_f (by simp only [lenS]; omega), if_neg Bool.false_ne_true, spec_l3One_j3, if_neg Bool.false_ne_true, hk]
    simp only [some_bnd]
    rw [neS_self, if_neg Bool.false_ne_true]
    have := last_loop s l (by omega) l [] rfl
    rw [List.length_nil, hf] at this
    exact this
   ·rw [impl_stands, p2, if_neg (by omega), p1, if_pos h0]
    simp only [some_bnd, if_true, Bool.false_eq_true, if_false, hi]
 ·-- no number
  obtain ⟨r, i, k1, k2, k3, k4⟩ := known_both s
  have hsp : spec_l3One s l = spec_l3One_j3 s l false := by
   rw [spec_l3One]
   by_cases h2 : 1 < s.size
   ·have a0 : atS s 0 = some ((by' s 0 : Nat) : Int) := atS_by (k := 0) rfl (by omega)
    rw [gtI_t (by simp only [lenS]; omega), if_pos rfl, a0]
    simp only [some_bnd]
    rw [eqI_f (by omega)]
   ·rw [gtI_f (by simp only [lenS]; omega), if_neg Bool.false_ne_true]
  have hown : impl_ownNames = some own5 := rfl
  have him : impl_stands s l = (if geI i 0 = true then subS mean5 i (addI i 1) >>= fun x => some (x, true) else impl_entAt l s >>= fun r6 => if geI r6 0 = true then getI l r6 >>= fun x1 => some (x1.Val, true) else some (⟨#[]⟩, false)) := by
   rw [impl_stands, p2, if_neg (by omega), p1, if_neg h0]
   simp only [some_bnd, Bool.false_eq_true, if_false, hown, k2]
   rfl
  rw [hsp, him, spec_l3One_j3, if_neg Bool.false_ne_true, k1]
  simp only [some_bnd]
  rcases k4 with ⟨g1, g2⟩ | ⟨g1, g2, g3⟩
  ·rw [g1, g2, if_neg Bool.false_ne_true, if_neg Bool.false_ne_true, entAt_eq l s (by omega)]
   have hlast := last_loop s l (by omega) l [] rfl
   rw [List.length_nil] at hlast
   have hlast' : spec_l3One_l30 s l 0 = _ := hlast
   simp only [some_bnd]
   rcases fst_bnd (fun e : GEnt => eqS e.Name s) l 0 with h | ⟨j, h1, h2, x, h3, h4⟩
   ·rw [h] at hlast' ⊢
    exact ⟨⟨#[]⟩, false, ⟨#[]⟩, hlast', rfl, fun h => by cases h⟩
   ·rw [Nat.zero_add] at h2
    rw [h2] at hlast' ⊢
    have hg : getI l (j : Int) = some x := by rw [getI_pos (by omega)]; simpa using h3
    refine ⟨x.Val, true, x.Val, ?_, ?_, fun _ => ⟨rfl, (hz x (List.mem_of_getElem? h3)).2⟩⟩
    ·rw [hlast']
     show (getI l (j : Int)).map _ = _
     rw [hg]; rfl
    ·rw [geI_t (by omega), if_pos rfl, hg]; rfl
  ·rw [g1, g2, if_pos rfl, if_pos rfl, g3]
   exact ⟨r, true, r, rfl, rfl, fun _ => ⟨rfl, by omega⟩⟩
theorem signs_big (s : ByteArray) (hb : 1500 < s.size) (hs : s.size ≤ 4000000) : ∀ (m i : Nat), i ≤ s.size → s.size - i ≤ m → spec_l1Signs_l6 s i = some false
 | 0, i, h, hm => by rw [spec_l1Signs_l6, ltI_f (by simp only [lenS]; omega), leI_f (by simp only [lenS]; omega)]; rfl
 | m + 1, i, h, hm => by
  by_cases hi : i < s.size
  ·rw [spec_l1Signs_l6, ltI_t (by simp only [lenS]; omega), sg_spec hi (by omega)]
   simp only [if_true, some_bnd, sign_spec]
   cases hok : (sg s i).2.2 with
   | false => rfl
   | true =>
    obtain ⟨k, e1, e2, e3, e4⟩ := sg_ok hi hok
    rw [e1, signs_big s hb hs m (i + k) e3 (by omega)]
    simp
  ·rw [spec_l1Signs_l6, ltI_f (by simp only [lenS]; omega), leI_f (by simp only [lenS]; omega)]; rfl
theorem chunk (S : ByteArray) (l : List GEnt) (hS : S.size ≤ 4000000) : ∀ (n p : Nat) (out : ByteArray), p + n ≤ S.size → (∀ j, p ≤ j → j < p + n → by' S j ≠ 38) → out.size + n ≤ 3000000000 →
  spec_Expand_l16 S l out (p : Int) = spec_Expand_l16 S l (out ++ S.extract p (p + n)) ((p + n : Nat) : Int)
 | 0, p, out, h, hn, ho => by
  have e : S.extract p (p + 0) = ⟨#[]⟩ := bne (by rw [ByteArray.size_extract]; omega)
  have e2 : out ++ (⟨#[]⟩ : ByteArray) = out := ByteArray.append_empty
  rw [e, e2]; rfl
 | n + 1, p, out, h, hn, ho => by
  have hx : p < S.size := by omega
  have h38 := hn p (Nat.le_refl _) (by omega)
  have e1 : (S.extract p (p + 1)).size = 1 := by rw [ext_size S p (p + 1) (by omega)]; omega
  rw [spec_Expand_l16, ltI_t (by simp only [lenS]; omega), if_pos rfl, atS_by rfl hx]
  simp only [some_bnd]
  have ea : addI (p : Int) 1 = ((p + 1 : Nat) : Int) := by rw [addI_eq (by omega) (by omega)]; omega
  have hne : neI ((by' S p : Nat) : Int) 38 = true := by rw [neI_eq, eqI_f (by omega)]; rfl
  rw [hne, if_pos rfl, ea, sub_ok S (by omega) (by omega)]
  simp only [some_bnd]
  rw [cat_ok (by omega)]
  simp only [some_bnd]
  rw [chunk S l hS n (p + 1) (out ++ S.extract p (p + 1)) (by omega) (fun j h1 h2 => hn j (by omega) (by omega)) (by rw [app_size, e1]; omega), ByteArray.append_assoc, ext_app S (by omega) (by omega)]
  rw [show p + 1 + n = p + (n + 1) by omega]
theorem inner (S : ByteArray) (l : List GEnt) (out : ByteArray) (at1 : Int) (hS : S.size ≤ 4000000) : ∀ (n p : Nat), p + n ≤ S.size → (∀ j, p ≤ j → j < p + n → by' S j ≠ 59) → spec_Expand_l37 S l out at1 (p : Int) = spec_Expand_l37 S l out at1 ((p + n : Nat) : Int)
 | 0, p, h, hn => rfl
 | n + 1, p, h, hn => by
  have hx : p < S.size := by omega
  have h59 := hn p (Nat.le_refl _) (by omega)
  have ea : addI (p : Int) 1 = ((p + 1 : Nat) : Int) := by rw [addI_eq (by omega) (by omega)]; omega
  have hne : neI ((by' S p : Nat) : Int) 59 = true := by rw [neI_eq, eqI_f (by omega)]; rfl
  rw [spec_Expand_l37, ltI_t (by simp only [lenS]; omega), if_pos rfl, atS_by rfl hx]
  simp only [some_bnd]
  rw [hne, if_pos rfl, ea, inner S l out at1 hS n (p + 1) (by omega) (fun j h1 h2 => hn j (by omega) (by omega)), show p + 1 + n = p + (n + 1) by omega]
theorem loops (S : ByteArray) (l : List GEnt) (hS : S.size ≤ 1500) (hl : l.length ≤ 1048576) (hz : ∀ e ∈ l, e.Name.size ≤ 1048576 ∧ e.Val.size ≤ 1048576) (hp : ∀ e ∈ l, plainB e.Name = true) :
  ∀ (m p : Nat) (out : ByteArray), p ≤ S.size → S.size - p ≤ m → out.size + 1100000 * (S.size - p) ≤ 1650000000 →
  ∃ r, spec_Expand_l16 S l out (p : Int) = some r ∧ impl_Expand_l14 (S.extract p S.size) l out = some r := by
 intro m
 induction m with
 | zero =>
  intro p out h hm ho
  have e : S.extract p S.size = ⟨#[]⟩ := bne (by rw [ByteArray.size_extract]; omega)
  have hc : cutB ⟨#[]⟩ ⟨#[38]⟩ = (⟨#[]⟩, ⟨#[]⟩, false) := by
   rcases cut1 38 ⟨#[]⟩ with ⟨_, h⟩ | ⟨k, h, _⟩
   ·exact h
   ·exact absurd h (by show ¬ k < 0; omega)
  obtain ⟨b, t1, t2⟩ := text_any out
  have e2 : out ++ (⟨#[]⟩ : ByteArray) = out := ByteArray.append_empty
  have hcat : catS out ⟨#[]⟩ = some out := by rw [cat_ok (by show out.size + 0 ≤ _; omega), e2]
  have hcut : strings_Cut ⟨#[]⟩ ⟨#[38]⟩ = some (⟨#[]⟩, ⟨#[]⟩, false) := by rw [strings_Cut, if_pos (by decide), hc]
  rw [e, spec_Expand_l16, ltI_f (by simp only [lenS]; omega), if_neg Bool.false_ne_true, t1, impl_Expand_l14, hcut]
  simp only [some_bnd, hcat, Bool.false_eq_true, if_false, t2]
  cases b <;> exact ⟨_, rfl, rfl⟩
 | succ m ih =>
  intro p out h hm ho
  have esz : (S.extract p S.size).size = S.size - p := ext_size S p S.size (Nat.le_refl _)
  have hcut : strings_Cut (S.extract p S.size) ⟨#[38]⟩ = some (cutB (S.extract p S.size) ⟨#[38]⟩) := by rw [strings_Cut, if_pos (by omega)]
  rcases cut1 38 (S.extract p S.size) with ⟨n1, hc⟩ | ⟨k, k1, k2, k3, hc⟩
  ·-- no mark
   have hno : ∀ j, p ≤ j → j < p + (S.size - p) → by' S j ≠ 38 := fun j h1 h2 => by
    have := n1 (j - p) (by omega)
    rw [by_ext, show p + (j - p) = j by omega] at this
    exact this
   obtain ⟨b, t1, t2⟩ := text_any (out ++ S.extract p S.size)
   rw [chunk S l (by omega) (S.size - p) p out (by omega) hno (by omega), show p + (S.size - p) = S.size by omega, spec_Expand_l16, ltI_f (by simp only [lenS]; omega), if_neg Bool.false_ne_true, t1, impl_Expand_l14, hcut, hc]
   simp only [some_bnd]
   rw [cat_ok (by omega)]
   simp only [some_bnd, Bool.false_eq_true, if_false, t2]
   cases b <;> exact ⟨_, rfl, rfl⟩
  ·-- a mark at p + k
   have hk : p + k < S.size := by omega
   have e38 : by' S (p + k) = 38 := by rw [← by_ext, k2]; rfl
   have hno : ∀ j, p ≤ j → j < p + k → by' S j ≠ 38 := fun j h1 h2 => by
    have := k3 (j - p) (by omega)
    rw [by_ext, show p + (j - p) = j by omega] at this
    exact this
   have x0 : (S.extract p S.size).extract 0 k = S.extract p (p + k) := by rw [ext_ext S p 0 k (by omega)]; rfl
   have x1 : (S.extract p S.size).extract (k + 1) (S.extract p S.size).size = S.extract (p + k + 1) S.size := by
    rw [esz, ext_ext S p (k + 1) (S.size - p) (by omega)]
    rw [show p + (k + 1) = p + k + 1 by omega, show p + (S.size - p) = S.size by omega]
   rw [x0, x1] at hc
   have osz : (S.extract p (p + k)).size = k := by rw [ext_size S p (p + k) (by omega)]; omega
   have rsz : (S.extract (p + k + 1) S.size).size = S.size - (p + k + 1) := ext_size _ _ _ (Nat.le_refl _)
   have hout : (out ++ S.extract p (p + k)).size = out.size + k := by rw [app_size, osz]
   have hcut2 : strings_Cut (S.extract (p + k + 1) S.size) ⟨#[59]⟩ = some (cutB (S.extract (p + k + 1) S.size) ⟨#[59]⟩) := by rw [strings_Cut, if_pos (by omega)]
   have himp : impl_Expand_l14 (S.extract p S.size) l out = (impl_stands (cutB (S.extract (p + k + 1) S.size) ⟨#[59]⟩).1 l >>= fun r9 => if (cutB (S.extract (p + k + 1) S.size) ⟨#[59]⟩).2.2 = true then (if r9.2 = true then catS (out ++ S.extract p (p + k)) r9.1 >>= fun x3 => impl_Expand_l14 (cutB (S.extract (p + k + 1) S.size) ⟨#[59]⟩).2.1 l x3 else some (⟨#[]⟩, false)) else some (⟨#[]⟩, false)) := by
    rw [impl_Expand_l14, hcut, hc]
    simp only [some_bnd]
    rw [cat_ok (by omega)]
    simp only [some_bnd, if_true, hcut2]
   have hspec : spec_Expand_l16 S l out (p : Int) = spec_Expand_l37 S l (out ++ S.extract p (p + k)) ((p + k : Nat) : Int) ((p + k + 1 : Nat) : Int) := by
    have hne : neI ((by' S (p + k) : Nat) : Int) 38 = false := by rw [neI_eq, eqI_t (by omega)]; rfl
    rw [chunk S l (by omega) k p out (by omega) hno (by omega), spec_Expand_l16, ltI_t (by simp only [lenS]; omega), if_pos rfl, atS_by rfl hk]
    simp only [some_bnd]
    rw [hne, if_neg Bool.false_ne_true]
    exact inner S l _ _ (by omega) 1 (p + k) (by omega) (fun j h1 h2 => by
     have : j = p + k := by omega
     rw [this, e38]; decide)
   rcases cut1 59 (S.extract (p + k + 1) S.size) with ⟨n2, hc2⟩ | ⟨q, q1, q2, q3, hc2⟩
   ·-- no end
    obtain ⟨t, ok, v, o1, o2, o3⟩ := one_both (S.extract (p + k + 1) S.size) l (by omega) hl hz hp
    have hno2 : ∀ j, p + k + 1 ≤ j → j < p + k + 1 + (S.size - (p + k + 1)) → by' S j ≠ 59 := fun j h1 h2 => by
     have := n2 (j - (p + k + 1)) (by omega)
     rw [by_ext, show p + k + 1 + (j - (p + k + 1)) = j by omega] at this
     exact this
    rw [himp, hc2, hspec, inner S l _ _ (by omega) (S.size - (p + k + 1)) (p + k + 1) (by omega) hno2, show p + k + 1 + (S.size - (p + k + 1)) = S.size by omega]
    simp only [o2, some_bnd, Bool.false_eq_true, if_false]
    refine ⟨_, ?_, rfl⟩
    rw [spec_Expand_l37, ltI_f (by simp only [lenS]; omega), if_neg Bool.false_ne_true, spec_Expand_j35, eqI_t (by rfl), if_pos rfl]
   ·have hq : p + k + 1 + q < S.size := by omega
    have e59 : by' S (p + k + 1 + q) = 59 := by rw [← by_ext, q2]; rfl
    have y0 : (S.extract (p + k + 1) S.size).extract 0 q = S.extract (p + k + 1) (p + k + 1 + q) := by rw [ext_ext S _ 0 q (by omega)]
    have y1 : (S.extract (p + k + 1) S.size).extract (q + 1) (S.extract (p + k + 1) S.size).size = S.extract (p + k + 1 + q + 1) S.size := by
     rw [rsz, ext_ext S (p + k + 1) (q + 1) (S.size - (p + k + 1)) (by omega)]
     rw [show p + k + 1 + (q + 1) = p + k + 1 + q + 1 by omega, show p + k + 1 + (S.size - (p + k + 1)) = S.size by omega]
    rw [y0, y1] at hc2
    have nsz : (S.extract (p + k + 1) (p + k + 1 + q)).size = q := by rw [ext_size S _ _ (by omega)]; omega
    obtain ⟨t, ok, v, o1, o2, o3⟩ := one_both (S.extract (p + k + 1) (p + k + 1 + q)) l (by omega) hl hz hp
    have hno2 : ∀ j, p + k + 1 ≤ j → j < p + k + 1 + q → by' S j ≠ 59 := fun j h1 h2 => by
     have := q3 (j - (p + k + 1)) (by omega)
     rw [by_ext, show p + k + 1 + (j - (p + k + 1)) = j by omega] at this
     exact this
    have hne : neI ((by' S (p + k + 1 + q) : Nat) : Int) 59 = false := by rw [neI_eq, eqI_t (by omega)]; rfl
    have ea : addI ((p + k : Nat) : Int) 1 = ((p + k + 1 : Nat) : Int) := by rw [addI_eq (by omega) (by omega)]; omega
    have eb : addI ((p + k + 1 + q : Nat) : Int) 1 = ((p + k + 1 + q + 1 : Nat) : Int) := by rw [addI_eq (by omega) (by omega)]; omega
    rw [himp, hc2, hspec, inner S l _ _ (by omega) q (p + k + 1) (by omega) hno2]
    simp only [o2, some_bnd, if_true]
    rw [spec_Expand_l37, ltI_t (by simp only [lenS]; omega), if_pos rfl, atS_by rfl hq]
    simp only [some_bnd]
    rw [hne, if_neg Bool.false_ne_true, spec_Expand_j35, eqI_f (by simp only [lenS]; omega), if_neg Bool.false_ne_true, ea, sub_ok S (by omega) (by omega)]
    simp only [some_bnd, o1]
    cases ok with
    | false => exact ⟨_, rfl, rfl⟩
    | true =>
     obtain ⟨rfl, o4⟩ := o3 rfl
     simp only [if_true]
     rw [cat_ok (by omega)]
     simp only [some_bnd]
     rw [eb]
     exact ih (p + k + 1 + q + 1) _ (by omega) (by omega) (by rw [app_size, hout]; omega)
theorem same_Expand (s : ByteArray) (l : List GEnt) (hs : s.size ≤ 1048576) (hl : l.length ≤ 1048576) (hz : ∀ e ∈ l, e.Name.size ≤ 1048576 ∧ e.Val.size ≤ 1048576) : ∃ r, spec_Expand s l = some r ∧ impl_Expand s l = some r := by
 rw [spec_Expand, impl_Expand, spec_l1Signs]
 by_cases hb : s.size ≤ 1500
 ·obtain ⟨b, h1, h2⟩ := signs_loop s hb s.size 0 (Nat.zero_le _) (by omega)
  have h1' : spec_l1Signs_l6 s 0 = some b := h1
  have h2' : impl_signsOk s = some b := by rw [impl_signsOk]; exact h2
  obtain ⟨c, e1, e2, e3⟩ := ents_both l hl hz
  rw [gtI_f (by simp only [lenS]; omega), if_neg Bool.false_ne_true, h1', h2', e1, e2]
  simp only [some_bnd]
  cases b with
  | false => exact ⟨_, rfl, rfl⟩
  | true =>
   cases c with
   | false => exact ⟨_, rfl, rfl⟩
   | true =>
    simp only [if_true]
    obtain ⟨r, r1, r2⟩ := loops s l hb hl hz (e3 rfl) s.size 0 ⟨#[]⟩ (Nat.zero_le _) (by omega) (by show 0 + _ ≤ _; omega)
    have e : s.extract 0 s.size = s := ByteArray.extract_zero_size
    rw [e] at r2
    exact ⟨r, r1, r2⟩
 ·have h1 : spec_l1Signs_l6 s 0 = some false := signs_big s (by omega) (by omega) s.size 0 (Nat.zero_le _) (by omega)
  rw [gtI_t (by simp only [lenS]; omega), if_pos rfl, h1]
  exact ⟨_, rfl, rfl⟩
end TT
