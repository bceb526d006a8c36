import Derived.Test.YtejfgkcjhmmjkaaGreatDoorTP2Expand
import Derived.Lib.Replace
import Derived.Lib.SplitLaws
set_option linter.unusedVariables false
set_option linter.unusedSimpArgs false
namespace TT
open Go
theorem rep_all (c : UInt8) (N : List UInt8) : ∀ (l : List UInt8), Lib.replaceK [c] N (Lib.count l [c]) l = l.flatMap fun b => if b = c then N else [b]
 | [] => by
  have : Lib.count [] [c] = 0 := by rw [Lib.count_one]; rfl
  rw [this]; rfl
 | b :: l => by
  have ih := rep_all c N l
  by_cases hb : b = c
  ·subst hb
   rw [Lib.count_cons_eq, Nat.add_comm, List.flatMap_cons, if_pos rfl]
   have h0 : Lib.index (b :: l) [b] = ((0 : Nat) : Int) := Lib.index_first (by simp) (by simp [Lib.occAt, List.isPrefixOf]) fun j hj => by omega
   rw [Lib.replaceK_hit _ _ _ _ 0 h0]
   simp only [List.take_zero, List.nil_append, Nat.zero_add, List.length_singleton, List.drop_succ_cons, List.drop_zero, ih]
  ·rw [Lib.count_cons_ne b c l hb, List.flatMap_cons, if_neg hb]
   cases hk : Lib.count l [c] with
   | zero =>
    rw [hk] at ih
    rw [← ih]; rfl
   | succ k =>
    obtain ⟨i, hi⟩ := Lib.index_of_count (s := l) (old := [c]) (by omega)
    have hi' : Lib.index (b :: l) [c] = ((i + 1 : Nat) : Int) := by
     rcases Lib.index_spec l [c] with ⟨h, _⟩ | ⟨i', h1, h2, h3, h4⟩
     ·omega
     ·have e : i' = i := by omega
      subst e
      refine Lib.index_first (by simp; omega) (by simpa [Lib.occAt] using h3) fun j hj => ?_
      cases j with
      | zero => simp [Lib.occAt, List.isPrefixOf]; intro e; exact absurd e.symm hb
      | succ j => have := h4 j (by omega); simpa [Lib.occAt] using this
    rw [hk] at ih
    rw [Lib.replaceK_hit _ _ _ _ _ hi']
    rw [Lib.replaceK_hit _ _ _ _ _ hi] at ih
    rw [← ih]
    simp
def mkB (l : List UInt8) : ByteArray := ⟨l.toArray⟩
theorem mkB_size (l : List UInt8) : (mkB l).size = l.length := by show l.toArray.size = _; simp
theorem mkB_self (s : ByteArray) : mkB s.data.toList = s := byteArray_data rfl
theorem mkB_app (a b : List UInt8) : mkB a ++ mkB b = mkB (a ++ b) := byteArray_data (by rw [ByteArray.data_append, Array.toList_append]; rfl)
def rp (c : UInt8) (N : List UInt8) (b : UInt8) : List UInt8 := if b = c then N else [b]
theorem replB_one (l : List UInt8) (c : UInt8) (N : List UInt8) (hN : N ≠ [c]) : replB (mkB l) (mkB [c]) (mkB N) = mkB (l.flatMap (rp c N)) := by
 unfold replB
 show mkB (Lib.replaceAll l [c] N) = _
 congr 1
 unfold Lib.replaceAll Lib.replace
 have h1 : ([c] == N) = false := by
  cases h : [c] == N with
  | false => rfl
  | true => exact absurd (beq_iff_eq.1 h).symm hN
 rw [h1]
 have h2 : Lib.replaceNum l [c] (-1) = Lib.count l [c] := by unfold Lib.replaceNum; rw [if_pos (.inl (by decide))]
 rw [h2]
 exact rep_all c N l
theorem flatMap_le {f : UInt8 → List UInt8} {k : Nat} (hf : ∀ b, (f b).length ≤ k) : ∀ l : List UInt8, (l.flatMap f).length ≤ k * l.length
 | [] => by simp
 | b :: l => by
  have := flatMap_le hf l
  have := hf b
  simp only [List.flatMap_cons, List.length_append, List.length_cons, Nat.mul_succ]
  omega
theorem rp_len (c : UInt8) (N : List UInt8) (k : Nat) (h1 : 1 ≤ k) (hN : N.length ≤ k) (b : UInt8) : (rp c N b).length ≤ k := by
 unfold rp
 split
 ·exact hN
 ·exact h1
theorem repl_eq (l : List UInt8) (c : UInt8) (N : List UInt8) (hN : N ≠ [c]) (hl : l.length ≤ 100000000) (hn : N.length ≤ 6) : strings_ReplaceAll (mkB l) (mkB [c]) (mkB N) = some (mkB (l.flatMap (rp c N))) := by
 have h1 : 1 ≤ (mkB [c]).size := Nat.le_refl 1
 have hc : Lib.countB (mkB l) (mkB [c]) ≤ (mkB l).size := Lib.countB_le (mkB [c]) h1 (mkB l).size (mkB l) (Nat.le_refl _)
 have hz := mkB_size l
 have h2 : Lib.countB (mkB l) (mkB [c]) * (mkB N).size ≤ l.length * 6 := Nat.mul_le_mul (by omega) (by rw [mkB_size]; exact hn)
 rw [strings_ReplaceAll, if_pos ⟨by omega, h1, by omega⟩, replB_one l c N hN]
def esB (attr : Bool) (b : UInt8) : List UInt8 :=
 if b = 38 then [38, 97, 109, 112, 59] else if b = 60 then [38, 108, 116, 59] else if b = 62 then [38, 103, 116, 59] else if b = 13 then [38, 35, 49, 51, 59] else
 if attr && b == 34 then [38, 113, 117, 111, 116, 59] else if attr && b == 9 then [38, 35, 57, 59] else if attr && b == 10 then [38, 35, 49, 48, 59] else [b]
theorem all256 {p : UInt8 → Prop} (h : ∀ n : Fin 256, p (UInt8.ofNat n.val)) (b : UInt8) : p b := by
 have := h ⟨b.toNat, b.toNat_lt⟩
 simpa using this
theorem esB_text (b : UInt8) : (((rp 38 [38, 97, 109, 112, 59] b).flatMap (rp 60 [38, 108, 116, 59])).flatMap (rp 62 [38, 103, 116, 59])).flatMap (rp 13 [38, 35, 49, 51, 59]) = esB false b :=
 all256 (p := fun b => (((rp 38 [38, 97, 109, 112, 59] b).flatMap (rp 60 [38, 108, 116, 59])).flatMap (rp 62 [38, 103, 116, 59])).flatMap (rp 13 [38, 35, 49, 51, 59]) = esB false b) (by decide +kernel) b
theorem esB_attr (b : UInt8) : (((esB false b).flatMap (rp 34 [38, 113, 117, 111, 116, 59])).flatMap (rp 9 [38, 35, 57, 59])).flatMap (rp 10 [38, 35, 49, 48, 59]) = esB true b :=
 all256 (p := fun b => (((esB false b).flatMap (rp 34 [38, 113, 117, 111, 116, 59])).flatMap (rp 9 [38, 35, 57, 59])).flatMap (rp 10 [38, 35, 49, 48, 59]) = esB true b) (by decide +kernel) b
theorem esB_len (attr : Bool) (b : UInt8) : (esB attr b).length ≤ 6 := by
 exact all256 (p := fun b => (esB attr b).length ≤ 6) (by cases attr <;> decide +kernel) b
def esc (attr : Bool) (s : ByteArray) : ByteArray := mkB (s.data.toList.flatMap (esB attr))
theorem esc_size (attr : Bool) (s : ByteArray) : (esc attr s).size ≤ 6 * s.size := by
 unfold esc
 rw [mkB_size]
 have := flatMap_le (esB_len attr) s.data.toList
 rw [dlen] at this
 exact this
theorem escText_impl (s : ByteArray) (hs : s.size ≤ 10000) : impl_EscText s = some (esc false s) := by
 have hl : s.data.toList.length ≤ 10000 := by rw [dlen]; exact hs
 have f1 := flatMap_le (rp_len 38 [38, 97, 109, 112, 59] 6 (by decide) (by decide)) s.data.toList
 have f2 := flatMap_le (rp_len 60 [38, 108, 116, 59] 6 (by decide) (by decide)) (s.data.toList.flatMap (rp 38 [38, 97, 109, 112, 59]))
 have f3 := flatMap_le (rp_len 62 [38, 103, 116, 59] 6 (by decide) (by decide)) ((s.data.toList.flatMap (rp 38 [38, 97, 109, 112, 59])).flatMap (rp 60 [38, 108, 116, 59]))
 have r1 := repl_eq s.data.toList 38 [38, 97, 109, 112, 59] (by decide) (by omega) (by decide)
 have r2 := repl_eq (s.data.toList.flatMap (rp 38 [38, 97, 109, 112, 59])) 60 [38, 108, 116, 59] (by decide) (by omega) (by decide)
 have r3 := repl_eq ((s.data.toList.flatMap (rp 38 [38, 97, 109, 112, 59])).flatMap (rp 60 [38, 108, 116, 59])) 62 [38, 103, 116, 59] (by decide) (by omega) (by decide)
 have r4 := repl_eq (((s.data.toList.flatMap (rp 38 [38, 97, 109, 112, 59])).flatMap (rp 60 [38, 108, 116, 59])).flatMap (rp 62 [38, 103, 116, 59])) 13 [38, 35, 49, 51, 59] (by decide) (by omega) (by decide)
 rw [mkB_self] at r1
 have e : esc false s = mkB ((((s.data.toList.flatMap (rp 38 [38, 97, 109, 112, 59])).flatMap (rp 60 [38, 108, 116, 59])).flatMap (rp 62 [38, 103, 116, 59])).flatMap (rp 13 [38, 35, 49, 51, 59])) := by
  unfold esc
  congr 1
  rw [List.flatMap_assoc, List.flatMap_assoc, List.flatMap_assoc]
  congr 1
  funext b
  rw [← esB_text b, List.flatMap_assoc, List.flatMap_assoc]
 rw [impl_EscText]
 show (strings_ReplaceAll s (mkB [38]) (mkB [38, 97, 109, 112, 59]) >>= fun r => strings_ReplaceAll r (mkB [60]) (mkB [38, 108, 116, 59]) >>= fun r1 => strings_ReplaceAll r1 (mkB [62]) (mkB [38, 103, 116, 59]) >>= fun r2 => strings_ReplaceAll r2 (mkB [13]) (mkB [38, 35, 49, 51, 59]) >>= fun r3 => some r3) = _
 rw [r1]
 simp only [some_bnd]
 rw [r2]
 simp only [some_bnd]
 rw [r3]
 simp only [some_bnd]
 rw [r4]
 simp only [some_bnd]
 rw [e]
theorem escAttr_impl (s : ByteArray) (hs : s.size ≤ 10000) : impl_EscAttr s = some (esc true s) := by
 have hl : s.data.toList.length ≤ 10000 := by rw [dlen]; exact hs
 have f0 := flatMap_le (esB_len false) s.data.toList
 have f1 := flatMap_le (rp_len 34 [38, 113, 117, 111, 116, 59] 6 (by decide) (by decide)) (s.data.toList.flatMap (esB false))
 have f2 := flatMap_le (rp_len 9 [38, 35, 57, 59] 6 (by decide) (by decide)) ((s.data.toList.flatMap (esB false)).flatMap (rp 34 [38, 113, 117, 111, 116, 59]))
 have r1 := repl_eq (s.data.toList.flatMap (esB false)) 34 [38, 113, 117, 111, 116, 59] (by decide) (by omega) (by decide)
 have r2 := repl_eq ((s.data.toList.flatMap (esB false)).flatMap (rp 34 [38, 113, 117, 111, 116, 59])) 9 [38, 35, 57, 59] (by decide) (by omega) (by decide)
 have r3 := repl_eq (((s.data.toList.flatMap (esB false)).flatMap (rp 34 [38, 113, 117, 111, 116, 59])).flatMap (rp 9 [38, 35, 57, 59])) 10 [38, 35, 49, 48, 59] (by decide) (by omega) (by decide)
 have e : esc true s = mkB ((((s.data.toList.flatMap (esB false)).flatMap (rp 34 [38, 113, 117, 111, 116, 59])).flatMap (rp 9 [38, 35, 57, 59])).flatMap (rp 10 [38, 35, 49, 48, 59])) := by
  unfold esc
  congr 1
  rw [List.flatMap_assoc, List.flatMap_assoc, List.flatMap_assoc]
  congr 1
  funext b
  rw [← esB_attr b, List.flatMap_assoc, List.flatMap_assoc]
 rw [impl_EscAttr, escText_impl s hs]
 show (strings_ReplaceAll (mkB (s.data.toList.flatMap (esB false))) (mkB [34]) (mkB [38, 113, 117, 111, 116, 59]) >>= fun r1 => strings_ReplaceAll r1 (mkB [9]) (mkB [38, 35, 57, 59]) >>= fun r2 => strings_ReplaceAll r2 (mkB [10]) (mkB [38, 35, 49, 48, 59]) >>= fun r3 => some r3) = _
 rw [r1]
 simp only [some_bnd]
 rw [r2]
 simp only [some_bnd]
 rw [r3]
 simp only [some_bnd]
 rw [e]
end TT
namespace TT
open Go
theorem eqU (b k : UInt8) : eqI (b.toNat : Int) (k.toNat : Int) = (b == k) := by
 rw [Bool.eq_iff_iff, eqI_iff, beq_iff_eq]
 constructor
 ·intro h; exact UInt8.toNat_inj.1 (by omega)
 ·intro h; rw [h]
theorem at_list {s : ByteArray} {pre rest : List UInt8} {b : UInt8} (h : pre ++ b :: rest = s.data.toList) : pre.length < s.size ∧ by' s pre.length = b.toNat ∧ s.extract pre.length (pre.length + 1) = mkB [b] := by
 have hlen : pre.length < s.data.toList.length := by rw [← h]; simp
 have hlt : pre.length < s.size := by rw [dlen] at hlen; exact hlen
 have hg : s.data.toList[pre.length]? = some b := by rw [← h]; simp
 refine ⟨hlt, ?_, ?_⟩
 ·show (s.data[pre.length]!).toNat = _
  have h' : pre.length < s.data.size := hlt
  rw [getElem!_pos s.data pre.length h']
  have : s.data[pre.length] = b := by
   rw [List.getElem?_eq_getElem hlen] at hg
   rw [← Array.getElem_toList]
   exact Option.some.inj hg
  rw [this]
 ·apply byteArray_data
  rw [ext_data, ← h]
  simp [mkB]
theorem cat_mk (a b : List UInt8) (h : a.length + b.length ≤ 4000000000) : catS (mkB a) (mkB b) = some (mkB (a ++ b)) := by
 rw [cat_ok (by rw [mkB_size, mkB_size]; exact h), mkB_app]
theorem escSpec_loop (s : ByteArray) (attr : Bool) (hs : s.size ≤ 10000) : ∀ (rest pre o : List UInt8), pre ++ rest = s.data.toList → o.length ≤ 6 * pre.length → spec_l3Esc_l8 s attr (mkB o) (pre.length : Int) = some (mkB (o ++ rest.flatMap (esB attr)))
 | [], pre, o, h, ho => by
  have hlen : pre.length = s.size := by rw [← dlen, ← h]; simp
  rw [spec_l3Esc_l8, ltI_f (by simp only [lenS]; omega), if_neg Bool.false_ne_true]
  simp
 | b :: rest, pre, o, h, ho => by
  obtain ⟨h1, h2, h3⟩ := at_list h
  have hl := esB_len attr b
  have ih := fun (o' : List UInt8) (h : o'.length ≤ 6 * (pre.length + 1)) => escSpec_loop s attr hs rest (pre ++ [b]) o' (by rw [← ‹pre ++ b :: rest = s.data.toList›]; simp) (by simpa using h)
  have ea : addI (pre.length : Int) 1 = ((pre.length + 1 : Nat) : Int) := by rw [addI_eq (by omega) (by omega)]; omega
  have hstep : ∀ o' : List UInt8, o' = esB attr b → (catS (mkB o) (mkB o') >>= fun x => spec_l3Esc_l8 s attr x (addI (pre.length : Int) 1)) = some (mkB (o ++ (b :: rest).flatMap (esB attr))) := fun o' e => by
   have hlen : (o ++ o').length ≤ 6 * (pre.length + 1) := by rw [List.length_append, e]; omega
   rw [cat_mk _ _ (by rw [e]; omega)]
   simp only [some_bnd]
   have := ih (o ++ o') hlen
   rw [List.length_append, List.length_singleton] at this
   rw [ea, this, List.flatMap_cons, e, List.append_assoc]
  rw [spec_l3Esc_l8, ltI_t (by simp only [lenS]; omega), if_pos rfl, ea, sub_ok s (by omega) (by omega), h3, atS_by rfl h1, h2]
  simp only [some_bnd]
  rw [← ea]
  have k38 : eqI (b.toNat : Int) 38 = (b == 38) := eqU b 38
  have k60 : eqI (b.toNat : Int) 60 = (b == 60) := eqU b 60
  have k62 : eqI (b.toNat : Int) 62 = (b == 62) := eqU b 62
  have k13 : eqI (b.toNat : Int) 13 = (b == 13) := eqU b 13
  have k34 : eqI (b.toNat : Int) 34 = (b == 34) := eqU b 34
  have k9 : eqI (b.toNat : Int) 9 = (b == 9) := eqU b 9
  have k10 : eqI (b.toNat : Int) 10 = (b == 10) := eqU b 10
  rw [k38, k60, k62, k13, k34, k9, k10]
  by_cases c1 : b = 38
  ·subst c1; exact hstep [38, 97, 109, 112, 59] (by cases attr <;> rfl)
  by_cases c2 : b = 60
  ·subst c2; exact hstep [38, 108, 116, 59] (by cases attr <;> rfl)
  by_cases c3 : b = 62
  ·subst c3; exact hstep [38, 103, 116, 59] (by cases attr <;> rfl)
  by_cases c4 : b = 13
  ·subst c4; exact hstep [38, 35, 49, 51, 59] (by cases attr <;> rfl)
  have n1 : (b == 38) = false := by simpa using c1
  have n2 : (b == 60) = false := by simpa using c2
  have n3 : (b == 62) = false := by simpa using c3
  have n4 : (b == 13) = false := by simpa using c4
  rw [n1, n2, n3, n4]
  simp only [Bool.false_eq_true, if_false]
  by_cases c5 : b = 34
  ·subst c5
   cases attr with
   | true => exact hstep [38, 113, 117, 111, 116, 59] rfl
   | false => exact hstep [34] rfl
  by_cases c6 : b = 9
  ·subst c6
   cases attr with
   | true => exact hstep [38, 35, 57, 59] rfl
   | false => exact hstep [9] rfl
  by_cases c7 : b = 10
  ·subst c7
   cases attr with
   | true => exact hstep [38, 35, 49, 48, 59] rfl
   | false => exact hstep [10] rfl
  have n5 : (b == 34) = false := by simpa using c5
  have n6 : (b == 9) = false := by simpa using c6
  have n7 : (b == 10) = false := by simpa using c7
  rw [n5, n6, n7]
  simp only [Bool.false_eq_true, if_false]
  exact hstep [b] (by unfold esB; rw [if_neg c1, if_neg c2, if_neg c3, if_neg c4, n5, n6, n7]; cases attr <;> rfl)
theorem esc_spec (s : ByteArray) (attr : Bool) (hs : s.size ≤ 10000) : spec_l3Esc s attr = some (esc attr s) := by
 rw [spec_l3Esc]
 exact escSpec_loop s attr hs s.data.toList [] [] rfl (Nat.zero_le _)
theorem escText_spec (s : ByteArray) (hs : s.size ≤ 10000) : spec_EscText s = some (esc false s) := by rw [spec_EscText, esc_spec s false hs]; rfl
theorem escAttr_spec (s : ByteArray) (hs : s.size ≤ 10000) : spec_EscAttr s = some (esc true s) := by rw [spec_EscAttr, esc_spec s true hs]; rfl
theorem esB_no (b : UInt8) : (∀ x ∈ esB false b, x ≠ 60 ∧ x ≠ 62) ∧ ∀ x ∈ esB true b, x ≠ 60 ∧ x ≠ 34 ∧ x ≠ 9 ∧ x ≠ 10 ∧ x ≠ 13 :=
 all256 (p := fun b => (∀ x ∈ esB false b, x ≠ 60 ∧ x ≠ 62) ∧ ∀ x ∈ esB true b, x ≠ 60 ∧ x ≠ 34 ∧ x ≠ 9 ∧ x ≠ 10 ∧ x ≠ 13) (by decide +kernel) b
theorem esc_by (attr : Bool) (s : ByteArray) {i : Nat} (h : i < (esc attr s).size) : ∃ b x, x ∈ esB attr b ∧ by' (esc attr s) i = x.toNat := by
 have h' : i < (s.data.toList.flatMap (esB attr)).length := by rw [← mkB_size]; exact h
 have hm := List.getElem_mem h'
 obtain ⟨b, _, hx⟩ := List.mem_flatMap.1 hm
 refine ⟨b, _, hx, ?_⟩
 show (((s.data.toList.flatMap (esB attr)).toArray)[i]!).toNat = _
 rw [getElem!_pos (s.data.toList.flatMap (esB attr)).toArray i (by simpa using h')]
 simp
theorem ne_nat {x k : UInt8} (h : x ≠ k) : eqI ((x.toNat : Nat) : Int) (k.toNat : Int) = false := by
 rw [eqU]; simpa using h
theorem esc_text_no (s : ByteArray) {i : Nat} (h : i < (esc false s).size) : eqI ((by' (esc false s) i : Nat) : Int) 60 = false ∧ eqI ((by' (esc false s) i : Nat) : Int) 62 = false := by
 obtain ⟨b, x, hx, e⟩ := esc_by false s h
 have := (esB_no b).1 x hx
 rw [e]
 exact ⟨ne_nat this.1, ne_nat this.2⟩
theorem esc_attr_no (s : ByteArray) {i : Nat} (h : i < (esc true s).size) : eqI ((by' (esc true s) i : Nat) : Int) 60 = false ∧ eqI ((by' (esc true s) i : Nat) : Int) 34 = false ∧ eqI ((by' (esc true s) i : Nat) : Int) 9 = false ∧ eqI ((by' (esc true s) i : Nat) : Int) 10 = false ∧ eqI ((by' (esc true s) i : Nat) : Int) 13 = false := by
 obtain ⟨b, x, hx, e⟩ := esc_by true s h
 obtain ⟨a1, a2, a3, a4, a5⟩ := (esB_no b).2 x hx
 rw [e]
 exact ⟨ne_nat a1, ne_nat a2, ne_nat a3, ne_nat a4, ne_nat a5⟩
end TT
