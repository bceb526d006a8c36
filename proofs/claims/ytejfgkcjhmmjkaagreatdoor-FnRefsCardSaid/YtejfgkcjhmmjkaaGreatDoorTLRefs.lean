import Derived.Test.YtejfgkcjhmmjkaaGreatDoorTP6Round
import Derived.Test.YtejfgkcjhmmjkaaGreatDoorTP6Draw
import Derived.Test.YtejfgkcjhmmjkaaGreatDoorTP1
set_option linter.unusedVariables false
set_option linter.unusedSimpArgs false
namespace TT
open Go
theorem esc_le (s : ByteArray) : (esc false s).size ≤ (esc true s).size := by
 unfold esc
 rw [mkB_size, mkB_size]
 have h1 : ∀ b : UInt8, (esB false b).length ≤ (esB true b).length := all256 (p := fun b => (esB false b).length ≤ (esB true b).length) (by decide +kernel)
 generalize s.data.toList = l
 induction l with
 | nil => exact Nat.le_refl _
 | cons b l ih =>
  have := h1 b
  simp only [List.flatMap_cons, List.length_append]
  omega
theorem l34_all (s : ByteArray) (r1 r3 : ByteArray) (r4 : ByteArray × List GEnt) (hs : (esc false s).size ≤ 100000) : ∀ (m i : Nat), i + m = (esc false s).size → laws_FnRefs_l34 r1 (esc false s) r3 r4 (i : Int) = laws_FnRefs_l55 r1 (esc false s) r3 r4 0
 | 0, i, h => by rw [laws_FnRefs_l34, ltI_f (by simp only [lenS]; omega), if_neg Bool.false_ne_true]
 | m + 1, i, h => by
  obtain ⟨n1, n2⟩ := esc_text_no s (i := i) (by omega)
  rw [laws_FnRefs_l34, ltI_t (by simp only [lenS]; omega), if_pos rfl, atS_by rfl (by omega)]
  simp only [some_bnd]
  rw [n1, n2, if_neg Bool.false_ne_true, if_neg Bool.false_ne_true, addI_eq (by omega) (by omega), show ((i : Int) + 1) = ((i + 1 : Nat) : Int) by omega]
  exact l34_all s r1 r3 r4 hs m (i + 1) (by omega)
theorem l55_all (s : ByteArray) (r1 r2 : ByteArray) (r4 : ByteArray × List GEnt) (hs : (esc true s).size ≤ 100000) {x : Option Bool} (hx : laws_FnRefs_l55 r1 r2 (esc true s) r4 ((esc true s).size : Int) = x) : ∀ (m i : Nat), i + m = (esc true s).size → laws_FnRefs_l55 r1 r2 (esc true s) r4 (i : Int) = x
 | 0, i, h => by rw [← hx, show i = (esc true s).size by omega]
 | m + 1, i, h => by
  obtain ⟨n1, n2, n3, n4, n5⟩ := esc_attr_no s (i := i) (by omega)
  rw [laws_FnRefs_l55, ltI_t (by simp only [lenS]; omega), if_pos rfl, atS_by rfl (by omega)]
  simp only [some_bnd]
  rw [n1, n2, n3, n4, n5]
  simp only [Bool.false_eq_true, if_false]
  rw [addI_eq (by omega) (by omega), show ((i : Int) + 1) = ((i + 1 : Nat) : Int) by omega]
  exact l55_all s r1 r2 r4 hs hx m (i + 1) (by omega)
theorem law_FnRefs (code : List Int) (hl : code.length ≤ maxLen) (hc : ∀ y ∈ code, 0 ≤ y ∧ y < 256) : laws_FnRefs code = some true := by
 rw [laws_FnRefs, laws_big]
 by_cases hb : code.length ≤ 1048576
 case neg => rw [gtI_t (by simp only [lenL]; omega)]; rfl
 rw [gtI_f (by simp only [lenL]; omega)]
 obtain ⟨s, es, hs⟩ := drawEsc_tot code hb
 obtain ⟨⟨e, l⟩, ee, he, hll, hsm⟩ := drawExp_tot code hb
 have he : e.size ≤ 800 := he
 have hll : l.length ≤ 20 := hll
 have hz : ∀ x ∈ l, x.Name.size ≤ 1048576 ∧ x.Val.size ≤ 1048576 := fun x hx => by have := hsm x hx; omega
 have hu := esc_size false s
 have hv := esc_size true s
 have hle := esc_le s
 have u1 := escText_impl s (by omega)
 have u2 := escAttr_impl s (by omega)
 have u3 := escText_spec s (by omega)
 have u4 := escAttr_spec s (by omega)
 obtain ⟨r, x1, x2⟩ := same_Expand e l (by omega) (by omega) hz
 obtain ⟨b, b1, b2, _⟩ := ents_both l (by omega) hz
 obtain ⟨t, t1, t2⟩ := text_any s
 obtain ⟨p, p1, p2⟩ := same_Expand (esc false s) l (by omega) (by omega) hz
 obtain ⟨q, q1, q2⟩ := same_Expand (esc true s) l (by omega) (by omega) hz
 simp only [some_bnd, Bool.false_eq_true, if_false, es, u1, u2, ee, x1, x2, neS_self, neB_self, b1, b2, u3, u4]
 have hend : laws_FnRefs_l55 s (esc false s) (esc true s) (e, l) ((esc true s).size : Int) = some true := by
  rw [laws_FnRefs_l55, ltI_f (by simp only [lenS]; omega), if_neg Bool.false_ne_true, t2]
  simp only [some_bnd]
  cases ht : t with
  | false => rfl
  | true =>
   rw [if_pos rfl]
   by_cases hv2 : (esc true s).size ≤ 1500
   ·rw [gtI_f (by simp only [lenS]; omega), if_neg Bool.false_ne_true, p2, q2, b2]
    simp only [some_bnd]
    cases hbb : b with
    | false => rfl
    | true =>
     rw [ht] at t1
     rw [hbb] at b1
     have e1 := round_trip s false l hs (by omega) t1 b1
     have e2 := round_trip s true l hs hv2 t1 b1
     rw [p1] at e1
     rw [q1] at e2
     rw [Option.some.inj e1, Option.some.inj e2]
     simp only [if_true, eqS_self]
   ·rw [gtI_t (by simp only [lenS]; omega), if_pos rfl]
 have h34 := l34_all s s (esc true s) (e, l) (by omega) (esc false s).size 0 (by omega)
 have h55 := l55_all s s (esc false s) (e, l) (by omega) hend (esc true s).size 0 (by omega)
 have h34' : laws_FnRefs_l34 s (esc false s) (esc true s) (e, l) 0 = laws_FnRefs_l55 s (esc false s) (esc true s) (e, l) 0 := h34
 rw [h34']
 exact h55
end TT
