import Derived.Test.YtejfgkcjhmmjkaaGreatDoorTP6Esc
set_option linter.unusedVariables false
set_option linter.unusedSimpArgs false
namespace TT
open Go
theorem sg_asc {s : ByteArray} {i : Nat} (h : by' s i < 128) : sg s i = (((by' s i : Nat) : Int), ((i + 1 : Nat) : Int), true) := by
 rw [sg_N]
 unfold sgN Lib.decodeN
 rw [if_pos h]
 rw [if_neg (by simp only; omega)]
theorem dec_key (n n' b0 b1 b2 b3 c1 c2 c3 : Nat) (hb : ¬ b0 < 128) (h : ¬ ((Lib.decodeN n b0 b1 b2 b3).1 = 65533 ∧ (Lib.decodeN n b0 b1 b2 b3).2 ≤ 1)) :
  ∃ (k v : Nat), 2 ≤ k ∧ k ≤ n ∧ k ≤ 4 ∧ (128 ≤ b1) ∧ (3 ≤ k → 128 ≤ b2) ∧ (4 ≤ k → 128 ≤ b3) ∧ Lib.decodeN n b0 b1 b2 b3 = (v, k) ∧
   (k ≤ n' → c1 = b1 → (3 ≤ k → c2 = b2) → (4 ≤ k → c3 = b3) → Lib.decodeN n' b0 c1 c2 c3 = (v, k)) := by
 by_cases t2 : b0 / 32 = 6 ∧ 1 < n ∧ b1 / 64 = 2
 ·by_cases v2 : b0 % 32 * 64 + b1 % 64 ≥ 128
  ·refine ⟨2, b0 % 32 * 64 + b1 % 64, by omega, by omega, by omega, by omega, by omega, by omega, by unfold Lib.decodeN; rw [if_neg hb, if_pos t2, if_pos v2], fun g1 g2 g3 g4 => ?_⟩
   subst g2
   unfold Lib.decodeN
   rw [if_neg hb, if_pos ⟨t2.1, by omega, t2.2.2⟩, if_pos v2]
  ·exact absurd (show (Lib.decodeN n b0 b1 b2 b3).1 = 65533 ∧ (Lib.decodeN n b0 b1 b2 b3).2 ≤ 1 by unfold Lib.decodeN; rw [if_neg hb, if_pos t2, if_neg v2]; exact ⟨rfl, Nat.le_refl _⟩) h
 by_cases t3 : b0 / 16 = 14 ∧ (1 < n ∧ b1 / 64 = 2) ∧ 2 < n ∧ b2 / 64 = 2
 ·by_cases v3 : b0 % 16 * 4096 + b1 % 64 * 64 + b2 % 64 ≥ 2048 ∧ (b0 % 16 * 4096 + b1 % 64 * 64 + b2 % 64 < 55296 ∨ (57344 ≤ b0 % 16 * 4096 + b1 % 64 * 64 + b2 % 64 ∧ b0 % 16 * 4096 + b1 % 64 * 64 + b2 % 64 ≤ 1114111))
  ·refine ⟨3, b0 % 16 * 4096 + b1 % 64 * 64 + b2 % 64, by omega, by omega, by omega, by omega, by omega, by omega, by unfold Lib.decodeN; rw [if_neg hb, if_neg t2, if_pos t3, if_pos v3], fun g1 g2 g3 g4 => ?_⟩
   have g3 := g3 (Nat.le_refl _)
   subst g2 g3
   unfold Lib.decodeN
   rw [if_neg hb, if_neg (show ¬ (b0 / 32 = 6 ∧ 1 < n' ∧ c1 / 64 = 2) by omega), if_pos ⟨t3.1, ⟨by omega, t3.2.1.2⟩, by omega, t3.2.2.2⟩, if_pos v3]
  ·exact absurd (show (Lib.decodeN n b0 b1 b2 b3).1 = 65533 ∧ (Lib.decodeN n b0 b1 b2 b3).2 ≤ 1 by unfold Lib.decodeN; rw [if_neg hb, if_neg t2, if_pos t3, if_neg v3]; exact ⟨rfl, Nat.le_refl _⟩) h
 by_cases t4 : b0 / 8 = 30 ∧ (1 < n ∧ b1 / 64 = 2) ∧ (2 < n ∧ b2 / 64 = 2) ∧ 3 < n ∧ b3 / 64 = 2
 ·by_cases v4 : b0 % 8 * 262144 + b1 % 64 * 4096 + b2 % 64 * 64 + b3 % 64 ≥ 65536 ∧ (b0 % 8 * 262144 + b1 % 64 * 4096 + b2 % 64 * 64 + b3 % 64 < 55296 ∨ (57344 ≤ b0 % 8 * 262144 + b1 % 64 * 4096 + b2 % 64 * 64 + b3 % 64 ∧ b0 % 8 * 262144 + b1 % 64 * 4096 + b2 % 64 * 64 + b3 % 64 ≤ 1114111))
  ·refine ⟨4, b0 % 8 * 262144 + b1 % 64 * 4096 + b2 % 64 * 64 + b3 % 64, by omega, by omega, by omega, by omega, by omega, by omega, by unfold Lib.decodeN; rw [if_neg hb, if_neg t2, if_neg t3, if_pos t4, if_pos v4], fun g1 g2 g3 g4 => ?_⟩
   have g3 := g3 (by omega)
   have g4 := g4 (by omega)
   subst g2 g3 g4
   unfold Lib.decodeN
   rw [if_neg hb, if_neg (show ¬ (b0 / 32 = 6 ∧ 1 < n' ∧ c1 / 64 = 2) by omega), if_neg (show ¬ (b0 / 16 = 14 ∧ (1 < n' ∧ c1 / 64 = 2) ∧ 2 < n' ∧ c2 / 64 = 2) by omega), if_pos ⟨t4.1, ⟨by omega, t4.2.1.2⟩, ⟨by omega, t4.2.2.1.2⟩, by omega, t4.2.2.2.2⟩, if_pos v4]
  ·exact absurd (show (Lib.decodeN n b0 b1 b2 b3).1 = 65533 ∧ (Lib.decodeN n b0 b1 b2 b3).2 ≤ 1 by unfold Lib.decodeN; rw [if_neg hb, if_neg t2, if_neg t3, if_pos t4, if_neg v4]; exact ⟨rfl, Nat.le_refl _⟩) h
 ·exact absurd (show (Lib.decodeN n b0 b1 b2 b3).1 = 65533 ∧ (Lib.decodeN n b0 b1 b2 b3).2 ≤ 1 by unfold Lib.decodeN; rw [if_neg hb, if_neg t2, if_neg t3, if_neg t4]; exact ⟨rfl, Nat.le_refl _⟩) h
theorem sg_two {s : ByteArray} {i : Nat} (hi : i < s.size) (hok : (sg s i).2.2 = true) : by' s i < 128 ∨ ∃ (k v : Nat), 2 ≤ k ∧ i + k ≤ s.size ∧ (∀ t, t < k → 128 ≤ by' s (i + t)) ∧ sg s i = ((v : Int), ((i + k : Nat) : Int), true) ∧
  ∀ (u : ByteArray) (j : Nat), j + k ≤ u.size → (∀ t, t < k → by' u (j + t) = by' s (i + t)) → sg u j = ((v : Int), ((j + k : Nat) : Int), true) := by
 by_cases h0 : by' s i < 128
 ·exact .inl h0
 refine .inr ?_
 rw [sg_N] at hok ⊢
 have hd : ¬ ((Lib.decodeN (s.size - i) (by' s i) (by' s (i + 1)) (by' s (i + 2)) (by' s (i + 3))).1 = 65533 ∧ (Lib.decodeN (s.size - i) (by' s i) (by' s (i + 1)) (by' s (i + 2)) (by' s (i + 3))).2 ≤ 1) := fun h => by
  unfold sgN at hok
  rw [if_pos h] at hok
  cases hok
 have mk : ∀ {n b0 b1 b2 b3 j k v : Nat}, Lib.decodeN n b0 b1 b2 b3 = (v, k) → 2 ≤ k → sgN n b0 b1 b2 b3 j = ((v : Int), ((j + k : Nat) : Int), true) := fun {n b0 b1 b2 b3 j k v} h hk => by
  unfold sgN
  rw [h, if_neg (by simp only; omega)]
 obtain ⟨k, v, k1, k2, k3, k4, k5, k6, k7, _⟩ := dec_key (s.size - i) 0 (by' s i) (by' s (i + 1)) (by' s (i + 2)) (by' s (i + 3)) 0 0 0 h0 hd
 refine ⟨k, v, k1, by omega, fun t ht => ?_, mk k7 k1, fun u j hj hs => ?_⟩
 ·match t, ht with
  | 0, _ => rw [Nat.add_zero]; omega
  | 1, _ => exact k4
  | 2, ht => exact k5 (by omega)
  | 3, ht => exact k6 (by omega)
  | t + 4, ht => omega
 ·obtain ⟨k', v', l1, l2, l3, l4, l5, l6, l7, l8⟩ := dec_key (s.size - i) (u.size - j) (by' s i) (by' s (i + 1)) (by' s (i + 2)) (by' s (i + 3)) (by' u (j + 1)) (by' u (j + 2)) (by' u (j + 3)) h0 hd
  rw [k7] at l7
  injection l7 with e1 e3
  subst e1 e3
  have b0 : by' u j = by' s i := hs 0 (by omega)
  rw [sg_N, b0]
  exact mk (l8 (by omega) (hs 1 (by omega)) (fun h => hs 2 (by omega)) (fun h => hs 3 (by omega))) k1
theorem by_mk (A X Z : List UInt8) (t : Nat) (x : UInt8) (h : X[t]? = some x) : A.length + t < (mkB (A ++ X ++ Z)).size ∧ by' (mkB (A ++ X ++ Z)) (A.length + t) = x.toNat := by
 have ht := (List.getElem?_eq_some_iff.1 h).1
 have hlt : A.length + t < (A ++ X ++ Z).length := by simp; omega
 refine ⟨by rw [mkB_size]; exact hlt, ?_⟩
 have hg : (A ++ X ++ Z)[A.length + t]? = some x := by
  rw [List.append_assoc, List.getElem?_append_right (by omega), show A.length + t - A.length = t by omega, List.getElem?_append_left ht]
  exact h
 show ((A ++ X ++ Z).toArray[A.length + t]!).toNat = _
 rw [getElem!_pos (A ++ X ++ Z).toArray (A.length + t) (by simpa using hlt)]
 rw [List.getElem?_eq_getElem hlt] at hg
 have := Option.some.inj hg
 simp only [List.getElem_toArray]
 rw [this]
theorem ascii_run (u : ByteArray) (hu : u.size ≤ 1500) : ∀ (X A Z : List UInt8), u = mkB (A ++ X ++ Z) → (∀ x ∈ X, x.toNat < 128 ∧ signB (x.toNat : Int) = true) → spec_l1Signs_l6 u (A.length : Int) = spec_l1Signs_l6 u ((A.length + X.length : Nat) : Int)
 | [], A, Z, h, hx => rfl
 | x :: X, A, Z, h, hx => by
  obtain ⟨h1, h2⟩ := by_mk A (x :: X) Z 0 x rfl
  rw [← h, Nat.add_zero] at h1 h2
  obtain ⟨x1, x2⟩ := hx x (List.mem_cons_self ..)
  have hs := sg_asc (s := u) (i := A.length) (by omega)
  rw [spec_l1Signs_l6, ltI_t (by simp only [lenS]; omega), if_pos rfl, sg_spec h1 (by omega), hs]
  simp only [some_bnd, if_true, sign_spec]
  rw [h2, x2, if_pos rfl]
  have ih := ascii_run u hu X (A ++ [x]) Z (by rw [h]; simp) (fun y hy => hx y (List.mem_cons_of_mem _ hy))
  rw [List.length_append, List.length_singleton] at ih
  rw [ih]
  simp only [List.length_cons]
  rw [show A.length + 1 + X.length = A.length + (X.length + 1) by omega]
theorem esB_sign (attr : Bool) (b : UInt8) (h1 : b.toNat < 128) (h2 : signB (b.toNat : Int) = true) : ∀ x ∈ esB attr b, x.toNat < 128 ∧ signB (x.toNat : Int) = true := by
 cases attr
 ·exact all256 (p := fun b => b.toNat < 128 → signB (b.toNat : Int) = true → ∀ x ∈ esB false b, x.toNat < 128 ∧ signB (x.toNat : Int) = true) (by decide +kernel) b h1 h2
 ·exact all256 (p := fun b => b.toNat < 128 → signB (b.toNat : Int) = true → ∀ x ∈ esB true b, x.toNat < 128 ∧ signB (x.toNat : Int) = true) (by decide +kernel) b h1 h2
theorem esB_high (attr : Bool) (b : UInt8) (h : 128 ≤ b.toNat) : esB attr b = [b] := by
 cases attr
 ·exact all256 (p := fun b => 128 ≤ b.toNat → esB false b = [b]) (by decide +kernel) b h
 ·exact all256 (p := fun b => 128 ≤ b.toNat → esB true b = [b]) (by decide +kernel) b h
theorem by_list {s : ByteArray} {pre rest : List UInt8} (h : pre ++ rest = s.data.toList) {t : Nat} {x : UInt8} (hx : rest[t]? = some x) : by' s (pre.length + t) = x.toNat := by
 have := (by_mk pre rest [] t x hx).2
 rw [List.append_nil, h, mkB_self] at this
 exact this
theorem high_map (attr : Bool) : ∀ X : List UInt8, (∀ x ∈ X, 128 ≤ x.toNat) → X.flatMap (esB attr) = X
 | [], _ => rfl
 | x :: X, h => by
  rw [List.flatMap_cons, esB_high attr x (h x (List.mem_cons_self ..)), high_map attr X fun y hy => h y (List.mem_cons_of_mem _ hy)]
  rfl
theorem signs_esc (s : ByteArray) (attr : Bool) (hs : s.size ≤ 1500) (hu : (esc attr s).size ≤ 1500) : ∀ (m : Nat) (rest pre : List UInt8), pre ++ rest = s.data.toList → rest.length ≤ m → spec_l1Signs_l6 s (pre.length : Int) = some true →
  spec_l1Signs_l6 (esc attr s) ((pre.flatMap (esB attr)).length : Int) = some true := by
 have huz : (esc attr s).size = (s.data.toList.flatMap (esB attr)).length := mkB_size _
 have fin : ∀ pre : List UInt8, pre = s.data.toList → spec_l1Signs_l6 (esc attr s) ((pre.flatMap (esB attr)).length : Int) = some true := fun pre h => by
  subst h
  rw [spec_l1Signs_l6, ltI_f (by simp only [lenS]; omega), if_neg Bool.false_ne_true, leI_t (by simp only [lenS]; omega)]
 intro m
 induction m with
 | zero =>
  intro rest pre h hm _
  have : rest = [] := List.length_eq_zero_iff.1 (by omega)
  subst this
  exact fin pre (by simpa using h)
 | succ m ih =>
  intro rest pre h hm hsp
  cases rest with
  | nil => exact fin pre (by simpa using h)
  | cons b rest =>
   obtain ⟨h1, h2, _⟩ := at_list h
   have hU : ∀ X Z : List UInt8, X ++ Z = b :: rest → esc attr s = mkB (pre.flatMap (esB attr) ++ X.flatMap (esB attr) ++ Z.flatMap (esB attr)) := fun X Z e => by
    unfold esc
    rw [← h, ← e, List.flatMap_append, List.flatMap_append, List.append_assoc]
   rw [spec_l1Signs_l6, ltI_t (by simp only [lenS]; omega), if_pos rfl, sg_spec h1 (by omega)] at hsp
   simp only [some_bnd, sign_spec] at hsp
   cases hok : (sg s pre.length).2.2 with
   | false => rw [hok] at hsp; simp at hsp
   | true =>
    rw [hok, if_pos rfl] at hsp
    have hsg : signB (sg s pre.length).1 = true := by
     cases hq : signB (sg s pre.length).1 with
     | true => rfl
     | false => rw [hq] at hsp; simp at hsp
    rw [hsg, if_pos rfl] at hsp
    rcases sg_two h1 hok with ha | ⟨k, v, k1, k2, k3, k4, k5⟩
    ·have hs1 := sg_asc ha
     rw [hs1] at hsp hsg
     simp only at hsp hsg
     rw [h2] at hsg ha
     have hrun := ascii_run (esc attr s) hu (esB attr b) (pre.flatMap (esB attr)) (rest.flatMap (esB attr)) (by rw [hU [b] rest rfl]; simp) (esB_sign attr b ha hsg)
     rw [hrun]
     have := ih rest (pre ++ [b]) (by rw [← h]; simp) (by simp at hm; omega) (by rw [List.length_append, List.length_singleton]; exact hsp)
     rw [List.flatMap_append, List.length_append] at this
     simpa using this
    ·-- more bytes than one
     have hkl : k ≤ (b :: rest).length := by
      have e1 : pre.length + (b :: rest).length = s.size := by rw [← dlen, ← h]; simp
      omega
     have hsplit : (b :: rest).take k ++ (b :: rest).drop k = b :: rest := List.take_append_drop _ _
     have hhi : ∀ x ∈ (b :: rest).take k, 128 ≤ x.toNat := fun x hx => by
      obtain ⟨t, ht, e⟩ := List.getElem_of_mem hx
      have ht' : t < k := by rw [List.length_take] at ht; omega
      have hg : (b :: rest)[t]? = some x := by
       rw [List.getElem_take] at e
       rw [List.getElem?_eq_getElem (by omega), e]
      rw [← by_list h hg]
      exact k3 t ht'
     have hX := high_map attr _ hhi
     have hlen : ((b :: rest).take k).length = k := by rw [List.length_take]; omega
     have hsame : ∀ t, t < k → by' (esc attr s) ((pre.flatMap (esB attr)).length + t) = by' s (pre.length + t) := fun t ht => by
      have hg : ((b :: rest).take k)[t]? = some ((b :: rest).take k)[t] := List.getElem?_eq_getElem (by omega)
      have e1 := (by_mk (pre.flatMap (esB attr)) ((b :: rest).take k) (((b :: rest).drop k).flatMap (esB attr)) t _ hg).2
      have e2 := hU _ _ hsplit
      rw [hX] at e2
      rw [← e2] at e1
      have hg2 : (b :: rest)[t]? = some ((b :: rest).take k)[t] := by
       rw [List.getElem_take, List.getElem?_eq_getElem (by omega)]
      rw [e1, by_list h hg2]
     have hfit : (pre.flatMap (esB attr)).length + k ≤ (esc attr s).size := by
      have e2 := hU _ _ hsplit
      rw [hX] at e2
      rw [e2, mkB_size]
      simp only [List.length_append, hlen]
      omega
     have hsu := k5 (esc attr s) (pre.flatMap (esB attr)).length hfit hsame
     rw [k4] at hsp hsg
     simp only at hsp hsg
     rw [spec_l1Signs_l6, ltI_t (by simp only [lenS]; omega), if_pos rfl, sg_spec (by omega) (by omega), hsu]
     simp only [some_bnd, if_true, sign_spec]
     rw [hsg, if_pos rfl]
     have := ih ((b :: rest).drop k) (pre ++ (b :: rest).take k) (by rw [List.append_assoc, hsplit]; exact h) (by rw [List.length_drop]; simp only [List.length_cons] at hm ⊢; omega) (by rw [List.length_append, hlen]; exact hsp)
     rw [List.flatMap_append, hX, List.length_append, hlen] at this
     exact this
theorem eqS_f {x y : ByteArray} (h : x ≠ y) : eqS x y = false := by
 cases h' : eqS x y with
 | false => rfl
 | true => exact absurd (eqS_iff.1 h') h
theorem one_known (x r : ByteArray) (l : List GEnt) (h0 : gtI (lenS x) 1 = true) (c : Nat) (h1 : by' x 0 = c) (hc : c ≠ 35) (hk : spec_l3Known x = some r) (hr : neS r ⟨#[]⟩ = true) : spec_l3One x l = some (r, true) := by
 have hs : 1 < x.size := by
  have h := h0
  have h2 : (1 : Int) < (x.size : Int) := of_decide_eq_true h
  omega
 have a0 : atS x 0 = some ((by' x 0 : Nat) : Int) := atS_by (k := 0) rfl (by omega)
 rw [spec_l3One, h0, if_pos rfl, a0]
 simp only [some_bnd]
 rw [eqI_f (by omega), spec_l3One_j3, if_neg Bool.false_ne_true, hk]
 simp only [some_bnd]
 rw [hr, if_pos rfl]
theorem one_num (x : ByteArray) (l : List GEnt) (n : Nat) (hs : 2 ≤ x.size) (h7 : x.size ≤ 8) (h0 : by' x 0 = 35) (h1 : by' x 1 ≠ 120) (hn : numF (x.extract 1 x.size) 10 (x.extract 1 x.size).size 0 0 = some n) (hv : n < 128) (hg : signB (n : Int) = true) : spec_l3One x l = some (mkB [UInt8.ofNat n], true) := by
 have a0 : atS x 0 = some ((by' x 0 : Nat) : Int) := atS_by (k := 0) rfl (by omega)
 have a1 : atS x 1 = some ((by' x 1 : Nat) : Int) := atS_by (k := 1) rfl (by omega)
 have es : subS x 1 (lenS x) = some (x.extract 1 x.size) := sub_ok x (a := 1) (b := x.size) (by omega) (Nat.le_refl _)
 have hz : (x.extract 1 x.size).size = x.size - 1 := ext_size _ _ _ (Nat.le_refl _)
 have hl : spec_l3Number (x.extract 1 x.size) 10 7 = some (n : Int) := by
  have := spec_num_loop (x.extract 1 x.size) 10 (by decide) (by omega) (x.extract 1 x.size).size 0 0 (by omega) (by decide)
  rw [hn] at this
  rw [spec_l3Number, l1In_eq]
  simp only [some_bnd]
  rw [decide_eq_true ⟨by simp only [lenS]; omega, by simp only [lenS]; omega⟩, if_pos rfl]
  exact this
 have ht : spec_SignText (n : Int) = some (runeS (n : Int)) := signText_spec (by omega) (by omega)
 have hr : runeS (n : Int) = mkB [UInt8.ofNat n] := by
  have hv' : Utf8.valid (n : Int) = true := by unfold Utf8.valid; simp; omega
  unfold runeS Utf8.encode
  simp only [hv', if_true, Int.toNat_natCast]
  rw [if_pos hv]
  rfl
 rw [spec_l3One, gtI_t (by simp only [lenS]; omega), if_pos rfl, a0]
 simp only [some_bnd]
 rw [eqI_t (by omega), spec_l3One_j3, if_pos rfl, a1]
 simp only [some_bnd]
 rw [eqI_f (by omega), if_neg Bool.false_ne_true, es]
 simp only [some_bnd]
 rw [hl]
 simp only [some_bnd]
 rw [spec_l3One_j8, ht, sign_spec, hg, hr]
 simp only [some_bnd]
 rw [geI_t (by omega)]
 rfl
theorem escShape (attr : Bool) (b : UInt8) : (esB attr b = [b] ∧ b ≠ 38) ∨ ∃ N : List UInt8, esB attr b = 38 :: (N ++ [59]) ∧ (∀ x ∈ N, x ≠ 59) ∧ N.length ≤ 4 ∧ ∀ l, spec_l3One (mkB N) l = some (mkB [b], true) := by
 by_cases c1 : b = 38
 ·subst c1
  refine .inr ⟨[97, 109, 112], by cases attr <;> rfl, by decide, by decide, fun l => ?_⟩
  have hk : spec_l3Known (mkB [97, 109, 112]) = some (mkB [38]) := by
   rw [spec_l3Known, eqS_f (by decide), eqS_f (by decide), eqS_iff.2 (show mkB [97, 109, 112] = ⟨#[97, 109, 112]⟩ from rfl)]; rfl
  exact one_known _ _ l (by decide) 97 (by decide) (by decide) hk (neS_t (by decide))
 by_cases c2 : b = 60
 ·subst c2
  refine .inr ⟨[108, 116], by cases attr <;> rfl, by decide, by decide, fun l => ?_⟩
  have hk : spec_l3Known (mkB [108, 116]) = some (mkB [60]) := by
   rw [spec_l3Known, eqS_iff.2 (show mkB [108, 116] = ⟨#[108, 116]⟩ from rfl)]; rfl
  exact one_known _ _ l (by decide) 108 (by decide) (by decide) hk (neS_t (by decide))
 by_cases c3 : b = 62
 ·subst c3
  refine .inr ⟨[103, 116], by cases attr <;> rfl, by decide, by decide, fun l => ?_⟩
  have hk : spec_l3Known (mkB [103, 116]) = some (mkB [62]) := by
   rw [spec_l3Known, eqS_f (by decide), eqS_iff.2 (show mkB [103, 116] = ⟨#[103, 116]⟩ from rfl)]; rfl
  exact one_known _ _ l (by decide) 103 (by decide) (by decide) hk (neS_t (by decide))
 by_cases c4 : b = 13
 ·subst c4
  refine .inr ⟨[35, 49, 51], by cases attr <;> rfl, by decide, by decide, fun l => ?_⟩
  exact one_num (mkB [35, 49, 51]) l 13 (by decide) (by decide) (by decide) (by decide) (by decide) (by decide) (by decide)
 have e0 : ¬ (b = 34 ∨ b = 9 ∨ b = 10) → esB attr b = [b] := fun h => by
  unfold esB
  rw [if_neg c1, if_neg c2, if_neg c3, if_neg c4]
  have n5 : (b == 34) = false := by simpa using fun e => h (.inl e)
  have n6 : (b == 9) = false := by simpa using fun e => h (.inr (.inl e))
  have n7 : (b == 10) = false := by simpa using fun e => h (.inr (.inr e))
  rw [n5, n6, n7]
  cases attr <;> rfl
 by_cases h : b = 34 ∨ b = 9 ∨ b = 10
 case neg => exact .inl ⟨e0 h, c1⟩
 cases attr with
 | false =>
  refine .inl ⟨?_, c1⟩
  rcases h with h | h | h <;> (subst h; rfl)
 | true =>
  rcases h with h | h | h
  ·subst h
   refine .inr ⟨[113, 117, 111, 116], rfl, by decide, by decide, fun l => ?_⟩
   have hk : spec_l3Known (mkB [113, 117, 111, 116]) = some (mkB [34]) := by
    rw [spec_l3Known, eqS_f (by decide), eqS_f (by decide), eqS_f (by decide), eqS_f (by decide), eqS_iff.2 (show mkB [113, 117, 111, 116] = ⟨#[113, 117, 111, 116]⟩ from rfl)]; rfl
   exact one_known _ _ l (by decide) 113 (by decide) (by decide) hk (neS_t (by decide))
  ·subst h
   refine .inr ⟨[35, 57], rfl, by decide, by decide, fun l => ?_⟩
   exact one_num (mkB [35, 57]) l 9 (by decide) (by decide) (by decide) (by decide) (by decide) (by decide) (by decide)
  ·subst h
   refine .inr ⟨[35, 49, 48], rfl, by decide, by decide, fun l => ?_⟩
   exact one_num (mkB [35, 49, 48]) l 10 (by decide) (by decide) (by decide) (by decide) (by decide) (by decide) (by decide)
theorem round_loop (s : ByteArray) (attr : Bool) (l : List GEnt) (hs : s.size ≤ 601) (hT : spec_TextOk s = some true) : ∀ (rest pre : List UInt8), pre ++ rest = s.data.toList →
  spec_Expand_l16 (esc attr s) l (mkB pre) ((pre.flatMap (esB attr)).length : Int) = some (s, true)
 | [], pre, h => by
  have huz : (esc attr s).size = (s.data.toList.flatMap (esB attr)).length := mkB_size _
  rw [List.append_nil] at h
  subst h
  rw [spec_Expand_l16, ltI_f (by simp only [lenS]; omega), if_neg Bool.false_ne_true, mkB_self, hT]
  rfl
 | b :: rest, pre, h => by
  have hsz := esc_size attr s
  have hpl : pre.length ≤ s.size := by rw [← dlen, ← h]; simp
  have ih := round_loop s attr l hs hT rest (pre ++ [b]) (by rw [← h]; simp)
  rw [List.flatMap_append, List.length_append] at ih
  have hone : [b].flatMap (esB attr) = esB attr b := by simp
  rw [hone] at ih
  have hU : (esc attr s).data.toList = pre.flatMap (esB attr) ++ (esB attr b ++ rest.flatMap (esB attr)) := by
   show s.data.toList.flatMap (esB attr) = _
   rw [← h, List.flatMap_append, List.flatMap_cons]
  have hcat : catS (mkB pre) (mkB [b]) = some (mkB (pre ++ [b])) := cat_mk _ _ (by simp; omega)
  generalize hA : pre.flatMap (esB attr) = A at *
  rcases escShape attr b with ⟨e1, e2⟩ | ⟨N, e1, e2, e3, e4⟩
  ·rw [e1] at hU ih
   obtain ⟨g1, g2, g3⟩ := at_list (s := esc attr s) (pre := A) (rest := rest.flatMap (esB attr)) (b := b) (by rw [hU]; rfl)
   have hne : neI ((b.toNat : Nat) : Int) 38 = true := by
    rw [neI_eq, show (38 : Int) = (((38 : UInt8).toNat : Nat) : Int) from rfl, eqU]
    simpa using e2
   rw [spec_Expand_l16, ltI_t (by simp only [lenS]; omega), if_pos rfl, atS_by rfl g1, g2]
   simp only [some_bnd]
   rw [hne, if_pos rfl, addI_eq (by omega) (by omega), show ((A.length : Int) + 1) = ((A.length + 1 : Nat) : Int) by omega, sub_ok _ (by omega) (by omega), g3]
   simp only [some_bnd]
   rw [hcat]
   simp only [some_bnd]
   exact ih
  ·rw [e1] at hU ih
   have hlen : (38 :: (N ++ [59])).length = N.length + 2 := by simp
   rw [hlen] at ih
   have hfull : A ++ (38 :: (N ++ [59])) ++ rest.flatMap (esB attr) = (esc attr s).data.toList := by rw [hU, List.append_assoc]
   have hby : ∀ (t : Nat) (x : UInt8), (38 :: (N ++ [59]))[t]? = some x → A.length + t < (esc attr s).size ∧ by' (esc attr s) (A.length + t) = x.toNat := fun t x hx => by
    have := by_mk A (38 :: (N ++ [59])) (rest.flatMap (esB attr)) t x hx
    rw [hfull, mkB_self] at this
    exact this
   obtain ⟨g0, g1⟩ := hby 0 38 rfl
   obtain ⟨q0, q1⟩ := hby (N.length + 1) 59 (by simp)
   rw [Nat.add_zero] at g0 g1
   have hne : neI ((by' (esc attr s) A.length : Nat) : Int) 38 = false := by rw [neI_eq, g1]; rfl
   have hno : ∀ j, A.length ≤ j → j < A.length + (N.length + 1) → by' (esc attr s) j ≠ 59 := fun j j1 j2 => by
    obtain ⟨t, rfl⟩ : ∃ t, j = A.length + t := ⟨j - A.length, by omega⟩
    cases t with
    | zero => rw [Nat.add_zero, g1]; decide
    | succ t =>
     have ht : t < N.length := by omega
     obtain ⟨_, e⟩ := hby (t + 1) N[t] (by show (N ++ [59])[t]? = _; rw [List.getElem?_append_left ht, List.getElem?_eq_getElem ht])
     rw [e]
     intro hh
     exact e2 N[t] (List.getElem_mem ht) (UInt8.toNat_inj.1 hh)
   have hin := inner (esc attr s) l (mkB pre) (A.length : Int) (by omega) (N.length + 1) A.length (by omega) hno
   have hx : (esc attr s).extract (A.length + 1) (A.length + (N.length + 1)) = mkB N := by
    apply byteArray_data
    rw [ext_data, ← hfull]
    have e5 : (A ++ 38 :: (N ++ [59]) ++ rest.flatMap (esB attr)).drop (A.length + 1) = N ++ (59 :: rest.flatMap (esB attr)) := by
     rw [List.append_assoc, List.drop_length_add_append]
     simp
    rw [e5, show A.length + (N.length + 1) - (A.length + 1) = N.length by omega, List.take_left]
    rfl
   have ea : addI (A.length : Int) 1 = ((A.length + 1 : Nat) : Int) := by rw [addI_eq (by omega) (by omega)]; omega
   have eb : addI ((A.length + (N.length + 1) : Nat) : Int) 1 = ((A.length + (N.length + 2) : Nat) : Int) := by rw [addI_eq (by omega) (by omega)]; omega
   have hne2 : neI ((by' (esc attr s) (A.length + (N.length + 1)) : Nat) : Int) 59 = false := by rw [neI_eq, q1]; rfl
   rw [spec_Expand_l16, ltI_t (by simp only [lenS]; omega), if_pos rfl, atS_by rfl g0]
   simp only [some_bnd]
   rw [hne, if_neg Bool.false_ne_true, hin, spec_Expand_l37, ltI_t (by simp only [lenS]; omega), if_pos rfl, atS_by rfl q0]
   simp only [some_bnd]
   rw [hne2, if_neg Bool.false_ne_true, spec_Expand_j35, eqI_f (by simp only [lenS]; omega), if_neg Bool.false_ne_true, ea, sub_ok _ (by omega) (by omega), hx]
   simp only [some_bnd, e4, if_true]
   rw [hcat]
   simp only [some_bnd]
   rw [eb]
   exact ih
theorem round_trip (s : ByteArray) (attr : Bool) (l : List GEnt) (hs : s.size ≤ 601) (hu : (esc attr s).size ≤ 1500) (hT : spec_TextOk s = some true) (hE : spec_EntsOk l = some true) : spec_Expand (esc attr s) l = some (s, true) := by
 have hsig : spec_l1Signs_l6 s 0 = some true := by
  rw [spec_TextOk] at hT
  by_cases h : leI (lenS s) 600 = true
  ·rw [if_pos h, spec_l1Signs] at hT
   cases hq : spec_l1Signs_l6 s 0 with
   | none => rw [hq] at hT; cases hT
   | some b => rw [hq] at hT; exact hT
  ·rw [if_neg h] at hT; cases hT
 have hsu : spec_l1Signs (esc attr s) = some true := by
  rw [spec_l1Signs]
  exact signs_esc s attr (by omega) hu s.data.toList.length s.data.toList [] rfl (Nat.le_refl _) hsig
 rw [spec_Expand, hsu]
 simp only [some_bnd, if_true, hE]
 exact round_loop s attr l hs hT s.data.toList [] rfl
end TT
