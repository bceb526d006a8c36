import Derived.Test.YtknfhlnfombmgaaDoorTP2Sign
set_option linter.unusedVariables false
set_option linter.unusedSimpArgs false
namespace TT
open Go

/-! ### Texts put together -/
theorem cat_ok {x y : ByteArray} (h : x.size + y.size ≤ 1000000000) : catS x y = some (x ++ y) := by unfold catS; rw [if_pos (by omega)]
theorem app_size (x y : ByteArray) : (x ++ y).size = x.size + y.size := ByteArray.size_append
theorem app_assoc (x y z : ByteArray) : x ++ y ++ z = x ++ (y ++ z) := byteArray_ext (by simp)

/-! ### Names -/
theorem has58 (s : ByteArray) : (∀ j, j < s.size → by' s j ≠ 58) ∧ Lib.indexB s ⟨#[58]⟩ = -1 ∨ ∃ k, k < s.size ∧ by' s k = 58 ∧ (∀ j, j < k → by' s j ≠ 58) ∧ Lib.indexB s ⟨#[58]⟩ = k := by
  have hlen : s.data.toList.length = s.size := Array.length_toList
  have hby : ∀ j (h : j < s.size), by' s j = (s.data.toList[j]'(by omega)).toNat := fun j h => by
    show ((s.data[j]!).toNat) = _
    rw [Array.getElem_toList, getElem!_pos s.data j h]
  have hocc : ∀ j, j < s.size → Lib.occAt s.data.toList [58] j = decide (by' s j = 58) := fun j h => by
    unfold Lib.occAt
    rw [List.drop_eq_getElem_cons (by omega : j < s.data.toList.length)]
    simp only [List.isPrefixOf, Bool.and_true]
    rw [hby j h, Bool.eq_iff_iff, beq_iff_eq, decide_eq_true_iff]
    constructor
    · intro e; rw [← e]; rfl
    · intro e; exact (UInt8.toNat_inj.1 (by rw [e]; rfl)).symm
  have hend : ∀ j, s.size ≤ j → Lib.occAt s.data.toList [58] j = false := fun j h => by
    unfold Lib.occAt
    rw [List.drop_eq_nil_of_le (by omega)]; rfl
  rcases first58 s s.size with h | ⟨k, h1, h2, h3⟩
  · refine .inl ⟨h, ?_⟩
    exact Lib.index_none fun j hj => by
      by_cases hjs : j < s.size
      · rw [hocc j hjs]; simp [h j hjs]
      · exact hend j (by omega)
  · refine .inr ⟨k, h1, h2, h3, ?_⟩
    exact Lib.index_first (by omega) (by rw [hocc k h1]; simp [h2]) fun j hj => by rw [hocc j (by omega)]; simp [h3 j hj]
theorem split_both (s : ByteArray) (hs : s.size ≤ 4000000) : ∃ r, spec_SplitName s = some r ∧ impl_SplitName s = some r := by
  cases hp : plainB s with
  | true =>
    refine ⟨(⟨#[]⟩, s, true), ?_, ?_⟩
    · rw [spec_SplitName, (plain_all s hs).1, hp]; rfl
    · rw [impl_SplitName, (plain_all s hs).2.1, hp]; rfl
  | false =>
    have hi : impl_SplitName s = (strings_Cut s ⟨#[58]⟩ >>= fun r1 => if r1.2.2 then impl_PlainOk r1.1 >>= fun r2 => if r2 then impl_PlainOk r1.2.1 >>= fun r3 => if r3 then some (r1.1, r1.2.1, true) else some (⟨#[]⟩, ⟨#[]⟩, false) else some (⟨#[]⟩, ⟨#[]⟩, false) else some (⟨#[]⟩, ⟨#[]⟩, false)) := by
      rw [impl_SplitName, (plain_all s hs).2.1, hp]; rfl
    rw [hi, strings_Cut, if_pos (by omega)]
    rcases split_all s hs hp with ⟨h0, e⟩ | ⟨k, k1, k2, k3, e⟩
    · rcases has58 s with ⟨_, h⟩ | ⟨k, k1, k2, _⟩
      · obtain ⟨_, _, c3⟩ := Lib.cutB_miss s ⟨#[58]⟩ h
        have c3' : (cutB s ⟨#[58]⟩).2.2 = false := c3
        refine ⟨_, e, ?_⟩
        simp only [some_bnd, c3', Bool.false_eq_true, if_false]
      · exact absurd k2 (h0 k k1)
    · rcases has58 s with ⟨h0, _⟩ | ⟨k', j1, j2, j3, h⟩
      · exact absurd k2 (h0 k k1)
      · have hk : k' = k := by
          rcases Nat.lt_trichotomy k' k with h' | h' | h'
          · exact absurd j2 (k3 k' h')
          · exact h'
          · exact absurd k2 (j3 k h')
        subst hk
        obtain ⟨c1, c2, c3⟩ := Lib.cutB_hit s ⟨#[58]⟩ k' h
        have c1' : (cutB s ⟨#[58]⟩).1 = s.extract 0 k' := c1
        have c2' : (cutB s ⟨#[58]⟩).2.1 = s.extract (k' + 1) s.size := c2
        have c3' : (cutB s ⟨#[58]⟩).2.2 = true := c3
        have p1 := (plain_all (s.extract 0 k') (by simp; omega)).2.1
        have p2 := (plain_all (s.extract (k' + 1) s.size) (by simp; omega)).2.1
        simp only [some_bnd, c1', c2', c3', if_true, p1, p2]
        cases hb1 : plainB (s.extract 0 k') <;> cases hb2 : plainB (s.extract (k' + 1) s.size) <;> rw [hb1, hb2] at e
        · exact ⟨(⟨#[]⟩, ⟨#[]⟩, false), e, rfl⟩
        · exact ⟨(⟨#[]⟩, ⟨#[]⟩, false), e, rfl⟩
        · exact ⟨(⟨#[]⟩, ⟨#[]⟩, false), e, rfl⟩
        · exact ⟨(s.extract 0 k', s.extract (k' + 1) s.size, true), e, rfl⟩
theorem join_both (pre loc : ByteArray) (h1 : pre.size ≤ 1500000) (h2 : loc.size ≤ 1500000) : ∃ r, spec_JoinName pre loc = some r ∧ impl_JoinName pre loc = some r ∧ r.size ≤ 3000001 := by
  have key : ∀ s : ByteArray, s.size ≤ 3000001 → ∃ r, spec_JoinName_j4 pre loc s = some r ∧ impl_JoinName_j4 pre loc s = some r ∧ r.size ≤ 3000001 := fun s hs => by
    obtain ⟨q, q1, q2⟩ := split_both s (by omega)
    have he : (⟨#[]⟩ : ByteArray).size ≤ 3000001 := by decide
    rw [spec_JoinName_j4, impl_JoinName_j4, q1, q2]
    simp only [some_bnd]
    cases q.2.2 with
    | false => exact ⟨_, rfl, rfl, he⟩
    | true =>
      cases neS q.1 pre with
      | true => exact ⟨_, rfl, rfl, he⟩
      | false =>
        cases neS q.2.1 loc with
        | true => exact ⟨_, rfl, rfl, he⟩
        | false => exact ⟨_, rfl, rfl, hs⟩
  have hc : (⟨#[58]⟩ : ByteArray).size = 1 := rfl
  rw [spec_JoinName, impl_JoinName]
  cases neS pre ⟨#[]⟩ with
  | false => exact key loc (by omega)
  | true =>
    have hz := app_size pre ⟨#[58]⟩
    simp only [if_true, cat_ok (show pre.size + (⟨#[58]⟩ : ByteArray).size ≤ 1000000000 by omega), cat_ok (show (pre ++ ⟨#[58]⟩).size + loc.size ≤ 1000000000 by omega), some_bnd]
    exact key _ (by rw [app_size, hz]; omega)

/-! ### Values, numbers -/
theorem quote_both (s : ByteArray) (hs : s.size ≤ 1500000) : ∃ r, spec_l11Quote s = some r ∧ impl_quotedVal s = some r ∧ r.size ≤ 1500002 := by
  have d1 : (⟨#[34]⟩ : ByteArray).size = 1 := rfl
  have d2 : (⟨#[39]⟩ : ByteArray).size = 1 := rfl
  have z1 := app_size ⟨#[34]⟩ s
  have z2 := app_size ⟨#[39]⟩ s
  rw [spec_l11Quote, impl_quotedVal, has_spec s 39 (by omega), has_impl]
  simp only [some_bnd]
  cases s.data.toList.contains 39 with
  | true =>
    simp only [if_true, cat_ok (show (⟨#[34]⟩ : ByteArray).size + s.size ≤ 1000000000 by omega), cat_ok (show ((⟨#[34]⟩ : ByteArray) ++ s).size + (⟨#[34]⟩ : ByteArray).size ≤ 1000000000 by omega), some_bnd]
    exact ⟨_, rfl, rfl, by rw [app_size, z1]; omega⟩
  | false =>
    simp only [Bool.false_eq_true, if_false, cat_ok (show (⟨#[39]⟩ : ByteArray).size + s.size ≤ 1000000000 by omega), cat_ok (show ((⟨#[39]⟩ : ByteArray) ++ s).size + (⟨#[39]⟩ : ByteArray).size ≤ 1000000000 by omega), some_bnd]
    exact ⟨_, rfl, rfl, by rw [app_size, z2]; omega⟩
theorem num_end (s : ByteArray) : spec_l11Num_l8 s 0 = some s := by rw [spec_l11Num_l8, gtI_f (by omega)]; rfl
theorem num_step (s : ByteArray) (u : Nat) (hu : 0 < u) (hb : u ≤ 1000000) (hs : s.size ≤ 1000000) : spec_l11Num_l8 s u = spec_l11Num_l8 (⟨#[UInt8.ofNat (48 + u % 10)]⟩ ++ s) ((u / 10 : Nat) : Int) := by
  have e1 : remI (u : Int) 10 = some ((u % 10 : Nat) : Int) := by
    unfold remI
    rw [if_neg (by decide)]
    congr 1
  have e2 : quoI (u : Int) 10 = some ((u / 10 : Nat) : Int) := by
    unfold quoI
    rw [if_neg (by decide)]
    congr 1
    rw [show ((u : Int).tdiv 10) = ((u / 10 : Nat) : Int) from rfl, IntKind.wrap_i64]
    omega
  have e3 : ((wr .u8 (addI 48 ((u % 10 : Nat) : Int)))).toNat = 48 + u % 10 := by
    rw [addI_eq (by omega) (by omega)]
    unfold wr
    rw [IntKind.wrap_u8]
    omega
  have e4 : (⟨#[UInt8.ofNat (48 + u % 10)]⟩ : ByteArray).size = 1 := rfl
  rw [spec_l11Num_l8, gtI_t (by omega), e1]
  simp only [if_true, some_bnd, e3, e2]
  rw [show ((([UInt8.ofNat (48 + u % 10)] : List UInt8).toArray)) = #[UInt8.ofNat (48 + u % 10)] from rfl, cat_ok (by omega)]
  rfl
theorem num_all : ∀ (n u : Nat) (s : ByteArray), u ≤ n → 0 < u → u ≤ 1000000 → s.size + u ≤ 1000000 → spec_l11Num_l8 s u = some (⟨(Lib.decDigits u).toArray⟩ ++ s)
  | 0, u, s, h, h0, _, _ => by omega
  | n + 1, u, s, h, h0, hb, hs => by
    rw [num_step s u h0 hb (by omega), Lib.decDigits]
    by_cases hu : u < 10
    · rw [dif_pos hu, show u / 10 = 0 by omega, show u % 10 = u by omega]
      exact num_end _
    · have e4 : (⟨#[UInt8.ofNat (48 + u % 10)]⟩ : ByteArray).size = 1 := rfl
      rw [dif_neg hu, num_all n (u / 10) _ (by omega) (by omega) (by omega) (by rw [app_size]; omega)]
      congr 1
      exact byteArray_ext (by simp)
theorem dig_len : ∀ (n u : Nat), u ≤ n → (Lib.decDigits u).length ≤ u + 1
  | 0, u, h => by rw [Lib.decDigits, dif_pos (by omega)]; simp
  | n + 1, u, h => by
    rw [Lib.decDigits]
    by_cases hu : u < 10
    · rw [dif_pos hu]; simp
    · rw [dif_neg hu]
      have := dig_len n (u / 10) (by omega)
      simp only [List.length_append, List.length_singleton]
      omega
theorem num_both (n : Int) (h1 : 1 ≤ n) (h2 : n ≤ 999) : ∃ r, spec_l11Num n = some r ∧ strconv_Itoa n = some r ∧ r.size ≤ 1000 := by
  have e0 : (⟨#[]⟩ : ByteArray).size = 0 := rfl
  refine ⟨itoaB n, ?_, by rw [strconv_Itoa, if_pos ⟨by omega, by omega⟩], ?_⟩
  · rw [spec_l11Num]
    have := num_all n.toNat n.toNat ⟨#[]⟩ (Nat.le_refl _) (by omega) (by omega) (by omega)
    rw [show ((n.toNat : Nat) : Int) = n by omega] at this
    rw [this, itoaB, Lib.itoa, if_neg (by omega)]
    congr 1
    exact byteArray_ext (by simp)
  · rw [itoaB, Lib.itoa, if_neg (by omega)]
    have := dig_len n.toNat n.toNat (Nat.le_refl _)
    show (Lib.decDigits n.toNat).toArray.size ≤ 1000
    rw [List.size_toArray]; omega

/-! ### Preds, steps -/
theorem pred_text (p : GPred) (hs : p.sz ≤ 1500000) (hn : p.Kind = 1 → 1 ≤ p.N ∧ p.N ≤ 999) : ∃ t, spec_l11Pred p = some t ∧ impl_predText p = some t ∧ t.size ≤ 5000000 := by
  have hz := GPred.sz_eq p
  have a1 : (⟨#[91]⟩ : ByteArray).size = 1 := rfl
  have a2 : (⟨#[93]⟩ : ByteArray).size = 1 := rfl
  have a3 : (⟨#[91, 64]⟩ : ByteArray).size = 2 := rfl
  have a4 : (⟨#[61]⟩ : ByteArray).size = 1 := rfl
  have a5 : (⟨#[91, 46, 61]⟩ : ByteArray).size = 3 := rfl
  obtain ⟨j, j1, j2, j3⟩ := join_both p.Pre p.Local (by omega) (by omega)
  obtain ⟨q, q1, q2, q3⟩ := quote_both p.Val (by omega)
  rw [spec_l11Pred, impl_predText]
  by_cases k1 : p.Kind = 1
  · obtain ⟨n, n1, n2, n3⟩ := num_both p.N (hn k1).1 (hn k1).2
    have z1 := app_size ⟨#[91]⟩ n
    have z2 := app_size (⟨#[91]⟩ ++ n) ⟨#[93]⟩
    simp only [eqI_t k1, if_true, n1, n2, some_bnd, cat_ok (show (⟨#[91]⟩ : ByteArray).size + n.size ≤ 1000000000 by omega), cat_ok (show ((⟨#[91]⟩ : ByteArray) ++ n).size + (⟨#[93]⟩ : ByteArray).size ≤ 1000000000 by omega)]
    exact ⟨_, rfl, rfl, by omega⟩
  · by_cases k2 : p.Kind = 2
    · have z1 := app_size ⟨#[91, 64]⟩ j
      have z2 := app_size (⟨#[91, 64]⟩ ++ j) ⟨#[61]⟩
      have z3 := app_size (⟨#[91, 64]⟩ ++ j ++ ⟨#[61]⟩) q
      have z4 := app_size (⟨#[91, 64]⟩ ++ j ++ ⟨#[61]⟩ ++ q) ⟨#[93]⟩
      simp only [eqI_f k1, eqI_t k2, if_true, Bool.false_eq_true, if_false, j1, j2, q1, q2, some_bnd, cat_ok (show (⟨#[91, 64]⟩ : ByteArray).size + j.size ≤ 1000000000 by omega), cat_ok (show ((⟨#[91, 64]⟩ : ByteArray) ++ j).size + (⟨#[61]⟩ : ByteArray).size ≤ 1000000000 by omega),
        cat_ok (show ((⟨#[91, 64]⟩ : ByteArray) ++ j ++ ⟨#[61]⟩).size + q.size ≤ 1000000000 by omega), cat_ok (show ((⟨#[91, 64]⟩ : ByteArray) ++ j ++ ⟨#[61]⟩ ++ q).size + (⟨#[93]⟩ : ByteArray).size ≤ 1000000000 by omega)]
      exact ⟨_, rfl, rfl, by omega⟩
    · by_cases k3 : p.Kind = 3
      · have z1 := app_size ⟨#[91]⟩ j
        have z2 := app_size (⟨#[91]⟩ ++ j) ⟨#[61]⟩
        have z3 := app_size (⟨#[91]⟩ ++ j ++ ⟨#[61]⟩) q
        have z4 := app_size (⟨#[91]⟩ ++ j ++ ⟨#[61]⟩ ++ q) ⟨#[93]⟩
        simp only [eqI_f k1, eqI_f k2, eqI_t k3, if_true, Bool.false_eq_true, if_false, j1, j2, q1, q2, some_bnd, cat_ok (show (⟨#[91]⟩ : ByteArray).size + j.size ≤ 1000000000 by omega), cat_ok (show ((⟨#[91]⟩ : ByteArray) ++ j).size + (⟨#[61]⟩ : ByteArray).size ≤ 1000000000 by omega),
          cat_ok (show ((⟨#[91]⟩ : ByteArray) ++ j ++ ⟨#[61]⟩).size + q.size ≤ 1000000000 by omega), cat_ok (show ((⟨#[91]⟩ : ByteArray) ++ j ++ ⟨#[61]⟩ ++ q).size + (⟨#[93]⟩ : ByteArray).size ≤ 1000000000 by omega)]
        exact ⟨_, rfl, rfl, by omega⟩
      · have z1 := app_size ⟨#[91, 46, 61]⟩ q
        have z2 := app_size (⟨#[91, 46, 61]⟩ ++ q) ⟨#[93]⟩
        simp only [eqI_f k1, eqI_f k2, eqI_f k3, Bool.false_eq_true, if_false, q1, q2, some_bnd, cat_ok (show (⟨#[91, 46, 61]⟩ : ByteArray).size + q.size ≤ 1000000000 by omega), cat_ok (show ((⟨#[91, 46, 61]⟩ : ByteArray) ++ q).size + (⟨#[93]⟩ : ByteArray).size ≤ 1000000000 by omega)]
        exact ⟨_, rfl, rfl, by omega⟩
theorem pred_nth (p : GPred) (kind : Int) (hs : p.sz ≤ 1500000) (hb : predB p kind = true) (hk : p.Kind = 1) : 1 ≤ p.N ∧ p.N ≤ 999 := by
  have h := (pred_eq p kind hs).2
  rw [hb] at h
  by_cases hn : 1 ≤ p.N ∧ p.N ≤ 999
  · exact hn
  · exfalso
    have hin : impl_in p.N 1 999 = some false := by rw [in_eq]; simp; omega
    have hj : ∀ a b, impl_predOk_j4 a b p = some false := fun a b => by rw [impl_predOk_j4, eqI_t hk, hin]; rfl
    rw [impl_predOk, impl_predOk_j2, impl_predOk_j2] at h
    simp only [hj, ite_self] at h
    cases h
theorem step_true (x : GStp) (last : Bool) (hs : x.sz ≤ 1500000) (h : impl_stepOk x last = some true) : x.Preds.length ≤ 3 ∧ predsB x = true ∧ 1 ≤ x.Kind ∧ x.Kind ≤ 7 := by
  have hz := GStp.sz_eq x
  have hzp : ∀ p ∈ x.Preds, p.sz ≤ 1500000 := fun p hp => by have := szs_mem GPred.sz hp; omega
  have q1 := preds_impl x (by omega) hzp
  rw [impl_stepOk, q1] at h
  by_cases g3 : gtI (lenL x.Preds) 3 = true
  · simp [g3] at h
  by_cases pb : predsB x = true
  · refine ⟨?_, pb, ?_⟩
    · rcases Nat.lt_or_ge 3 x.Preds.length with h' | h'
      · exact absurd (gtI_t (by simp only [lenL]; omega)) g3
      · exact h'
    · by_cases hk : 1 ≤ x.Kind ∧ x.Kind ≤ 7
      · exact hk
      · exfalso
        have f1 : eqI x.Kind 1 = false := eqI_f (by omega)
        have f2 : eqI x.Kind 2 = false := eqI_f (by omega)
        have f3 : eqI x.Kind 3 = false := eqI_f (by omega)
        have f4 : eqI x.Kind 4 = false := eqI_f (by omega)
        have f5 : eqI x.Kind 5 = false := eqI_f (by omega)
        have f6 : eqI x.Kind 6 = false := eqI_f (by omega)
        have f7 : eqI x.Kind 7 = false := eqI_f (by omega)
        have hj : ∀ a b, impl_stepOk_j10 a b (!predsB x, x) = some false := fun a b => by
          rw [impl_stepOk_j10, impl_stepOk_j22, impl_stepOk_j22]
          simp [f1, f2, f3, f4, f5, f6, f7]
        simp only [g3, some_bnd, hj, ite_self] at h
        simp at h
  · simp [g3, pb, some_bnd] at h
theorem SelOk_true (s : GSel) (hs : s.sz ≤ 1500000) (h : impl_SelOk s = some true) : s.Steps.length ≤ 8 ∧ ∀ x ∈ s.Steps, x.Preds.length ≤ 3 ∧ predsB x = true ∧ 1 ≤ x.Kind ∧ x.Kind ≤ 7 := by
  have hz := GSel.sz_eq s
  obtain ⟨v, v1, v2⟩ := val_all s.Id (by omega)
  have key : ∀ rest pre : List GStp, pre ++ rest = s.Steps → impl_SelOk_l8 s pre.length = some true → s.Steps.length ≤ 8 ∧ ∀ x ∈ rest, x.Preds.length ≤ 3 ∧ predsB x = true ∧ 1 ≤ x.Kind ∧ x.Kind ≤ 7 := by
    intro rest
    induction rest with
    | nil =>
      intro pre hp h
      refine ⟨?_, fun x hx => by cases hx⟩
      rcases Nat.lt_or_ge 8 s.Steps.length with h' | h'
      · have hl : leI (lenL s.Steps) 8 = false := leI_f (by simp only [lenL]; omega)
        rw [impl_SelOk_l8, end_at hp, v2] at h
        simp [hl, some_bnd] at h
      · exact h'
    | cons x rest ih =>
      intro pre hp h
      have hx : x.sz ≤ 1500000 := by have := szs_mem GStp.sz (show x ∈ s.Steps by rw [← hp]; simp); omega
      obtain ⟨b, b1, b2⟩ := step_all x (eqI (pre.length : Int) (subI (lenL s.Steps) 1)) hx
      rw [impl_SelOk_l8, more_at hp, getI_at hp, next_at hp (by rw [maxLen_eq]; omega)] at h
      simp only [if_true, some_bnd, b2] at h
      cases b with
      | false => simp at h
      | true =>
        simp only [if_true] at h
        obtain ⟨g1, g2⟩ := ih (pre ++ [x]) (step_at hp) h
        refine ⟨g1, fun y hy => ?_⟩
        rcases List.mem_cons.1 hy with rfl | hy
        · exact step_true y _ hx b2
        · exact g2 y hy
  rw [impl_SelOk] at h
  exact key s.Steps [] rfl h
theorem step_text (x : GStp) (hs : x.sz ≤ 1500000) (hk : 1 ≤ x.Kind ∧ x.Kind ≤ 7) : ∃ t, impl_stepText x = some t ∧ spec_l11Step x = spec_l11Step_l43 t 0 x ∧ t.size ≤ 4000000 := by
  have hz := GStp.sz_eq x
  obtain ⟨j, j1, j2, j3⟩ := join_both x.Pre x.Local (by omega) (by omega)
  have a1 : (⟨#[112, 114, 111, 99, 101, 115, 115, 105, 110, 103, 45, 105, 110, 115, 116, 114, 117, 99, 116, 105, 111, 110, 40, 39]⟩ : ByteArray).size = 24 := rfl
  have a2 : (⟨#[39, 41]⟩ : ByteArray).size = 2 := rfl
  have a3 : (⟨#[64]⟩ : ByteArray).size = 1 := rfl
  have a4 : (⟨#[110, 97, 109, 101, 115, 112, 97, 99, 101, 58, 58]⟩ : ByteArray).size = 11 := rfl
  have z1 := app_size ⟨#[112, 114, 111, 99, 101, 115, 115, 105, 110, 103, 45, 105, 110, 115, 116, 114, 117, 99, 116, 105, 111, 110, 40, 39]⟩ x.Local
  have z2 := app_size (⟨#[112, 114, 111, 99, 101, 115, 115, 105, 110, 103, 45, 105, 110, 115, 116, 114, 117, 99, 116, 105, 111, 110, 40, 39]⟩ ++ x.Local) ⟨#[39, 41]⟩
  have z3 := app_size ⟨#[64]⟩ j
  have z4 := app_size ⟨#[110, 97, 109, 101, 115, 112, 97, 99, 101, 58, 58]⟩ x.Local
  have c1 := cat_ok (show (⟨#[112, 114, 111, 99, 101, 115, 115, 105, 110, 103, 45, 105, 110, 115, 116, 114, 117, 99, 116, 105, 111, 110, 40, 39]⟩ : ByteArray).size + x.Local.size ≤ 1000000000 by omega)
  have c2 := cat_ok (show ((⟨#[112, 114, 111, 99, 101, 115, 115, 105, 110, 103, 45, 105, 110, 115, 116, 114, 117, 99, 116, 105, 111, 110, 40, 39]⟩ : ByteArray) ++ x.Local).size + (⟨#[39, 41]⟩ : ByteArray).size ≤ 1000000000 by omega)
  have c3 := cat_ok (show (⟨#[64]⟩ : ByteArray).size + j.size ≤ 1000000000 by omega)
  have c4 := cat_ok (show (⟨#[110, 97, 109, 101, 115, 112, 97, 99, 101, 58, 58]⟩ : ByteArray).size + x.Local.size ≤ 1000000000 by omega)
  have hk' : x.Kind = 1 ∨ x.Kind = 2 ∨ x.Kind = 3 ∨ x.Kind = 4 ∨ x.Kind = 5 ∨ x.Kind = 6 ∨ x.Kind = 7 := by omega
  rw [impl_stepText, spec_l11Step]
  simp only [spec_l11Step_j4, c1, c2, c3, c4, j1, j2, some_bnd]
  rcases hk' with k | k | k | k | k | k | k
  · rw [k]; exact ⟨j, rfl, rfl, by omega⟩
  · rw [k]; exact ⟨_, rfl, rfl, by decide⟩
  · rw [k]; exact ⟨_, rfl, rfl, by decide⟩
  · rw [k]; exact ⟨_, rfl, rfl, by decide⟩
  · rw [k, neS_eq]
    cases eqS x.Local ⟨#[]⟩ with
    | true => exact ⟨_, rfl, rfl, by decide⟩
    | false => exact ⟨_, rfl, rfl, by omega⟩
  · rw [k]; exact ⟨_, rfl, rfl, by omega⟩
  · rw [k]; exact ⟨_, rfl, rfl, by omega⟩
theorem preds_text (x : GStp) (hs : x.sz ≤ 1500000) (hb : predsB x = true) : ∀ rest pre : List GPred, pre ++ rest = x.Preds → ∃ T : ByteArray, T.size ≤ rest.length * 5000000 ∧
    (∀ s1 : ByteArray, s1.size + rest.length * 5000000 ≤ 900000000 → spec_l11Step_l43 s1 pre.length x = some (s1 ++ T)) ∧
    (∀ (out : ByteArray) (s : GSel) (k : Int), out.size + rest.length * 5000000 ≤ 900000000 → impl_SelText_l49 out s k x pre.length = impl_SelText_l22 (out ++ T) s (addI k 1)) := by
  have hz := GStp.sz_eq x
  intro rest
  induction rest with
  | nil =>
    intro pre hp
    have e0 : ∀ s1 : ByteArray, s1 ++ (⟨#[]⟩ : ByteArray) = s1 := fun s1 => byteArray_ext (by simp)
    exact ⟨⟨#[]⟩, by decide, fun s1 _ => by rw [spec_l11Step_l43, end_at hp, e0]; rfl, fun out s k _ => by rw [impl_SelText_l49, end_at hp, e0]; rfl⟩
  | cons p rest ih =>
    intro pre hp
    obtain ⟨T, t1, t2, t3⟩ := ih (pre ++ [p]) (step_at hp)
    have hm : p ∈ x.Preds := by rw [← hp]; simp
    have hps : p.sz ≤ 1500000 := by have := szs_mem GPred.sz hm; omega
    have hpb : predB p x.Kind = true := List.all_eq_true.1 hb p hm
    obtain ⟨t, u1, u2, u3⟩ := pred_text p hps (pred_nth p x.Kind hps hpb)
    refine ⟨t ++ T, ?_, fun s1 h => ?_, fun out s k h => ?_⟩
    · rw [app_size, List.length_cons]; omega
    · rw [List.length_cons] at h
      have z := app_size s1 t
      rw [spec_l11Step_l43, more_at hp, getI_at hp, next_at hp (by rw [maxLen_eq]; omega)]
      simp only [if_true, some_bnd, u1, cat_ok (show s1.size + t.size ≤ 1000000000 by omega)]
      rw [t2 (s1 ++ t) (by omega), app_assoc]
    · rw [List.length_cons] at h
      have z := app_size out t
      rw [impl_SelText_l49, more_at hp, getI_at hp, next_at hp (by rw [maxLen_eq]; omega)]
      simp only [if_true, some_bnd, u2, cat_ok (show out.size + t.size ≤ 1000000000 by omega)]
      rw [t3 (out ++ t) s k (by omega), app_assoc]
theorem stepT (x : GStp) (hs : x.sz ≤ 1500000) (hf : x.Preds.length ≤ 3 ∧ predsB x = true ∧ 1 ≤ x.Kind ∧ x.Kind ≤ 7) : ∃ t : ByteArray, t.size ≤ 20000000 ∧ spec_l11Step x = some t ∧
    ∀ (out : ByteArray) (s : GSel) (k : Int), out.size ≤ 800000000 → impl_SelText_j33 out s k x.Deep x = impl_SelText_l22 (out ++ t) s (addI k 1) := by
  obtain ⟨h3, hb, hk⟩ := hf
  obtain ⟨t, a1, a2, a3⟩ := step_text x hs hk
  obtain ⟨T, t1, t2, t3⟩ := preds_text x hs hb x.Preds [] rfl
  have t2' : spec_l11Step_l43 t 0 x = some (t ++ T) := t2 t (by omega)
  refine ⟨t ++ T, by rw [app_size]; omega, by rw [a2, t2'], fun out s k h => ?_⟩
  have z := app_size out t
  have t3' : impl_SelText_l49 (out ++ t) s k x 0 = impl_SelText_l22 (out ++ t ++ T) s (addI k 1) := t3 (out ++ t) s k (by omega)
  have e : (GStp.mk x.Deep x.Kind x.Pre x.Local x.Preds) = x := rfl
  rw [impl_SelText_j33, e, a1]
  simp only [some_bnd, cat_ok (show out.size + t.size ≤ 1000000000 by omega)]
  rw [t3', app_assoc]
theorem steps_text (s : GSel) (hs : s.sz ≤ 1500000) (hf : ∀ x ∈ s.Steps, x.Preds.length ≤ 3 ∧ predsB x = true ∧ 1 ≤ x.Kind ∧ x.Kind ≤ 7) : ∀ (rest pre : List GStp) (out : ByteArray), pre ++ rest = s.Steps → out.size + rest.length * 20000010 ≤ 700000000 → ∃ r, spec_SelText_l22 out pre.length s = some r ∧ impl_SelText_l22 out s pre.length = some r := by
  have hz := GSel.sz_eq s
  intro rest
  induction rest with
  | nil =>
    intro pre out hp h
    rw [spec_SelText_l22, impl_SelText_l22, end_at hp]
    simp only [Bool.false_eq_true, if_false]
    cases gtI (lenS out) 200
    · exact ⟨_, rfl, rfl⟩
    · exact ⟨_, rfl, rfl⟩
  | cons x rest ih =>
    intro pre out hp h
    rw [List.length_cons] at h
    have hm : x ∈ s.Steps := by rw [← hp]; simp
    have hx : x.sz ≤ 1500000 := by have := szs_mem GStp.sz hm; omega
    obtain ⟨t, b1, b2, b3⟩ := stepT x hx (hf x hm)
    have go : ∀ o : ByteArray, o.size ≤ out.size + 2 → ∃ r, spec_SelText_l22 (o ++ t) (addI (pre.length : Int) 1) s = some r ∧ impl_SelText_j33 o s pre.length x.Deep x = some r := fun o ho => by
      rw [b3 o s pre.length (by omega), next_at hp (by rw [maxLen_eq]; omega)]
      exact ih (pre ++ [x]) (o ++ t) (step_at hp) (by rw [app_size]; omega)
    have a1 : (⟨#[47, 47]⟩ : ByteArray).size = 2 := rfl
    have a2 : (⟨#[47]⟩ : ByteArray).size = 1 := rfl
    have z1 := app_size out ⟨#[47, 47]⟩
    have z2 := app_size out ⟨#[47]⟩
    have c1 := cat_ok (show out.size + (⟨#[47, 47]⟩ : ByteArray).size ≤ 1000000000 by omega)
    have c2 := cat_ok (show out.size + (⟨#[47]⟩ : ByteArray).size ≤ 1000000000 by omega)
    have c3 := cat_ok (show (out ++ (⟨#[47, 47]⟩ : ByteArray)).size + t.size ≤ 1000000000 by omega)
    have c4 := cat_ok (show (out ++ (⟨#[47]⟩ : ByteArray)).size + t.size ≤ 1000000000 by omega)
    have c5 := cat_ok (show out.size + t.size ≤ 1000000000 by omega)
    rw [spec_SelText_l22, impl_SelText_l22, more_at hp, getI_at hp]
    simp only [if_true, some_bnd, c1, c2]
    cases hd : x.Deep with
    | true =>
      have e : GStp.mk true x.Kind x.Pre x.Local x.Preds = x := by rw [← hd]
      obtain ⟨r, r1, r2⟩ := go (out ++ ⟨#[47, 47]⟩) (by omega)
      rw [hd] at r2
      refine ⟨r, ?_, r2⟩
      simp only [if_true, e, b2, some_bnd, c3]
      exact r1
    | false =>
      have e : GStp.mk false x.Kind x.Pre x.Local x.Preds = x := by rw [← hd]
      simp only [Bool.false_eq_true, if_false, e, b2, some_bnd, c4, c5]
      cases gtI (pre.length : Int) 0 with
      | true =>
        obtain ⟨r, r1, r2⟩ := go (out ++ ⟨#[47]⟩) (by omega)
        rw [hd] at r2
        exact ⟨r, r1, r2⟩
      | false =>
        cases neS s.Id ⟨#[]⟩ with
        | true =>
          obtain ⟨r, r1, r2⟩ := go (out ++ ⟨#[47]⟩) (by omega)
          rw [hd] at r2
          exact ⟨r, r1, r2⟩
        | false =>
          obtain ⟨r, r1, r2⟩ := go out (by omega)
          rw [hd] at r2
          exact ⟨r, r1, r2⟩
theorem same_SelText (s : GSel) (hok : s.ok) (hs : s.sz ≤ 1048576) : ∃ r, spec_SelText s = some r ∧ impl_SelText s = some r := by
  have hz := GSel.sz_eq s
  obtain ⟨b, b1, b2⟩ := all_SelOk s (by omega)
  rw [spec_SelText, impl_SelText, b1, b2]
  simp only [some_bnd]
  cases b with
  | false => exact ⟨_, rfl, rfl⟩
  | true =>
    obtain ⟨h8, hf⟩ := SelOk_true s (by omega) b2
    have go : ∀ out : ByteArray, out.size ≤ 2000000 → ∃ r, spec_SelText_j12 out s = some r ∧ impl_SelText_j12 out s = some r := fun out ho => by
      rw [spec_SelText_j12, impl_SelText_j12]
      exact steps_text s (by omega) hf s.Steps [] out rfl (by omega)
    simp only [if_true]
    cases neS s.Id ⟨#[]⟩ with
    | false => exact go ⟨#[]⟩ (by decide)
    | true =>
      obtain ⟨q, q1, q2, q3⟩ := quote_both s.Id (by omega)
      have a1 : (⟨#[105, 100, 40]⟩ : ByteArray).size = 3 := rfl
      have a2 : (⟨#[41]⟩ : ByteArray).size = 1 := rfl
      have z1 := app_size ⟨#[105, 100, 40]⟩ q
      have z2 := app_size (⟨#[105, 100, 40]⟩ ++ q) ⟨#[41]⟩
      simp only [if_true, q1, q2, some_bnd, cat_ok (show (⟨#[105, 100, 40]⟩ : ByteArray).size + q.size ≤ 1000000000 by omega), cat_ok (show ((⟨#[105, 100, 40]⟩ : ByteArray) ++ q).size + (⟨#[41]⟩ : ByteArray).size ≤ 1000000000 by omega)]
      exact go _ (by omega)
end TT
