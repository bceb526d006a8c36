import Derived.Test.YtjnjaaimgdjcgaaGreatDoorTP2Has
import Derived.Test.YtjnjaaimgdjcgaaGreatDoorTP1
set_option linter.unusedVariables false
set_option linter.unusedSimpArgs false
namespace TT
open Go
theorem val_all (s : ByteArray) (hs : s.size ≤ 4000000) : ∃ b, spec_l11Val s = some b ∧ impl_valOk s = some b := by
 obtain ⟨b, h1, h2⟩ := text_all s hs
 obtain ⟨a1, a2⟩ := has_all s ⟨#[39]⟩ (by decide) hs (by decide)
 obtain ⟨c1, c2⟩ := has_all s ⟨#[34]⟩ (by decide) hs (by decide)
 rw [spec_l11Val, impl_valOk, h1, h2, a1, a2, c1, c2]
 simp only [some_bnd]
 cases b with
 | false => exact ⟨false, rfl, rfl⟩
 | true =>
  cases containsB s ⟨#[39]⟩ with
  | false => exact ⟨true, rfl, rfl⟩
  | true => exact ⟨!(containsB s ⟨#[34]⟩), rfl, rfl⟩
theorem byteArray_ext {x y : ByteArray} (h : x.data.toList = y.data.toList) : x = y := toList_inj (by rw [Lib.toList_data, Lib.toList_data, h])
theorem eqS_f {x y : ByteArray} (h : x ≠ y) : eqS x y = false := by
 cases he : eqS x y with
 | false => rfl
 | true => exact absurd (eqS_iff.1 he) h
theorem eqS_size {x y : ByteArray} (h : x.size ≠ y.size) : eqS x y = false := eqS_f fun e => h (by rw [e])
def nameB (pre loc : ByteArray) : Bool := if eqS pre ⟨#[]⟩ then plainB loc else (plainB pre && plainB loc)
theorem name_impl (pre loc : ByteArray) (h1 : pre.size ≤ 4000000) (h2 : loc.size ≤ 4000000) : impl_nameOk pre loc = some (nameB pre loc) := by
 rw [impl_nameOk, (plain_all pre h1).2.1, (plain_all loc h2).2.1, nameB]
 simp only [some_bnd]
 cases eqS pre ⟨#[]⟩ <;> cases plainB pre <;> rfl
theorem split_skip (s : ByteArray) (hs : s.size ≤ 4000000) (k : Nat) (hk : k ≤ s.size) : ∀ (m i : Nat), i + m = k → (∀ j, i ≤ j → j < k → by' s j ≠ 58) → spec_SplitName_l14 s i = spec_SplitName_l14 s k
 | 0, i, h, _ => by rw [show i = k by omega]
 | m + 1, i, h, hn => by
  have hi : i < s.size := by omega
  have hb := hn i (Nat.le_refl _) (by omega)
  rw [spec_SplitName_l14, ltI_t (by simp only [lenS]; omega), atS_by rfl hi]
  simp only [if_true, some_bnd]
  rw [eqI_f (by omega), addI_eq (by omega) (by omega)]
  simp only [Bool.false_eq_true, if_false]
  exact split_skip s hs k hk m (i + 1) (by omega) (fun j h1 h2 => hn j (by omega) h2)
theorem split_end (s : ByteArray) : spec_SplitName_l14 s s.size = some (⟨#[]⟩, ⟨#[]⟩, false) := by
 rw [spec_SplitName_l14, ltI_f (by simp only [lenS]; omega)]; rfl
theorem split_at (s : ByteArray) (hs : s.size ≤ 4000000) (k : Nat) (hk : k < s.size) (hb : by' s k = 58) : spec_SplitName_l14 s k = if plainB (s.extract 0 k) && plainB (s.extract (k + 1) s.size) then some (s.extract 0 k, s.extract (k + 1) s.size, true) else some (⟨#[]⟩, ⟨#[]⟩, false) := by
 have e1 : subS s 0 k = some (s.extract 0 k) := by
  unfold subS
  rw [if_pos ⟨by omega, by omega, by omega⟩]; rfl
 have e2 : subS s (k + 1) (lenS s) = some (s.extract (k + 1) s.size) := by
  unfold subS lenS
  rw [if_pos ⟨by omega, by omega, by omega⟩]; rfl
 have p1 := (plain_all (s.extract 0 k) (by simp; omega)).1
 have p2 := (plain_all (s.extract (k + 1) s.size) (by simp; omega)).1
 rw [spec_SplitName_l14, ltI_t (by simp only [lenS]; omega), atS_by rfl hk, hb]
 simp only [if_true, some_bnd]
 rw [show eqI ((58 : Nat) : Int) 58 = true from rfl, addI_eq (by omega) (by omega)]
 simp only [if_true, e1, e2, some_bnd, p1, p2]
 cases plainB (s.extract 0 k) <;> cases plainB (s.extract (k + 1) s.size) <;> rfl
theorem first58 (s : ByteArray) : ∀ n, (∀ j, j < n → by' s j ≠ 58) ∨ ∃ k, k < n ∧ by' s k = 58 ∧ ∀ j, j < k → by' s j ≠ 58
 | 0 => .inl fun j h => by omega
 | n + 1 => by
  rcases first58 s n with h | ⟨k, h1, h2, h3⟩
  ·by_cases hn : by' s n = 58
   ·exact .inr ⟨n, Nat.lt_succ_self _, hn, h⟩
   ·refine .inl fun j hj => ?_
    by_cases e : j = n
    ·rw [e]; exact hn
    ·exact h j (by omega)
  ·exact .inr ⟨k, by omega, h2, h3⟩
theorem split_all (s : ByteArray) (hs : s.size ≤ 4000000) (hp : plainB s = false) :
  ((∀ j, j < s.size → by' s j ≠ 58) ∧ spec_SplitName s = some (⟨#[]⟩, ⟨#[]⟩, false)) ∨
  ∃ k, k < s.size ∧ by' s k = 58 ∧ (∀ j, j < k → by' s j ≠ 58) ∧ spec_SplitName s = if plainB (s.extract 0 k) && plainB (s.extract (k + 1) s.size) then some (s.extract 0 k, s.extract (k + 1) s.size, true) else some (⟨#[]⟩, ⟨#[]⟩, false) := by
 have e : spec_SplitName s = spec_SplitName_l14 s 0 := by
  rw [spec_SplitName, (plain_all s hs).1, hp]; rfl
 rcases first58 s s.size with h | ⟨k, h1, h2, h3⟩
 ·refine .inl ⟨h, ?_⟩
  rw [e, ← split_end s]
  exact split_skip s hs s.size (Nat.le_refl _) s.size 0 (by omega) (fun j _ hj => h j hj)
 ·refine .inr ⟨k, h1, h2, h3, ?_⟩
  rw [e, ← split_at s hs k h1 h2]
  exact split_skip s hs k (by omega) k 0 (by omega) (fun j _ hj => h3 j hj)
theorem get_app1 (x y : ByteArray) (k : Nat) (h : k < x.size) : by' (x ++ y) k = by' x k := by
 have e : (x ++ y).data = x.data ++ y.data := by simp
 have h' : k < x.data.size := h
 show ((x ++ y).data[k]!).toNat = (x.data[k]!).toNat
 rw [e]
 simp only [getElem!_def]
 rw [Array.getElem?_append_left h']
theorem get_app2 (x y : ByteArray) (k : Nat) : by' (x ++ y) (x.size + k) = by' y k := by
 have e : (x ++ y).data = x.data ++ y.data := by simp
 show ((x ++ y).data[x.size + k]!).toNat = (y.data[k]!).toNat
 rw [e]
 simp only [getElem!_def]
 rw [Array.getElem?_append_right (by show x.data.size ≤ x.data.size + k; omega)]
 have : x.size + k - x.data.size = k := by show x.data.size + k - x.data.size = k; omega
 rw [this]
theorem join_all (pre loc : ByteArray) (h1 : pre.size ≤ 1500000) (h2 : loc.size ≤ 1500000) : ∃ r, spec_JoinName pre loc = some r ∧ (!eqS r ⟨#[]⟩) = nameB pre loc := by
 have es : ∀ r : ByteArray, r.size ≠ 0 → eqS r ⟨#[]⟩ = false := fun r hr => eqS_size hr
 have ee : eqS (⟨#[]⟩ : ByteArray) ⟨#[]⟩ = true := eqS_self _
 unfold nameB
 cases hpre : eqS pre ⟨#[]⟩ with
 | true =>
  have hpe : pre = ⟨#[]⟩ := eqS_iff.1 hpre
  rw [spec_JoinName, neS_eq, hpre]
  simp only [Bool.not_true, Bool.false_eq_true, if_false, spec_JoinName_j4, if_true]
  cases hp : plainB loc with
  | true =>
   have := (plain_all loc (by omega)).2.2 hp
   rw [spec_SplitName, (plain_all loc (by omega)).1, hp]
   simp only [some_bnd, if_true, neS_eq, hpe, ee, eqS_self, Bool.not_true, Bool.false_eq_true, if_false]
   exact ⟨loc, rfl, by rw [es loc (by omega)]; rfl⟩
  | false =>
   rcases split_all loc (by omega) hp with ⟨_, e⟩ | ⟨k, k1, k2, k3, e⟩
   ·rw [e]
    simp only [some_bnd, Bool.false_eq_true, if_false]
    exact ⟨_, rfl, by rw [ee]; rfl⟩
   ·rw [e]
    cases hb : plainB (loc.extract 0 k) && plainB (loc.extract (k + 1) loc.size) with
    | false => simp only [some_bnd, Bool.false_eq_true, if_false]; exact ⟨_, rfl, by rw [ee]; rfl⟩
    | true =>
     simp only [Bool.and_eq_true] at hb
     have hx := (plain_all (loc.extract 0 k) (by simp; omega)).2.2 hb.1
     simp only [some_bnd, if_true, neS_eq, hpe]
     rw [es _ (by omega)]
     simp only [Bool.not_false, if_true]
     exact ⟨_, rfl, by rw [ee]; rfl⟩
 | false =>
  have hne : pre.size ≠ 0 := fun h => by
   have : pre = ⟨#[]⟩ := by
    apply byteArray_ext
    have : pre.data.toList.length = 0 := by rw [Array.length_toList]; exact h
    rw [List.eq_nil_of_length_eq_zero this]
   rw [this] at hpre
   rw [ee] at hpre
   cases hpre
  have hc : (⟨#[58]⟩ : ByteArray).size = 1 := rfl
  rw [spec_JoinName, neS_eq, hpre]
  have c1 : catS pre ⟨#[58]⟩ = some (pre ++ ⟨#[58]⟩) := by unfold catS; rw [if_pos (by omega)]
  have hz : (pre ++ (⟨#[58]⟩ : ByteArray)).size = pre.size + 1 := by rw [ByteArray.size_append, hc]
  have c2 : catS (pre ++ ⟨#[58]⟩) loc = some (pre ++ ⟨#[58]⟩ ++ loc) := by unfold catS; rw [if_pos (by omega)]
  simp only [Bool.not_false, if_true, c1, c2, some_bnd, spec_JoinName_j4, Bool.false_eq_true, if_false]
  generalize hs0 : pre ++ (⟨#[58]⟩ : ByteArray) ++ loc = s
  have hsz : s.size = pre.size + 1 + loc.size := by rw [← hs0, ByteArray.size_append, hz]
  have hl : s.data.toList = pre.data.toList ++ ([58] ++ loc.data.toList) := by rw [← hs0]; simp
  have hpl : pre.data.toList.length = pre.size := Array.length_toList
  have hll : loc.data.toList.length = loc.size := Array.length_toList
  have hcol : by' s pre.size = 58 := by
   rw [← hs0, get_app1 _ _ _ (by omega)]
   have := get_app2 pre ⟨#[58]⟩ 0
   rw [Nat.add_zero] at this
   rw [this]; rfl
  have hlow : ∀ k, k < pre.size → by' s k = by' pre k := fun k hk => by
   rw [← hs0, get_app1 _ _ _ (by omega), get_app1 _ _ _ hk]
  have hp : plainB s = false := by
   cases hp : plainB s with
   | false => rfl
   | true => exact absurd hcol ((plain_all s (by omega)).2.2 hp |>.2 pre.size (by omega))
  have hsn : eqS s ⟨#[]⟩ = false := es s (by omega)
  rcases split_all s (by omega) hp with ⟨hno, _⟩ | ⟨k, k1, k2, k3, e⟩
  ·exact absurd hcol (hno pre.size (by omega))
  ·have hkle : k ≤ pre.size := by
    rcases Nat.lt_or_ge pre.size k with h | h
    ·exact absurd hcol (k3 pre.size h)
    ·exact h
   rw [e]
   by_cases hk : k = pre.size
   ·subst hk
    have x1 : s.extract 0 pre.size = pre := by
     apply byteArray_ext
     rw [Lib.extract_data, hl, List.drop_zero, Nat.sub_zero, ← hpl, List.take_left']
     rfl
    have x2 : s.extract (pre.size + 1) s.size = loc := by
     apply byteArray_ext
     rw [Lib.extract_data, hl, ← List.append_assoc, List.drop_left' (by simp [hpl]), List.take_of_length_le (by omega)]
    rw [x1, x2]
    cases hb : plainB pre && plainB loc with
    | false => simp only [some_bnd, Bool.false_eq_true, if_false]; exact ⟨_, rfl, by rw [ee]; rfl⟩
    | true =>
     simp only [some_bnd, if_true, neS_eq, eqS_self, Bool.not_true, Bool.false_eq_true, if_false]
     exact ⟨s, rfl, by rw [hsn]; rfl⟩
   ·have hpp : plainB pre = false := by
     cases hp : plainB pre with
     | false => rfl
     | true => exact absurd (hlow k (by omega) ▸ k2) ((plain_all pre (by omega)).2.2 hp |>.2 k (by omega))
    rw [hpp, Bool.false_and]
    cases hb : plainB (s.extract 0 k) && plainB (s.extract (k + 1) s.size) with
    | false => simp only [some_bnd, Bool.false_eq_true, if_false]; exact ⟨_, rfl, by rw [ee]; rfl⟩
    | true =>
     have hx : eqS (s.extract 0 k) pre = false := eqS_size (by simp; omega)
     simp only [some_bnd, if_true, neS_eq, hx, Bool.not_false]
     exact ⟨_, rfl, by rw [ee]; rfl⟩
theorem eqI_dec (m n : Int) : eqI m n = decide (m = n) := by
 by_cases h : m = n
 ·rw [eqI_t h]; simp [h]
 ·rw [eqI_f h]; simp [h]
theorem pred_all (p : GPred) (kind : Int) (hs : p.sz ≤ 1500000) : ∃ b, spec_l11PredOk p kind = some b ∧ impl_predOk p kind = some b := by
 have hz := GPred.sz_eq p
 obtain ⟨r, j1, j2⟩ := join_all p.Pre p.Local (by omega) (by omega)
 obtain ⟨v, v1, v2⟩ := val_all p.Val (by omega)
 have n1 := name_impl p.Pre p.Local (by omega) (by omega)
 have ek : decide ((1 : Int) ≤ kind ∧ kind ≤ 2) = (eqI kind 1 || eqI kind 2) := by
  rw [Bool.eq_iff_iff]
  simp [eqI_dec]
  omega
 simp only [spec_l11PredOk, spec_l11PredOk_j12, impl_predOk, impl_predOk_j2, impl_predOk_j4, impl_predOk_j16, l1In_eq, in_eq, j1, v1, v2, n1, some_bnd, neS_eq, j2, ek]
 by_cases k1 : eqI p.Kind 1 = true
 ·by_cases a : eqS p.Pre ⟨#[]⟩ = true <;> by_cases b : eqS p.Local ⟨#[]⟩ = true <;> by_cases e1 : eqI kind 1 = true <;> by_cases q : decide ((1 : Int) ≤ p.N ∧ p.N ≤ 999) = true <;> simp [k1, a, b, e1, q]
 ·by_cases k23 : eqI p.Kind 2 = true ∨ eqI p.Kind 3 = true
  ·have k2' : eqI p.Kind 2 = true ∨ (eqI p.Kind 2 = false ∧ eqI p.Kind 3 = true) := by
    rcases k23 with h | h
    ·exact .inl h
    ·cases h2 : eqI p.Kind 2 with
     | true => exact .inl rfl
     | false => exact .inr ⟨rfl, h⟩
   rcases k2' with k2 | ⟨k2, k3⟩
   ·by_cases a : eqS p.Pre ⟨#[]⟩ = true <;> by_cases e1 : eqI kind 1 = true <;> by_cases e2 : eqI kind 2 = true <;> by_cases n0 : eqI p.N 0 = true <;> by_cases nb : nameB p.Pre p.Local = true <;> simp [k1, k2, a, e1, e2, n0, nb]
   ·by_cases a : eqS p.Pre ⟨#[]⟩ = true <;> by_cases e1 : eqI kind 1 = true <;> by_cases e2 : eqI kind 2 = true <;> by_cases n0 : eqI p.N 0 = true <;> by_cases nb : nameB p.Pre p.Local = true <;> simp [k1, k2, k3, a, e1, e2, n0, nb]
  ·have k2 : eqI p.Kind 2 = false := by
    cases h : eqI p.Kind 2 with
    | true => exact absurd (.inl h) k23
    | false => rfl
   have k3 : eqI p.Kind 3 = false := by
    cases h : eqI p.Kind 3 with
    | true => exact absurd (.inr h) k23
    | false => rfl
   by_cases k4 : eqI p.Kind 4 = true
   ·by_cases a : eqS p.Pre ⟨#[]⟩ = true <;> by_cases b : eqS p.Local ⟨#[]⟩ = true <;> by_cases e1 : eqI kind 1 = true <;> by_cases e2 : eqI kind 2 = true <;> by_cases n0 : eqI p.N 0 = true <;> simp [k1, k2, k3, k4, a, b, e1, e2, n0]
   ·by_cases a : eqS p.Pre ⟨#[]⟩ = true <;> by_cases e1 : eqI kind 1 = true <;> simp [k1, k2, k3, k4, a, e1]
def predB (p : GPred) (kind : Int) : Bool := (impl_predOk p kind).getD false
theorem pred_eq (p : GPred) (kind : Int) (hs : p.sz ≤ 1500000) : spec_l11PredOk p kind = some (predB p kind) ∧ impl_predOk p kind = some (predB p kind) := by
 obtain ⟨b, h1, h2⟩ := pred_all p kind hs
 have : predB p kind = b := by rw [predB, h2]; rfl
 rw [this]; exact ⟨h1, h2⟩
def predsB (x : GStp) : Bool := x.Preds.all fun p => predB p x.Kind
theorem preds_spec (x : GStp) (d : Bool) (hl : x.Preds.length ≤ 1500000) (hz : ∀ p ∈ x.Preds, p.sz ≤ 1500000) : spec_l11StepOk_l14 0 d x = if predsB x then (if eqI x.Kind 1 then spec_l11StepOk_j35 x true d else spec_l11StepOk_j35 x (eqI x.Kind 6) d) else some false := by
 have key : ∀ rest pre : List GPred, pre ++ rest = x.Preds → spec_l11StepOk_l14 pre.length d x = if rest.all (fun p => predB p x.Kind) then (if eqI x.Kind 1 then spec_l11StepOk_j35 x true d else spec_l11StepOk_j35 x (eqI x.Kind 6) d) else some false := by
  intro rest
  induction rest with
  | nil => intro pre hp; rw [spec_l11StepOk_l14, end_at hp]; rfl
  | cons p rest ih =>
   intro pre hp
   have ih := ih (pre ++ [p]) (step_at hp)
   rw [spec_l11StepOk_l14, more_at hp, getI_at hp, next_at hp (by rw [maxLen_eq]; omega)]
   simp only [if_true, some_bnd, (pred_eq p x.Kind (hz p (by rw [← hp]; simp))).1, ih, List.all_cons]
   by_cases hb : predB p x.Kind = true <;> simp [hb]
 exact key x.Preds [] rfl
theorem preds_impl (x : GStp) (hl : x.Preds.length ≤ 1500000) (hz : ∀ p ∈ x.Preds, p.sz ≤ 1500000) : slices_ContainsFunc_Pred_stepOk_1 x.Preds x = some (!predsB x, x) := by
 have key : ∀ rest pre : List GPred, pre ++ rest = x.Preds → ∃ k, slices_IndexFunc_Pred_stepOk_1_l6 x.Preds pre.length x = some (k, x) ∧ geI k 0 = !rest.all (fun p => predB p x.Kind) := by
  intro rest
  induction rest with
  | nil => intro pre hp; exact ⟨-1, by rw [slices_IndexFunc_Pred_stepOk_1_l6, end_at hp]; rfl, rfl⟩
  | cons p rest ih =>
   intro pre hp
   obtain ⟨k, h1, h2⟩ := ih (pre ++ [p]) (step_at hp)
   rw [slices_IndexFunc_Pred_stepOk_1_l6, more_at hp, getI_at hp, next_at hp (by rw [maxLen_eq]; omega)]
   simp only [if_true, some_bnd, impl_stepOk_1, (pred_eq p x.Kind (hz p (by rw [← hp]; simp))).2, List.all_cons]
   by_cases hb : predB p x.Kind = true
   ·exact ⟨k, by simp only [hb, Bool.not_true, Bool.false_eq_true, if_false]; exact h1, by rw [h2, hb]; rfl⟩
   ·have hb' : predB p x.Kind = false := by simpa using hb
    exact ⟨pre.length, by simp only [hb', Bool.not_false, if_true], by rw [geI_t (by omega), hb']; rfl⟩
 obtain ⟨k, h1, h2⟩ := key x.Preds [] rfl
 have h1' : slices_IndexFunc_Pred_stepOk_1_l6 x.Preds 0 x = some (k, x) := h1
 rw [slices_ContainsFunc_Pred_stepOk_1, slices_IndexFunc_Pred_stepOk_1, h1']
 simp only [some_bnd, h2, predsB]
theorem step_all (x : GStp) (last : Bool) (hs : x.sz ≤ 1500000) : ∃ b, spec_l11StepOk x last = some b ∧ impl_stepOk x last = some b := by
 have hz := GStp.sz_eq x
 have hzp : ∀ p ∈ x.Preds, p.sz ≤ 1500000 := fun p hp => by have := szs_mem GPred.sz hp; omega
 obtain ⟨r, j1, j2⟩ := join_all x.Pre x.Local (by omega) (by omega)
 have n1 := name_impl x.Pre x.Local (by omega) (by omega)
 have p1 := (plain_all x.Local (by omega)).1
 have p2 := (plain_all x.Local (by omega)).2.1
 have q1 := preds_impl x (by omega) hzp
 have q2 := fun d => preds_spec x d (by omega) hzp
 have g0 : gtI (lenL x.Preds) 0 = !eqI (lenL x.Preds) 0 := by
  by_cases h : x.Preds.length = 0
  ·rw [gtI_f (by simp only [lenL]; omega), eqI_t (by simp only [lenL]; omega)]; rfl
  ·rw [gtI_t (by simp only [lenL]; omega), eqI_f (by simp only [lenL]; omega)]; rfl
 simp only [spec_l11StepOk, spec_l11StepOk_j2, q2, impl_stepOk, q1, g0, some_bnd, spec_l11StepOk_j35, spec_l11StepOk_j45, impl_stepOk_j10, impl_stepOk_j22, j1, n1, p1, p2, neS_eq, j2]
 by_cases g3 : gtI (lenL x.Preds) 3 = true
 ·simp [g3]
 by_cases pb : predsB x = true
 ·by_cases h6 : x.Kind ≥ 6
  ·have f1 : eqI x.Kind 1 = false := eqI_f (by omega)
   have f2 : eqI x.Kind 2 = false := eqI_f (by omega)
   have f3 : eqI x.Kind 3 = false := eqI_f (by omega)
   have f4 : eqI x.Kind 4 = false := eqI_f (by omega)
   have f5 : eqI x.Kind 5 = false := eqI_f (by omega)
   have fg : geI x.Kind 6 = true := geI_t h6
   by_cases l0 : eqI (lenL x.Preds) 0 = true <;> by_cases la : last = true <;> by_cases dp : x.Deep = true <;> by_cases e6 : eqI x.Kind 6 = true <;> by_cases e7 : eqI x.Kind 7 = true <;> by_cases a : eqS x.Pre ⟨#[]⟩ = true <;> simp [g3, pb, f1, f2, f3, f4, f5, fg, l0, la, dp, e6, e7, a]
  ·have f6 : eqI x.Kind 6 = false := eqI_f (by omega)
   have f7 : eqI x.Kind 7 = false := eqI_f (by omega)
   have fg : geI x.Kind 6 = false := geI_f (by omega)
   by_cases la : last = true <;> by_cases dp : x.Deep = true <;> by_cases k1 : eqI x.Kind 1 = true <;> by_cases k2 : eqI x.Kind 2 = true <;> by_cases k3 : eqI x.Kind 3 = true <;> by_cases k4 : eqI x.Kind 4 = true <;> by_cases k5 : eqI x.Kind 5 = true <;> simp [g3, pb, f6, f7, fg, la, dp, k1, k2, k3, k4, k5] <;> (by_cases a : eqS x.Pre ⟨#[]⟩ = true <;> by_cases b : eqS x.Local ⟨#[]⟩ = true <;> simp [a, b])
 ·have pb' : predsB x = false := by simpa using pb
  by_cases fg : geI x.Kind 6 = true <;> by_cases la : last = true <;> by_cases dp : x.Deep = true <;> by_cases l0 : eqI (lenL x.Preds) 0 = true <;> simp [g3, pb', fg, la, dp, l0]
theorem all_SelOk (s : GSel) (hs : s.sz ≤ 1500000) : ∃ r, spec_SelOk s = some r ∧ impl_SelOk s = some r := by
 have hz := GSel.sz_eq s
 obtain ⟨v, v1, v2⟩ := val_all s.Id (by omega)
 have key : ∀ rest pre : List GStp, pre ++ rest = s.Steps → ∃ r, spec_SelOk_l6 pre.length s = some r ∧ impl_SelOk_l8 s pre.length = some r := by
  intro rest
  induction rest with
  | nil =>
   intro pre hp
   rw [spec_SelOk_l6, impl_SelOk_l8, end_at hp, v1, v2]
   simp only [Bool.false_eq_true, if_false, some_bnd]
   by_cases hv : v = true <;> by_cases h8 : leI (lenL s.Steps) 8 = true <;> by_cases hn : neS s.Id ⟨#[]⟩ = true <;> by_cases hg : gtI (lenL s.Steps) 0 = true <;> simp [hv, h8, hn, hg]
  | cons x rest ih =>
   intro pre hp
   obtain ⟨r, h1, h2⟩ := ih (pre ++ [x]) (step_at hp)
   obtain ⟨b, b1, b2⟩ := step_all x (eqI (pre.length : Int) (subI (lenL s.Steps) 1)) (by have := szs_mem GStp.sz (show x ∈ s.Steps by rw [← hp]; simp); omega)
   rw [spec_SelOk_l6, impl_SelOk_l8, more_at hp, getI_at hp, next_at hp (by rw [maxLen_eq]; omega)]
   simp only [if_true, some_bnd, b1, b2, h1, h2]
   cases b
   ·exact ⟨false, rfl, rfl⟩
   ·exact ⟨r, rfl, rfl⟩
 obtain ⟨r, h1, h2⟩ := key s.Steps [] rfl
 exact ⟨r, by rw [spec_SelOk]; exact h1, by rw [impl_SelOk]; exact h2⟩
end TT
