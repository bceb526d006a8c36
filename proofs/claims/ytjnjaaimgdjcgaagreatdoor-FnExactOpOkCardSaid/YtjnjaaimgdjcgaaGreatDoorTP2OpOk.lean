import Derived.Test.YtjnjaaimgdjcgaaGreatDoorTP2SelOkA
import Derived.Test.YtjnjaaimgdjcgaaGreatDoorTP2Has
import Derived.Lib.CutLaws
set_option linter.unusedVariables false
set_option linter.unusedSimpArgs false
namespace TT
open Go
theorem occ58 (s : ByteArray) (j : Nat) (h : j < s.size) : Lib.occAt s.data.toList [58] j = true ↔ by' s j = 58 := by
 have hl : j < s.data.toList.length := by rw [dlen]; exact h
 rw [Lib.occAt_iff_take _ _ _ (by rw [dlen]; exact h), List.drop_eq_getElem_cons hl]
 have e : by' s j = (s.data.toList[j]'hl).toNat := by
  show (s.data[j]!).toNat = _
  rw [getElem!_pos s.data j h]
  simp
 rw [e]
 simp only [List.length_cons, List.length_nil, List.take_succ_cons, List.take_zero, List.cons_beq_cons, beq_self_eq_true, Bool.and_true, beq_iff_eq]
 constructor
 ·intro hh; rw [hh]; rfl
 ·intro hh; exact UInt8.toNat_inj.1 hh
theorem cut_all (s : ByteArray) : ((∀ j, j < s.size → by' s j ≠ 58) ∧ cutB s ⟨#[58]⟩ = (s, ⟨#[]⟩, false)) ∨ ∃ k, k < s.size ∧ by' s k = 58 ∧ (∀ j, j < k → by' s j ≠ 58) ∧ cutB s ⟨#[58]⟩ = (s.extract 0 k, s.extract (k + 1) s.size, true) := by
 rcases Lib.index_spec s.data.toList [58] with ⟨h1, h2⟩ | ⟨k, h1, h2, h3, h4⟩
 ·refine .inl ⟨fun j hj hb => ?_, ?_⟩
  ·have := h2 j (by rw [dlen]; omega)
   rw [(occ58 s j hj).2 hb] at this
   cases this
  ·obtain ⟨a, b, c⟩ := Lib.cutB_miss s ⟨#[58]⟩ h1
   rw [cutB, a, b, c]; rfl
 ·have hk : k < s.size := by
   rcases Lib.occAt_room h3 with h' | h'
   ·rw [dlen] at h'; simp only [List.length_cons, List.length_nil] at h'; omega
   ·cases h'
  refine .inr ⟨k, hk, (occ58 s k hk).1 h3, fun j hj hb => ?_, ?_⟩
  ·have := h4 j hj
   rw [(occ58 s j (by omega)).2 hb] at this
   cases this
  ·obtain ⟨a, b, c⟩ := Lib.cutB_hit s ⟨#[58]⟩ k h1
   rw [cutB, a, b, c]; rfl
theorem first_eq {s : ByteArray} {k m : Nat} (h1 : by' s k = 58) (h2 : ∀ j, j < k → by' s j ≠ 58) (h3 : by' s m = 58) (h4 : ∀ j, j < m → by' s j ≠ 58) : k = m := by
 rcases Nat.lt_trichotomy k m with h | h | h
 ·exact absurd h1 (h4 k h)
 ·exact h
 ·exact absurd h3 (h2 m h)
theorem split_same (s : ByteArray) (hs : s.size ≤ 4000000) : impl_SplitName s = spec_SplitName s := by
 have p1 := plain_all s hs
 cases hp : plainB s with
 | true =>
  rw [impl_SplitName, spec_SplitName, p1.1, p1.2.1, hp]; rfl
 | false =>
  rw [impl_SplitName, p1.2.1, hp, strings_Cut, if_pos (by omega)]
  simp only [some_bnd, Bool.false_eq_true, if_false]
  rcases split_all s hs hp with ⟨a1, a2⟩ | ⟨k, a1, a2, a3, a4⟩
  ·rcases cut_all s with ⟨_, c⟩ | ⟨m, m1, m2, _⟩
   ·rw [a2, c]; rfl
   ·exact absurd m2 (a1 m m1)
  ·rcases cut_all s with ⟨c, _⟩ | ⟨m, m1, m2, m3, m4⟩
   ·exact absurd a2 (c k a1)
   ·have e := first_eq m2 m3 a2 a3
    subst e
    have q1 := (plain_all (s.extract 0 m) (by simp; omega)).2.1
    have q2 := (plain_all (s.extract (m + 1) s.size) (by simp; omega)).2.1
    rw [m4, a4]
    simp only [if_true, q1, q2, some_bnd]
    cases plainB (s.extract 0 m) <;> cases plainB (s.extract (m + 1) s.size) <;> rfl
theorem cat_size {x y z : ByteArray} (h : catS x y = some z) : z.size = x.size + y.size := by
 unfold catS at h
 split at h
 ·cases h; exact ByteArray.size_append
 ·cases h
theorem joinname_same (p l : ByteArray) (h1 : p.size ≤ 1500000) (h2 : l.size ≤ 1500000) : impl_JoinName p l = spec_JoinName p l := by
 have j4 : ∀ s : ByteArray, s.size ≤ 4000000 → impl_JoinName_j4 p l s = spec_JoinName_j4 p l s := fun s hs => by
  rw [impl_JoinName_j4, spec_JoinName_j4, split_same s hs]
 have hc : (⟨#[58]⟩ : ByteArray).size = 1 := rfl
 rw [impl_JoinName, spec_JoinName, j4 l (by omega)]
 cases h : catS p ⟨#[58]⟩ with
 | none => simp only [none_bnd]
 | some x =>
  have hx := cat_size h
  cases h' : catS x l with
  | none => simp only [some_bnd, h', none_bnd]
  | some y =>
   have hy := cat_size h'
   simp only [some_bnd, h', j4 y (by omega)]
def twB : List GDecl → List GDecl → Bool
 | _, [] => false
 | pre, x :: rest => (pre.any fun y => eqS y.Pre x.Pre) || twB (pre ++ [x]) rest
theorem any_spec (o : GOp) (hl : o.Decls.length ≤ 4000000) (x : GDecl) (i : Nat) (hx : getI o.Decls i = some x) (hi : i < o.Decls.length) : ∀ (m k : Nat), k + m = i → spec_OpOk_l34 i k o = if ((o.Decls.drop k).take m).any (fun y => eqS y.Pre x.Pre) then some false else spec_OpOk_l14 (i + 1 : Nat) o
 | 0, k, h => by
  have e : k = i := by omega
  subst e
  rw [spec_OpOk_l34, ltI_f (by omega), addI_eq (by omega) (by omega)]
  simp
 | m + 1, k, h => by
  have ih := any_spec o hl x i hx hi m (k + 1) (by omega)
  have hk : k < o.Decls.length := by omega
  have hg : getI o.Decls (k : Int) = some (o.Decls[k]'hk) := by
   unfold getI
   rw [if_pos (by omega)]
   simp
  rw [spec_OpOk_l34, ltI_t (by omega), hg, hx, addI_eq (by omega) (by omega), List.drop_eq_getElem_cons hk, List.take_succ_cons, List.any_cons]
  simp only [if_true, some_bnd]
  have e : ((k : Int) + 1) = ((k + 1 : Nat) : Int) := by omega
  rw [e, ih]
  cases eqS (o.Decls[k]'hk).Pre x.Pre <;> simp
theorem odecl_spec (o : GOp) (hl : o.Decls.length ≤ 4000000) (hs : ∀ d ∈ o.Decls, d.sz ≤ 4000000) : ∀ (rest pre : List GDecl), pre ++ rest = o.Decls → spec_OpOk_l14 pre.length o = if rest.all declB && !twB pre rest then spec_OpOk_l58 0 0 o else some false
 | [], pre, hp => by rw [spec_OpOk_l14, end_at hp]; rfl
 | x :: rest, pre, hp => by
  have ih := odecl_spec o hl hs rest (pre ++ [x]) (step_at hp)
  have hlen : pre.length < o.Decls.length := by rw [← hp]; simp
  have ha := any_spec o hl x pre.length (getI_at hp) hlen pre.length 0 (by omega)
  have hpre : (o.Decls.drop 0).take pre.length = pre := by rw [← hp]; simp
  have hll : (pre ++ [x]).length = pre.length + 1 := by simp
  rw [hll] at ih
  rw [hpre, ih] at ha
  have ha' : spec_OpOk_l34 pre.length 0 o = _ := ha
  rw [spec_OpOk_l14, more_at hp, getI_at hp]
  simp only [if_true, some_bnd, decl_spec x (hs x (by rw [← hp]; simp)), ha', List.all_cons, twB]
  by_cases h1 : declB x = true <;> by_cases h2 : (pre.any fun y => eqS y.Pre x.Pre) = true <;> simp [h1, h2]
theorem any_impl (l : List GDecl) (hl : l.length ≤ 4000000) (x : GDecl) : ∀ (rest pre : List GDecl), pre ++ rest = l → ∃ r, slices_IndexFunc_Decl_twicePre_1_l6 l pre.length x = some (r, x) ∧ geI r 0 = rest.any (fun y => eqS y.Pre x.Pre)
 | [], pre, hp => ⟨-1, by rw [slices_IndexFunc_Decl_twicePre_1_l6, end_at hp]; rfl, rfl⟩
 | y :: rest, pre, hp => by
  obtain ⟨r, h1, h2⟩ := any_impl l hl x rest (pre ++ [y]) (step_at hp)
  rw [slices_IndexFunc_Decl_twicePre_1_l6, more_at hp, getI_at hp, next_at hp (by rw [maxLen_eq]; omega)]
  simp only [if_true, some_bnd, impl_twicePre_1, List.any_cons]
  cases he : eqS y.Pre x.Pre with
  | true => exact ⟨pre.length, by simp only [if_true], by rw [geI_t (by omega)]; rfl⟩
  | false => exact ⟨r, by simp only [Bool.false_eq_true, if_false]; exact h1, by rw [h2]; rfl⟩
theorem slL_pre {α : Type} {l pre rest : List α} (hp : pre ++ rest = l) : slL l 0 (pre.length : Int) = some pre := by
 unfold slL
 subst hp
 rw [if_pos ⟨by omega, by omega, by rw [List.length_append]; omega⟩]
 simp
theorem tw_impl (l : List GDecl) (hl : l.length ≤ 4000000) : ∀ (rest pre : List GDecl), pre ++ rest = l → impl_twicePre_l6 l pre.length = some (twB pre rest)
 | [], pre, hp => by rw [impl_twicePre_l6, end_at hp]; rfl
 | x :: rest, pre, hp => by
  have ih := tw_impl l hl rest (pre ++ [x]) (step_at hp)
  obtain ⟨r, h1, h2⟩ := any_impl pre (by rw [← hp, List.length_append] at hl; omega) x pre [] rfl
  have h1' : slices_IndexFunc_Decl_twicePre_1_l6 pre 0 x = some (r, x) := h1
  rw [impl_twicePre_l6, more_at hp, getI_at hp, next_at hp (by rw [maxLen_eq]; omega), slL_pre hp]
  simp only [if_true, some_bnd, slices_ContainsFunc_Decl_twicePre_1, slices_IndexFunc_Decl_twicePre_1, h1', h2, ih, twB]
  cases pre.any (fun y => eqS y.Pre x.Pre) <;> rfl
theorem odecl_impl (l : List GDecl) (hl : l.length ≤ 4000000) (hs : ∀ d ∈ l, d.sz ≤ 4000000) : ∀ (rest pre : List GDecl), pre ++ rest = l → ∃ r, slices_IndexFunc_Decl_OpOk_1_l6 l pre.length = some r ∧ geI r 0 = !rest.all declB
 | [], pre, hp => ⟨-1, by rw [slices_IndexFunc_Decl_OpOk_1_l6, end_at hp]; rfl, rfl⟩
 | x :: rest, pre, hp => by
  obtain ⟨r, h1, h2⟩ := odecl_impl l hl hs rest (pre ++ [x]) (step_at hp)
  rw [slices_IndexFunc_Decl_OpOk_1_l6, more_at hp, getI_at hp, next_at hp (by rw [maxLen_eq]; omega)]
  simp only [if_true, some_bnd, impl_OpOk_1, decl_impl x (hs x (by rw [← hp]; simp)), List.all_cons]
  cases hd : declB x with
  | false => exact ⟨pre.length, by simp only [Bool.not_false, if_true], by rw [geI_t (by omega)]; rfl⟩
  | true => exact ⟨r, by simp only [Bool.not_true, Bool.false_eq_true, if_false]; exact h1, by rw [h2]; rfl⟩
def kidB (l : List GDecl) (x : GNode) : Bool := !eqI x.Kind 0 && (nodeB x && fitB x l)
def cN (x : GNode) : Nat := (cnt x).toNat
theorem cN_all (x : GNode) (hs : x.sz ≤ 1048576) : spec_CountOf x = some (cN x : Int) ∧ impl_CountOf x = some (cN x : Int) ∧ cN x ≤ 1 + x.sz := by
 obtain ⟨c, h1, h2, h3⟩ := cnt_all x hs
 have e : cN x = c := by rw [cN, cnt, h1]; rfl
 rw [e]; exact ⟨h1, h2, h3⟩
theorem okid_spec (o : GOp) (hb : o.Kids.length + szs GNode.sz o.Kids ≤ 1048576) (hd : o.Decls.length ≤ 1048576) : ∀ (rest pre : List GNode) (a : Nat), pre ++ rest = o.Kids → a + rest.length + szs GNode.sz rest ≤ 4000000 → spec_OpOk_l58 a pre.length o = if rest.all (kidB o.Decls) && noTwo (lastT pre) rest then spec_OpOk_l58 (a + szs cN rest : Nat) o.Kids.length o else some false
 | [], pre, a, hp, ha => by
  have e : pre.length = o.Kids.length := by rw [← hp]; simp
  rw [e]; rfl
 | x :: rest, pre, a, hp, ha => by
  have hmem : x ∈ o.Kids := by rw [← hp]; simp
  have hxs := szs_mem GNode.sz hmem
  obtain ⟨c1, c2, c3⟩ := cN_all x (by omega)
  rw [szs_cons] at ha
  simp only [List.length_cons] at ha
  have ih := okid_spec o hb hd rest (pre ++ [x]) (a + cN x) (step_at hp) (by omega)
  rw [lastT_app] at ih
  have hsz : szs cN (x :: rest) = cN x + szs cN rest := by rw [szs_cons]
  rw [spec_OpOk_l58, more_at hp, getI_at hp, next_at hp (by rw [maxLen_eq]; omega)]
  have ea : addI (a : Int) (cN x : Int) = ((a + cN x : Nat) : Int) := by rw [addI_eq (by omega) (by omega)]; omega
  obtain ⟨f1, f2⟩ := fit_b x o.Decls (by omega) (by omega)
  simp only [if_true, some_bnd, c1, (node_b x (by omega)).1, f1, ea, ih, List.all_cons, kidB, noTwo, hsz, ← Nat.add_assoc]
  cases hk : eqI x.Kind 0 with
  | true => simp
  | false =>
   cases hn : nodeB x with
   | false => simp
   | true =>
    cases hf : fitB x o.Decls with
    | false => simp
    | true =>
     rcases last_of pre with h | ⟨p, y, h⟩
     ·subst h
      have g : gtI ((([] : List GNode).length : Nat) : Int) 0 = false := rfl
      rw [g]
      cases ht : isT x <;> simp [lastT, ht]
     ·subst h
      obtain ⟨g1, g2⟩ := back_at hp (by omega)
      rw [g1, g2, lastT_app]
      simp only [if_true, some_bnd]
      have e1 : eqI x.Kind 2 = isT x := rfl
      have e2 : eqI y.Kind 2 = isT y := rfl
      rw [e1, e2]
      cases isT x <;> cases isT y <;> simp
theorem okid_impl (o : GOp) (hb : o.Kids.length + szs GNode.sz o.Kids ≤ 1048576) (hd : o.Decls.length ≤ 1048576) : ∀ (rest pre : List GNode) (a : Nat), pre ++ rest = o.Kids → a + rest.length + szs GNode.sz rest ≤ 4000000 → impl_opKidsOk_l8 a o pre.length = if rest.all (kidB o.Decls) then some (leI ((a + szs cN rest : Nat) : Int) 60 && noTwo false o.Kids) else some false
 | [], pre, a, hp, ha => by
  have h := two_impl o.Kids (by omega) o.Kids [] rfl
  have h' : impl_noTwoTexts_l6 o.Kids 0 = some (noTwo false o.Kids) := h
  rw [impl_opKidsOk_l8, end_at hp, impl_noTwoTexts, h']
  simp only [Bool.false_eq_true, if_false, some_bnd, List.all_nil, if_true]
  have e : szs cN ([] : List GNode) = 0 := rfl
  rw [e, Nat.add_zero]
  cases leI (a : Int) 60 <;> rfl
 | x :: rest, pre, a, hp, ha => by
  have hmem : x ∈ o.Kids := by rw [← hp]; simp
  have hxs := szs_mem GNode.sz hmem
  obtain ⟨c1, c2, c3⟩ := cN_all x (by omega)
  rw [szs_cons] at ha
  simp only [List.length_cons] at ha
  have ih := okid_impl o hb hd rest (pre ++ [x]) (a + cN x) (step_at hp) (by omega)
  have hsz : szs cN (x :: rest) = cN x + szs cN rest := by rw [szs_cons]
  rw [impl_opKidsOk_l8, more_at hp, getI_at hp, next_at hp (by rw [maxLen_eq]; omega)]
  have ea : addI (a : Int) (cN x : Int) = ((a + cN x : Nat) : Int) := by rw [addI_eq (by omega) (by omega)]; omega
  obtain ⟨f1, f2⟩ := fit_b x o.Decls (by omega) (by omega)
  simp only [if_true, some_bnd, c2, (node_b x (by omega)).2, f2, ea, ih, List.all_cons, kidB, hsz, ← Nat.add_assoc]
  cases eqI x.Kind 0 <;> cases nodeB x <;> cases fitB x o.Decls <;> simp
theorem tail_same (o : GOp) (n : Nat) (h1 : o.Pre.size ≤ 1500000) (h2 : o.Local.size ≤ 1500000) (hl : o.Kids.length ≤ 1048576) (hk : 1 ≤ o.Kind ∧ o.Kind ≤ 3) (hn : leI n 60 = true) : ∃ t, spec_OpOk_l58 n o.Kids.length o = some t ∧ (if eqI o.Typ 0 then (if eqS o.Pre (⟨#[]⟩) then impl_OpOk_j10 (eqS o.Local (⟨#[]⟩)) o else impl_OpOk_j10 false o) else impl_OpOk_j10 false o) = some t := by
 obtain ⟨j, j1, _⟩ := join_all o.Pre o.Local h1 h2
 have j2 := joinname_same o.Pre o.Local h1 h2
 rw [j1] at j2
 obtain ⟨b, x1, x2⟩ := pre_all o.Local (by omega)
 rw [spec_OpOk_l58, ltI_f (by simp only [lenL]; omega)]
 simp only [Bool.false_eq_true, if_false, gtI_not, neI_not, l1In_eq, in_eq, j1, j2, some_bnd, spec_OpOk_j110, impl_OpOk_j10, impl_typeOk, impl_typeOk_j2, x1, x2]
 have hT : (eqI o.Typ 0 = true ∧ eqI o.Typ 6 = false ∧ eqI o.Typ 7 = false) ∨ (eqI o.Typ 0 = false ∧ eqI o.Typ 6 = true ∧ eqI o.Typ 7 = false) ∨ (eqI o.Typ 0 = false ∧ eqI o.Typ 6 = false ∧ eqI o.Typ 7 = true) ∨ (eqI o.Typ 0 = false ∧ eqI o.Typ 6 = false ∧ eqI o.Typ 7 = false) := by
  by_cases t0 : o.Typ = 0
  ·exact .inl ⟨eqI_t t0, eqI_f (by omega), eqI_f (by omega)⟩
  ·by_cases t6 : o.Typ = 6
   ·exact .inr (.inl ⟨eqI_f t0, eqI_t t6, eqI_f (by omega)⟩)
   ·by_cases t7 : o.Typ = 7
    ·exact .inr (.inr (.inl ⟨eqI_f t0, eqI_f t6, eqI_t t7⟩))
    ·exact .inr (.inr (.inr ⟨eqI_f t0, eqI_f t6, eqI_f t7⟩))
 have hK : (eqI o.Kind 1 = true ∧ eqI o.Kind 2 = false ∧ eqI o.Kind 3 = false) ∨ (eqI o.Kind 1 = false ∧ eqI o.Kind 2 = true ∧ eqI o.Kind 3 = false) ∨ (eqI o.Kind 1 = false ∧ eqI o.Kind 2 = false ∧ eqI o.Kind 3 = true) := by
  by_cases t0 : o.Kind = 1
  ·exact .inl ⟨eqI_t t0, eqI_f (by omega), eqI_f (by omega)⟩
  ·by_cases t6 : o.Kind = 2
   ·exact .inr (.inl ⟨eqI_f t0, eqI_t t6, eqI_f (by omega)⟩)
   ·exact .inr (.inr ⟨eqI_f t0, eqI_f t6, eqI_t (by omega)⟩)
 have hN : (leI (lenL o.Kids) 1 = true ∧ eqI (lenL o.Kids) 1 = false) ∨ (leI (lenL o.Kids) 1 = true ∧ eqI (lenL o.Kids) 1 = true ∧ ∃ x, getI o.Kids 0 = some x) ∨ leI (lenL o.Kids) 1 = false := by
  by_cases t0 : o.Kids.length = 1
  ·refine .inr (.inl ⟨leI_t (by simp only [lenL]; omega), eqI_t (by simp only [lenL]; omega), ?_⟩)
   cases hc : o.Kids with
   | nil => rw [hc] at t0; simp at t0
   | cons x r => exact ⟨x, rfl⟩
  ·by_cases t1 : o.Kids.length = 0
   ·exact .inl ⟨leI_t (by simp only [lenL]; omega), eqI_f (by simp only [lenL]; omega)⟩
   ·exact .inr (.inr (leI_f (by simp only [lenL]; omega)))
 rcases hK with ⟨k1, k2, k3⟩ | ⟨k1, k2, k3⟩ | ⟨k1, k2, k3⟩
 ·by_cases w : eqI o.Ws 0 = true
  ·by_cases p : decide ((0 : Int) ≤ o.Pos ∧ o.Pos ≤ 3) = true
   ·rcases hT with ⟨g0, g6, g7⟩ | ⟨g0, g6, g7⟩ | ⟨g0, g6, g7⟩ | ⟨g0, g6, g7⟩ <;> rcases hN with ⟨n1, n2⟩ | ⟨n1, n2, x, n3⟩ | n1 <;> (by_cases a : eqS o.Pre ⟨#[]⟩ = true <;> by_cases c : eqS o.Local ⟨#[]⟩ = true <;> by_cases q : eqI o.Pos 0 = true <;> by_cases jj : eqS j ⟨#[]⟩ = true <;> first | (simp [*]; done) | (by_cases xk : eqI x.Kind 2 = true <;> simp [*]))
   ·simp [hn, k1, w, p]
  ·simp [hn, k1, w]
 ·rcases hT with ⟨g0, g6, g7⟩ | ⟨g0, g6, g7⟩ | ⟨g0, g6, g7⟩ | ⟨g0, g6, g7⟩ <;> by_cases w : eqI o.Ws 0 = true <;> by_cases q : eqI o.Pos 0 = true <;> by_cases a : eqS o.Pre ⟨#[]⟩ = true <;> by_cases c : eqS o.Local ⟨#[]⟩ = true <;> simp [hn, k1, k2, k3, g0, w, q, a, c]
 ·by_cases p : decide ((0 : Int) ≤ o.Ws ∧ o.Ws ≤ 3) = true <;> rcases hT with ⟨g0, g6, g7⟩ | ⟨g0, g6, g7⟩ | ⟨g0, g6, g7⟩ | ⟨g0, g6, g7⟩ <;> by_cases q : eqI o.Pos 0 = true <;> by_cases a : eqS o.Pre ⟨#[]⟩ = true <;> by_cases c : eqS o.Local ⟨#[]⟩ = true <;> simp [hn, k1, k2, k3, g0, p, q, a, c]
theorem tail_over (o : GOp) (n : Nat) (hn : leI n 60 = false) : spec_OpOk_l58 n o.Kids.length o = some false := by
 rw [spec_OpOk_l58, ltI_f (by simp only [lenL]; omega)]
 simp only [Bool.false_eq_true, if_false, gtI_not, hn, Bool.not_false, if_true]
theorem tail_odd (o : GOp) (hk : ¬ (1 ≤ o.Kind ∧ o.Kind ≤ 3)) (b : Bool) : impl_OpOk_j10 b o = some false := by
 rw [impl_OpOk_j10, eqI_f (show o.Kind ≠ 1 by omega), eqI_f (show o.Kind ≠ 2 by omega), eqI_f (show o.Kind ≠ 3 by omega)]
 rfl
theorem same_OpOk (o : GOp) (hs : o.sz ≤ 1048576) : ∃ r, spec_OpOk o = some r ∧ impl_OpOk o = some r := by
 have hz := GOp.sz_eq o
 rw [hz] at hs
 obtain ⟨e, e1, e2⟩ := all_SelOk o.Sel (by omega)
 have hd : ∀ d ∈ o.Decls, d.sz ≤ 4000000 := fun d h => by have := szs_mem GDecl.sz h; omega
 have a1 := odecl_spec o (by omega) hd o.Decls [] rfl
 have a1' : spec_OpOk_l14 0 o = _ := a1
 have b1 := tw_impl o.Decls (by omega) o.Decls [] rfl
 have b1' : impl_twicePre_l6 o.Decls 0 = _ := b1
 obtain ⟨r, c1, c2⟩ := odecl_impl o.Decls (by omega) hd o.Decls [] rfl
 have c1' : slices_IndexFunc_Decl_OpOk_1_l6 o.Decls 0 = some r := c1
 have d1 := okid_spec o (by omega) (by omega) o.Kids [] 0 rfl (by omega)
 have d1' : spec_OpOk_l58 0 0 o = _ := d1
 have f1 := okid_impl o (by omega) (by omega) o.Kids [] 0 rfl (by omega)
 have f1' : impl_opKidsOk_l8 0 o 0 = _ := f1
 have hl : lastT [] = false := rfl
 rw [hl] at d1'
 rw [Nat.zero_add] at d1' f1'
 rw [spec_OpOk, impl_OpOk, e1, e2, l1In_eq, a1', d1', impl_twicePre, b1', slices_ContainsFunc_Decl_OpOk_1, slices_IndexFunc_Decl_OpOk_1, c1', impl_opKidsOk, f1']
 simp only [some_bnd, c2]
 by_cases hk : 1 ≤ o.Kind ∧ o.Kind ≤ 3
 ·rw [decide_eq_true hk]
  by_cases hn : leI ((szs cN o.Kids : Nat) : Int) 60 = true
  ·obtain ⟨t, t1, t2⟩ := tail_same o (szs cN o.Kids) (by omega) (by omega) (by omega) hk hn
   rw [t1, t2, hn]
   by_cases h1 : e = true <;> by_cases h2 : gtI (lenL o.Decls) 8 = true <;> by_cases h3 : twB [] o.Decls = true <;> by_cases h4 : o.Decls.all declB = true <;> by_cases h5 : o.Kids.all (kidB o.Decls) = true <;> by_cases h6 : noTwo false o.Kids = true <;> simp [h1, h2, h3, h4, h5, h6]
  ·have hn' : leI ((szs cN o.Kids : Nat) : Int) 60 = false := by simpa using hn
   rw [tail_over o _ hn', hn']
   by_cases h1 : e = true <;> by_cases h2 : gtI (lenL o.Decls) 8 = true <;> by_cases h3 : twB [] o.Decls = true <;> by_cases h4 : o.Decls.all declB = true <;> by_cases h5 : o.Kids.all (kidB o.Decls) = true <;> by_cases h6 : noTwo false o.Kids = true <;> simp [h1, h2, h3, h4, h5, h6]
 ·rw [decide_eq_false hk]
  simp only [tail_odd o hk]
  by_cases h1 : e = true <;> by_cases h2 : gtI (lenL o.Decls) 8 = true <;> by_cases h3 : twB [] o.Decls = true <;> by_cases h4 : o.Decls.all declB = true <;> by_cases h5 : o.Kids.all (kidB o.Decls) = true <;> simp [h1, h2, h3, h4, h5]
end TT
