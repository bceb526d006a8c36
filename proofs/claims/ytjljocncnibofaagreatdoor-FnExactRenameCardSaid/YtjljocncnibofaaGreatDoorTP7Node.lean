import Derived.Test.YtjljocncnibofaaGreatDoorTP2Tree
set_option linter.unusedVariables false
set_option linter.unusedSimpArgs false
namespace TT
open Go
inductive Sm : GNode → Prop
 | mk (n : GNode) : n.Pre.size ≤ 4000000 → n.Local.size ≤ 4000000 → n.Uri.size ≤ 4000000 → n.Text.size ≤ 4000000 → n.Decls.length ≤ 1200000 → (∀ d ∈ n.Decls, d.sz ≤ 1200000) → n.Attrs.length ≤ 1200000 → (∀ a ∈ n.Attrs, a.sz ≤ 4000000) → n.Kids.length ≤ 1200000 → (∀ k ∈ n.Kids, Sm k) → Sm n
theorem Sm.facts {n : GNode} (h : Sm n) : n.Pre.size ≤ 4000000 ∧ n.Local.size ≤ 4000000 ∧ n.Uri.size ≤ 4000000 ∧ n.Text.size ≤ 4000000 ∧ n.Decls.length ≤ 1200000 ∧ n.Attrs.length ≤ 1200000 ∧ n.Kids.length ≤ 1200000 := by
 cases h with
 | mk _ h1 h2 h3 h4 h5 h6 h7 h8 h9 h10 => exact ⟨h1, h2, h3, h4, h5, h7, h9⟩
theorem Sm.decl {n : GNode} (h : Sm n) : ∀ d ∈ n.Decls, d.sz ≤ 1200000 := by
 cases h with
 | mk _ h1 h2 h3 h4 h5 h6 h7 h8 h9 h10 => exact h6
theorem Sm.attr {n : GNode} (h : Sm n) : ∀ a ∈ n.Attrs, a.sz ≤ 4000000 := by
 cases h with
 | mk _ h1 h2 h3 h4 h5 h6 h7 h8 h9 h10 => exact h8
theorem Sm.kid {n : GNode} (h : Sm n) : ∀ k ∈ n.Kids, Sm k := by
 cases h with
 | mk _ h1 h2 h3 h4 h5 h6 h7 h8 h9 h10 => exact h10
inductive Fine : GNode → Prop
 | mk (n : GNode) : n.Uri.size ≤ 40 → n.Attrs.length ≤ 5 → (∀ a ∈ n.Attrs, a.Uri.size ≤ 40) → (∀ k ∈ n.Kids, Fine k) → Fine n
mutual
def wz : GNode → Nat
 | ⟨_, _, _, _, _, a, ks, _⟩ => 1 + a.length + wzL ks
def wzL : List GNode → Nat
 | [] => 0
 | x :: l => wz x + wzL l
end
theorem wzL_eq (l : List GNode) : wzL l = szs wz l := by
 induction l with
 | nil => rfl
 | cons x l ih => rw [wzL, szs_cons, ih]
theorem wz_eq (n : GNode) : wz n = 1 + n.Attrs.length + szs wz n.Kids := by cases n; rw [wz, wzL_eq]
theorem uri40 (u p : ByteArray) (h : uriB u p = true) : u.size ≤ 40 := by
 rw [uriB, Bool.and_eq_true, Bool.and_eq_true] at h
 have := of_decide_eq_true h.2.1
 simp only [lenS] at this
 omega
theorem attr40 (a : GAttr) (hs : a.sz ≤ 4000000) (h : attrB a = true) : a.Uri.size ≤ 40 := by
 have h2 := (attr_b a hs).2
 rw [h] at h2
 rw [GAttr.sz_eq] at hs
 rw [impl_attrOk, (pre_b a.Pre (by omega)).2, uri_impl _ _ (by omega)] at h2
 cases hu : uriB a.Uri a.Pre with
 | true => exact uri40 _ _ hu
 | false =>
  rw [hu] at h2
  revert h2
  simp only [some_bnd, Bool.false_eq_true, if_false]
  cases preB a.Pre <;> cases neB (eqS a.Pre ⟨#[]⟩) (eqS a.Uri ⟨#[]⟩) <;> intro h2 <;> cases h2
theorem attrs40_loop (n : GNode) (hl : n.Attrs.length ≤ 4000000) (hs : ∀ d ∈ n.Attrs, d.sz ≤ 4000000) : ∀ (rest pre : List GAttr), pre ++ rest = n.Attrs → spec_l5One_l21 pre.length n = some true → ∀ x ∈ rest, x.Uri.size ≤ 40
 | [], pre, hp, h => fun x hx => by cases hx
 | y :: rest, pre, hp, h => by
  have hx : y.sz ≤ 4000000 := hs y (by rw [← hp]; simp)
  rw [spec_l5One_l21, more_at hp, getI_at hp, next_at hp (by rw [maxLen_eq]; omega)] at h
  simp only [if_true, some_bnd, (attr_b y hx).1] at h
  cases hy : attrB y with
  | false => rw [hy] at h; cases h
  | true =>
   rw [hy] at h
   simp only [if_true] at h
   have ht : spec_l5One_l21 (pre ++ [y]).length n = some true := by
    rcases last_of pre with rfl | ⟨p, z, rfl⟩
    ·have e : gtI ((([] : List GAttr).length : Nat) : Int) 0 = false := rfl
     rw [e] at h
     exact h
    ·obtain ⟨e1, e2⟩ := back_at hp hl
     obtain ⟨c, e3, e4⟩ := less_all z y
     rw [e1, e2] at h
     simp only [if_true, some_bnd, e4] at h
     revert h
     cases geI c 0 with
     | true => intro h; cases h
     | false => exact fun h => h
   intro x hx2
   rcases List.mem_cons.1 hx2 with rfl | hx2
   ·exact attr40 _ hx hy
   ·exact attrs40_loop n hl hs rest (pre ++ [y]) (step_at hp) ht x hx2
def leafM (n : GNode) : Bool := (impl_leafOk n).getD false
theorem leaf_m (n : GNode) (hm : Sm n) (hk : eqI n.Kind 1 = false) : spec_l5One n = some (leafM n) ∧ impl_leafOk n = some (leafM n) := by
 have hs := hm.facts
 have h : ∃ c, spec_l5One n = some c ∧ impl_leafOk n = some c := by
  obtain ⟨b1, s1, s2⟩ := suffix_all n.Text (by omega)
  obtain ⟨b2, f1, f2⟩ := first_all n.Text (by omega)
  have c1 := has_all n.Text ⟨#[45, 45]⟩ (by decide) (by omega) (by decide)
  have c2 := has_all n.Text ⟨#[13]⟩ (by decide) (by omega) (by decide)
  have c3 := has_all n.Text ⟨#[63, 62]⟩ (by decide) (by omega) (by decide)
  have x1 := xml_all n.Local (by omega)
  have p1 := plain_all n.Local (by omega)
  have t1 := text_b n.Text (by omega)
  rw [spec_l5One, impl_leafOk, impl_leafOk_j2, impl_noteOk, impl_toldOk, spec_l5Bare, hk, s1, s2, f1, f2, c1.1, c1.2, c2.1, c2.2, c3.1, c3.2, x1.1, x1.2, p1.1, p1.2.1, t1.1, t1.2]
  simp only [some_bnd, neS_not, neI_not, lenL_0, Bool.false_eq_true, if_false]
  have k23 : eqI n.Kind 2 = true → eqI n.Kind 3 = false ∧ eqI n.Kind 4 = false := fun h => by
   have := eqI_iff.1 h; exact ⟨eqI_f (by omega), eqI_f (by omega)⟩
  have k34 : eqI n.Kind 3 = true → eqI n.Kind 4 = false := fun h => by
   have := eqI_iff.1 h; exact eqI_f (by omega)
  cases eqS n.Pre ⟨#[]⟩ <;> cases eqS n.Uri ⟨#[]⟩ <;> cases eqI (lenL n.Decls) 0 <;> cases eqI (lenL n.Attrs) 0 <;> cases eqI (lenL n.Kids) 0
  all_goals try (cases h2 : eqI n.Kind 2 <;> cases h3 : eqI n.Kind 3 <;> cases h4 : eqI n.Kind 4 <;> exact ⟨false, rfl, rfl⟩)
  cases h2 : eqI n.Kind 2 with
  | true =>
   obtain ⟨h3, h4⟩ := k23 h2
   rw [h4]
   cases eqS n.Local ⟨#[]⟩ <;> cases eqS n.Text ⟨#[]⟩ <;> cases textB n.Text <;> exact ⟨_, rfl, rfl⟩
  | false =>
   cases h3 : eqI n.Kind 3 with
   | true =>
    rw [k34 h3]
    cases eqS n.Local ⟨#[]⟩ <;> cases textB n.Text <;> cases containsB n.Text ⟨#[45, 45]⟩ <;> cases containsB n.Text ⟨#[13]⟩ <;> cases b1 <;> exact ⟨_, rfl, rfl⟩
   | false =>
    cases h4 : eqI n.Kind 4 with
    | true => cases eqS n.Local ⟨#[]⟩ <;> cases plainB n.Local <;> cases foldB n.Local ⟨#[120, 109, 108]⟩ <;> cases textB n.Text <;> cases containsB n.Text ⟨#[63, 62]⟩ <;> cases containsB n.Text ⟨#[13]⟩ <;> exact ⟨_, rfl, rfl⟩
    | false => cases eqS n.Local ⟨#[]⟩ <;> exact ⟨_, rfl, rfl⟩
 obtain ⟨c, h3, h4⟩ := h
 have e : leafM n = c := by rw [leafM, h4]; rfl
 exact ⟨by rw [h3, e], by rw [h4, e]⟩
theorem leaf_fine (n : GNode) (hm : Sm n) (hk : eqI n.Kind 1 = false) (h : leafM n = true) : Fine n := by
 have h2 := (leaf_m n hm hk).2
 rw [h, impl_leafOk] at h2
 simp only [neS_not, lenL_0] at h2
 cases e0 : eqS n.Pre ⟨#[]⟩ with
 | false => rw [e0] at h2; cases h2
 | true =>
  cases e1 : eqS n.Uri ⟨#[]⟩ with
  | false => rw [e0, e1] at h2; cases h2
  | true =>
   cases e2 : eqI (lenL n.Decls) 0 with
   | false => rw [e0, e1, e2] at h2; cases h2
   | true =>
    cases e3 : eqI (lenL n.Attrs) 0 with
    | false => rw [e0, e1, e2, e3] at h2; cases h2
    | true =>
     cases e4 : eqI (lenL n.Kids) 0 with
     | false => rw [e0, e1, e2, e3, e4] at h2; cases h2
     | true =>
      have u0 := eqS_iff.1 e1
      have a0 : n.Attrs = [] := List.eq_nil_of_length_eq_zero (by have := eqI_iff.1 e3; simp only [lenL] at this; omega)
      have k0 : n.Kids = [] := List.eq_nil_of_length_eq_zero (by have := eqI_iff.1 e4; simp only [lenL] at this; omega)
      refine ⟨n, by rw [u0]; decide, by rw [a0]; decide, fun a ha => (by rw [a0] at ha; cases ha), fun k hk => (by rw [k0] at hk; cases hk)⟩
def elB (n : GNode) : Bool := (spec_l5One n).getD false
theorem el_b (n : GNode) (hm : Sm n) (hk : eqI n.Kind 1 = true) : spec_l5One n = some (elB n) ∧ ∀ (d : Int) (b : Bool), geI d 7 = false → impl_kidsOk n (addI d 1) = some b → impl_partOk n d = some (elB n && b) := by
 have hs := hm.facts
 obtain ⟨ab, a1, a2⟩ := attrs_all n (by omega) hm.attr
 obtain ⟨d1, d2⟩ := decls_b n.Decls (by omega) (fun x hx => Nat.le_trans (hm.decl x hx) (by decide))
 have e1 : spec_l5One n = some (preB n.Pre && (plainB n.Local && (eqS n.Text ⟨#[]⟩ && (uriB n.Uri n.Pre && (declsB n.Decls && (ab && leI (lenL n.Attrs) 5)))))) := by
  rw [spec_l5One, hk, (pre_b n.Pre (by omega)).1, (plain_all n.Local (by omega)).1, (text_b n.Uri (by omega)).1, d1, a1, uriB]
  simp only [some_bnd, neS_not, if_true, gtI_not]
  cases preB n.Pre <;> cases plainB n.Local <;> cases eqS n.Text ⟨#[]⟩ <;> cases eqS n.Pre ⟨#[]⟩ <;> cases eqS n.Uri ⟨#[]⟩ <;> cases textB n.Uri <;> cases leI (lenS n.Uri) 40 <;> cases declsB n.Decls <;> cases leI (lenL n.Attrs) 5 <;> cases ab <;> rfl
 have e2 : elB n = (preB n.Pre && (plainB n.Local && (eqS n.Text ⟨#[]⟩ && (uriB n.Uri n.Pre && (declsB n.Decls && (ab && leI (lenL n.Attrs) 5)))))) := by rw [elB, e1]; rfl
 refine ⟨by rw [e1, e2], fun d b hd hb => ?_⟩
 rw [impl_partOk, neI_not, hk, hd, (pre_b n.Pre (by omega)).2, uri_impl _ _ (by omega), (plain_all n.Local (by omega)).2.1, d2, a2, hb, e2]
 simp only [some_bnd, neS_not, Bool.not_true, Bool.false_eq_true, if_false]
 cases preB n.Pre <;> cases plainB n.Local <;> cases eqS n.Text ⟨#[]⟩ <;> cases uriB n.Uri n.Pre <;> cases declsB n.Decls <;> cases leI (lenL n.Attrs) 5 <;> cases ab <;> rfl
theorem el_fine (n : GNode) (hm : Sm n) (hk : eqI n.Kind 1 = true) (h : elB n = true) (hf : ∀ k ∈ n.Kids, Fine k) : Fine n := by
 have h1 := (el_b n hm hk).1
 have hs := hm.facts
 obtain ⟨ab, a1, a2⟩ := attrs_all n (by omega) hm.attr
 obtain ⟨d1, d2⟩ := decls_b n.Decls (by omega) (fun x hx => Nat.le_trans (hm.decl x hx) (by decide))
 have e1 : spec_l5One n = some (preB n.Pre && (plainB n.Local && (eqS n.Text ⟨#[]⟩ && (uriB n.Uri n.Pre && (declsB n.Decls && (ab && leI (lenL n.Attrs) 5)))))) := by
  rw [spec_l5One, hk, (pre_b n.Pre (by omega)).1, (plain_all n.Local (by omega)).1, (text_b n.Uri (by omega)).1, d1, a1, uriB]
  simp only [some_bnd, neS_not, if_true, gtI_not]
  cases preB n.Pre <;> cases plainB n.Local <;> cases eqS n.Text ⟨#[]⟩ <;> cases eqS n.Pre ⟨#[]⟩ <;> cases eqS n.Uri ⟨#[]⟩ <;> cases textB n.Uri <;> cases leI (lenS n.Uri) 40 <;> cases declsB n.Decls <;> cases leI (lenL n.Attrs) 5 <;> cases ab <;> rfl
 rw [h1, h] at e1
 have e2 := (Option.some.inj e1).symm
 simp only [Bool.and_eq_true] at e2
 obtain ⟨_, _, _, f1, _, f2, f3⟩ := e2
 rw [f2] at a1
 refine ⟨n, uri40 _ _ f1, by have := of_decide_eq_true f3; simp only [lenL] at this; omega, fun a ha => ?_, hf⟩
 rw [spec_l5One_j9] at a1
 exact attrs40_loop n (by omega) hm.attr n.Attrs [] rfl a1 a ha
def sKid (x : GNode) (deep : Int) : Option Bool := spec_l5One x >>= fun r2 => if r2 then (if eqI x.Kind 1 then (if eqI deep 7 then some false else spec_l5Kids x.Kids (addI deep 1)) else some true) else some false
def isT (x : GNode) : Bool := eqI x.Kind 2
def lastT (pre : List GNode) : Bool := match pre.getLast? with
 | some y => isT y
 | none => false
def noTwo : Bool → List GNode → Bool
 | _, [] => true
 | p, x :: xs => !(p && isT x) && noTwo (isT x) xs
theorem lastT_app (pre : List GNode) (x : GNode) : lastT (pre ++ [x]) = isT x := by simp [lastT]
def pB (d : Int) (k : GNode) : Bool := (impl_partOk k d).getD false
theorem kids_spec (l : List GNode) (hl : l.length ≤ 4000000) (d : Int) (hk : ∀ k ∈ l, sKid k d = some (pB d k)) : ∀ (rest pre : List GNode), pre ++ rest = l → spec_l5Kids_l6 l d pre.length = some (noTwo (lastT pre) rest && rest.all (pB d))
 | [], pre, hp => by rw [spec_l5Kids_l6, end_at hp]; rfl
 | x :: rest, pre, hp => by
  have ih := kids_spec l hl d hk rest (pre ++ [x]) (step_at hp)
  have hx := hk x (by rw [← hp]; simp)
  rw [lastT_app] at ih
  rw [sKid] at hx
  obtain ⟨r2, h2, hx⟩ := Option.bind_eq_some_iff.1 hx
  have hj : r2 = true → spec_l5Kids_j17 l d pre.length x = some (pB d x && (noTwo (isT x) rest && rest.all (pB d))) := fun hr => by
   rw [hr] at hx
   rw [spec_l5Kids_j17, next_at hp (by rw [maxLen_eq]; omega), ih]
   simp only [if_true] at hx
   revert hx
   cases eqI x.Kind 1 with
   | false =>
    simp only [Bool.false_eq_true, if_false]
    intro hx
    rw [← Option.some.inj hx]; rfl
   | true =>
    simp only [if_true]
    cases eqI d 7 with
    | true => simp only [if_true]; intro hx; rw [← Option.some.inj hx]; rfl
    | false =>
     simp only [Bool.false_eq_true, if_false]
     intro hx
     rw [hx]
     simp only [some_bnd]
     cases pB d x <;> rfl
  rw [spec_l5Kids_l6, more_at hp, getI_at hp]
  simp only [if_true, some_bnd, h2]
  cases r2 with
  | false =>
   simp only [Bool.false_eq_true, if_false] at hx ⊢
   have : pB d x = false := (Option.some.inj hx).symm
   simp only [List.all_cons, this, Bool.false_and, Bool.and_false]
  | true =>
   rw [hj rfl]
   simp only [if_true, noTwo, List.all_cons]
   show (if isT x = true then _ else _) = _
   cases hx2 : isT x with
   | false => simp only [Bool.false_eq_true, if_false, Bool.and_false, Bool.not_false, Bool.true_and]; cases pB d x <;> simp
   | true =>
    simp only [if_true, Bool.and_true]
    rcases last_of pre with rfl | ⟨p, y, rfl⟩
    ·have e : gtI ((([] : List GNode).length : Nat) : Int) 0 = false := rfl
     rw [e]
     simp only [Bool.false_eq_true, if_false]
     show _ = some ((!(false) && noTwo true rest) && _)
     cases pB d x <;> simp
    ·obtain ⟨e1, e2⟩ := back_at hp hl
     rw [e1, e2, lastT_app]
     simp only [if_true, some_bnd]
     show (if isT y = true then _ else _) = _
     cases isT y with
     | true => simp
     | false => simp only [Bool.false_eq_true, if_false]; cases pB d x <;> simp
theorem two_impl (l : List GNode) (hl : l.length ≤ 4000000) : ∀ (rest pre : List GNode), pre ++ rest = l → impl_noTwoTexts_l6 l pre.length = some (noTwo (lastT pre) rest)
 | [], pre, hp => by rw [impl_noTwoTexts_l6, end_at hp]; rfl
 | x :: rest, pre, hp => by
  have ih := two_impl l hl rest (pre ++ [x]) (step_at hp)
  rw [lastT_app] at ih
  rw [impl_noTwoTexts_l6, more_at hp, getI_at hp, next_at hp (by rw [maxLen_eq]; omega), ih]
  simp only [if_true, some_bnd, noTwo]
  rcases last_of pre with rfl | ⟨p, y, rfl⟩
  ·have e : gtI ((([] : List GNode).length : Nat) : Int) 0 = false := rfl
   rw [e]; rfl
  ·obtain ⟨e1, e2⟩ := back_at hp hl
   rw [e1, e2, lastT_app]
   simp only [if_true, some_bnd]
   show (if isT x = true then (if isT y = true then _ else _) else _) = _
   cases isT x <;> cases isT y <;> rfl
theorem idx_impl (l : List GNode) (hl : l.length ≤ 4000000) (d : Int) (hk : ∀ k ∈ l, impl_partOk k d = some (pB d k)) : ∀ (rest pre : List GNode), pre ++ rest = l → ∃ r, slices_IndexFunc_Node_kidsOk_1_l6 l pre.length d = some (r, d) ∧ geI r 0 = !rest.all (pB d)
 | [], pre, hp => ⟨-1, by rw [slices_IndexFunc_Node_kidsOk_1_l6, end_at hp]; rfl, rfl⟩
 | x :: rest, pre, hp => by
  obtain ⟨r, h1, h2⟩ := idx_impl l hl d hk rest (pre ++ [x]) (step_at hp)
  rw [slices_IndexFunc_Node_kidsOk_1_l6, more_at hp, getI_at hp, next_at hp (by rw [maxLen_eq]; omega)]
  simp only [if_true, some_bnd, List.all_cons, impl_kidsOk_1, hk x (by rw [← hp]; simp)]
  cases pB d x with
  | true => exact ⟨r, h1, by rw [h2]; rfl⟩
  | false => exact ⟨pre.length, rfl, by rw [geI_t (by omega)]; rfl⟩
def kidsB (d : Int) (l : List GNode) : Bool := noTwo false l && l.all (pB d)
theorem kids_impl (n : GNode) (hl : n.Kids.length ≤ 4000000) (d : Int) (hk : ∀ k ∈ n.Kids, impl_partOk k d = some (pB d k)) : impl_kidsOk n d = some (kidsB d n.Kids) := by
 have h1 : impl_noTwoTexts n.Kids = some (noTwo false n.Kids) := by rw [impl_noTwoTexts]; exact two_impl n.Kids hl n.Kids [] rfl
 obtain ⟨r, h2, h3⟩ := idx_impl n.Kids hl d hk n.Kids [] rfl
 have h2' : slices_IndexFunc_Node_kidsOk_1_l6 n.Kids 0 d = some (r, d) := h2
 rw [impl_kidsOk, h1, slices_ContainsFunc_Node_kidsOk_1, slices_IndexFunc_Node_kidsOk_1, h2']
 simp only [some_bnd, h3, Bool.not_not, kidsB]
 cases noTwo false n.Kids <;> rfl
theorem part_all : ∀ n : GNode, Sm n → ∀ d : Nat, d ≤ 7 → impl_partOk n d = some (pB d n) ∧ sKid n d = some (pB d n) ∧ (pB d n = true → Fine n) := by
 refine GNode.ind' fun n ih hm d hd => ?_
 have h : ∃ b, impl_partOk n d = some b ∧ sKid n d = some b ∧ (b = true → Fine n) := by
  have hs := hm.facts
  cases hk : eqI n.Kind 1 with
  | false =>
   obtain ⟨l1, l2⟩ := leaf_m n hm hk
   refine ⟨leafM n, ?_, ?_, leaf_fine n hm hk⟩
   ·rw [impl_partOk, neI_not, hk, l2]; rfl
   ·rw [sKid, l1, hk]
    cases leafM n <;> rfl
  | true =>
   obtain ⟨e1, e2⟩ := el_b n hm hk
   by_cases h7 : d = 7
   ·subst h7
    refine ⟨false, ?_, ?_, fun hb => by cases hb⟩
    ·rw [impl_partOk, neI_not, hk]; rfl
    ·rw [sKid, e1, hk]
     have : eqI ((7 : Nat) : Int) 7 = true := rfl
     rw [this]
     cases elB n <;> rfl
   ·have hadd : addI (d : Int) 1 = ((d + 1 : Nat) : Int) := by rw [addI_eq (by omega) (by omega)]; omega
    have hkid : ∀ k ∈ n.Kids, impl_partOk k ((d + 1 : Nat) : Int) = some (pB ((d + 1 : Nat) : Int) k) ∧ sKid k ((d + 1 : Nat) : Int) = some (pB ((d + 1 : Nat) : Int) k) ∧ (pB ((d + 1 : Nat) : Int) k = true → Fine k) := fun k hk => ih k hk (hm.kid k hk) (d + 1) (by omega)
    have k1 := kids_impl n (by omega) _ fun k hk => (hkid k hk).1
    have k2 : spec_l5Kids n.Kids ((d + 1 : Nat) : Int) = some (kidsB ((d + 1 : Nat) : Int) n.Kids) := by
     rw [spec_l5Kids]
     exact kids_spec n.Kids (by omega) _ (fun k hk => (hkid k hk).2.1) n.Kids [] rfl
    refine ⟨elB n && kidsB ((d + 1 : Nat) : Int) n.Kids, e2 d _ (geI_f (by omega)) (by rw [hadd]; exact k1), ?_, fun hb => ?_⟩
    rotate_left
    ·rw [Bool.and_eq_true, kidsB, Bool.and_eq_true] at hb
     exact el_fine n hm hk hb.1 fun k hk2 => (hkid k hk2).2.2 (List.all_eq_true.1 hb.2.2 k hk2)
    rw [sKid, e1, hk, eqI_f (show (d : Int) ≠ 7 by omega), hadd, k2]
    cases elB n <;> rfl
 obtain ⟨b, h1, h2, h3⟩ := h
 have e : pB d n = b := by rw [pB, h1]; rfl
 exact ⟨by rw [h1, e], by rw [h2, e], by rw [e]; exact h3⟩
theorem kids_all (l : List GNode) (hl : l.length ≤ 4000000) (hs : ∀ k ∈ l, Sm k) (d : Nat) (hd : d ≤ 7) : spec_l5Kids l d = some (kidsB d l) := by
 rw [spec_l5Kids]
 exact kids_spec l hl _ (fun k hk => (part_all k (hs k hk) d hd).2.1) l [] rfl
theorem kidsI_all (n : GNode) (hm : Sm n) (d : Nat) (hd : d ≤ 7) : impl_kidsOk n d = some (kidsB d n.Kids) :=
 kids_impl n (by have := hm.facts; omega) _ fun k hk => (part_all k (hm.kid k hk) d hd).1
theorem cnt_loop (n : GNode) (hl : n.Kids.length ≤ 4000000) (hk : ∀ k ∈ n.Kids, spec_CountOf k = some (wz k : Int) ∧ impl_CountOf k = some (wz k : Int)) : ∀ (rest pre : List GNode) (a : Nat), pre ++ rest = n.Kids → a + szs wz rest ≤ 100000000 → spec_CountOf_l8 a pre.length n = some ((a + szs wz rest : Nat) : Int) ∧ impl_CountOf_l8 a n pre.length = some ((a + szs wz rest : Nat) : Int)
 | [], pre, a, hp, hb => ⟨by rw [spec_CountOf_l8, end_at hp]; rfl, by rw [impl_CountOf_l8, end_at hp]; rfl⟩
 | x :: rest, pre, a, hp, hb => by
  obtain ⟨h1, h2⟩ := hk x (by rw [← hp]; simp)
  rw [szs_cons] at hb
  obtain ⟨g1, g2⟩ := cnt_loop n hl hk rest (pre ++ [x]) (a + wz x) (step_at hp) (by omega)
  have e : addI (a : Int) (wz x : Int) = ((a + wz x : Nat) : Int) := by rw [addI_eq (by omega) (by omega)]; omega
  rw [szs_cons, ← Nat.add_assoc]
  refine ⟨?_, ?_⟩
  ·rw [spec_CountOf_l8, more_at hp, getI_at hp, next_at hp (by rw [maxLen_eq]; omega)]
   simp only [if_true, some_bnd, h1, e]
   exact g1
  ·rw [impl_CountOf_l8, more_at hp, getI_at hp, next_at hp (by rw [maxLen_eq]; omega)]
   simp only [if_true, some_bnd, h2, e]
   exact g2
theorem cnt_all : ∀ n : GNode, Sm n → wz n ≤ 100000000 → spec_CountOf n = some (wz n : Int) ∧ impl_CountOf n = some (wz n : Int) := by
 refine GNode.ind' fun n ih hm hs => ?_
 have hf := hm.facts
 rw [wz_eq] at hs
 obtain ⟨h1, h2⟩ := cnt_loop n (by omega) (fun k hk => ih k hk (hm.kid k hk) (by have := szs_mem wz hk; omega)) n.Kids [] (1 + n.Attrs.length) rfl (by omega)
 have e : addI 1 (lenL n.Attrs) = ((1 + n.Attrs.length : Nat) : Int) := by rw [addI_eq (by simp only [lenL]; omega) (by simp only [lenL]; omega)]; simp only [lenL]; omega
 exact ⟨by rw [spec_CountOf, e, wz_eq]; exact h1, by rw [impl_CountOf, e, wz_eq]; exact h2⟩
def ofK (k : Int) (l : List GNode) : Nat := l.countP fun x => eqI x.Kind k
theorem ofKind_loop (l : List GNode) (k : Int) (hl : l.length ≤ 4000000) : ∀ (rest pre : List GNode) (a : Nat), pre ++ rest = l → a + rest.length ≤ 8000000 → impl_ofKind_l8 k a l pre.length = some ((a + ofK k rest : Nat) : Int)
 | [], pre, a, hp, hb => by rw [impl_ofKind_l8, end_at hp]; rfl
 | x :: rest, pre, a, hp, hb => by
  rw [List.length_cons] at hb
  rw [impl_ofKind_l8, more_at hp, getI_at hp, next_at hp (by rw [maxLen_eq]; omega)]
  simp only [if_true, some_bnd]
  cases hx : eqI x.Kind k with
  | true =>
   have e : addI (a : Int) 1 = ((a + 1 : Nat) : Int) := by rw [addI_eq (by omega) (by omega)]; omega
   rw [e, if_pos rfl, ofKind_loop l k hl rest (pre ++ [x]) (a + 1) (step_at hp) (by omega)]
   simp only [ofK, List.countP_cons, hx, if_true]
   congr 2; omega
  | false =>
   simp only [Bool.false_eq_true, if_false]
   rw [ofKind_loop l k hl rest (pre ++ [x]) a (step_at hp) (by omega)]
   simp only [ofK, List.countP_cons, hx, Bool.false_eq_true, if_false, Nat.add_zero]
theorem ofKind_all (l : List GNode) (k : Int) (hl : l.length ≤ 4000000) : impl_ofKind l k = some (ofK k l : Int) := by
 rw [impl_ofKind]
 have := ofKind_loop l k hl l [] 0 rfl (by omega)
 simpa using this
def bareB (n : GNode) : Bool := eqS n.Pre ⟨#[]⟩ && (eqS n.Local ⟨#[]⟩ && (eqS n.Uri ⟨#[]⟩ && (eqS n.Text ⟨#[]⟩ && (eqI (lenL n.Decls) 0 && eqI (lenL n.Attrs) 0))))
theorem docs_loop (n : GNode) (hm : Sm n) : ∀ (rest pre : List GNode) (a : Nat), pre ++ rest = n.Kids → a + rest.length ≤ 8000000 → spec_NodeOk_l24 a pre.length n = some (eqI (ofK 2 rest : Int) 0 && (eqI ((a + ofK 1 rest : Nat) : Int) 1 && (bareB n && kidsB 0 n.Kids)))
 | [], pre, a, hp, hb => by
  have hk := kids_all n.Kids (by have := hm.facts; omega) hm.kid 0 (by omega)
  have hk' : spec_l5Kids n.Kids 0 = some (kidsB 0 n.Kids) := hk
  rw [spec_NodeOk_l24, end_at hp, hk', bareB]
  simp only [Bool.false_eq_true, if_false, some_bnd, ofK, List.countP_nil, Nat.add_zero]
  show _ = some (true && _)
  cases eqI (a : Int) 1 <;> cases eqS n.Pre ⟨#[]⟩ <;> cases eqS n.Local ⟨#[]⟩ <;> cases eqS n.Uri ⟨#[]⟩ <;> cases eqS n.Text ⟨#[]⟩ <;> cases eqI (lenL n.Decls) 0 <;> cases eqI (lenL n.Attrs) 0 <;> rfl
 | x :: rest, pre, a, hp, hb => by
  have hl : n.Kids.length ≤ 4000000 := by have := hm.facts; omega
  rw [List.length_cons] at hb
  have hj : ∀ q : Nat, q + rest.length ≤ 8000000 → spec_NodeOk_j33 q pre.length n = some (!isT x && (eqI (ofK 2 rest : Int) 0 && (eqI ((q + ofK 1 rest : Nat) : Int) 1 && (bareB n && kidsB 0 n.Kids)))) := fun q hq => by
   rw [spec_NodeOk_j33, getI_at hp, next_at hp (by rw [maxLen_eq]; omega), docs_loop n hm rest (pre ++ [x]) q (step_at hp) hq]
   simp only [some_bnd]
   show (if isT x = true then _ else _) = _
   cases isT x <;> rfl
  have ht : eqI ((ofK 2 (x :: rest) : Nat) : Int) 0 = (!isT x && eqI (ofK 2 rest : Int) 0) := by
   simp only [ofK, List.countP_cons]
   show eqI ((_ + (if isT x = true then 1 else 0) : Nat) : Int) 0 = _
   cases isT x with
   | false => rfl
   | true => rw [eqI_f (by simp only [if_true]; omega)]; rfl
  rw [spec_NodeOk_l24, more_at hp, getI_at hp, ht]
  simp only [if_true, some_bnd]
  cases hx : eqI x.Kind 1 with
  | true =>
   have e : addI (a : Int) 1 = ((a + 1 : Nat) : Int) := by rw [addI_eq (by omega) (by omega)]; omega
   rw [if_pos rfl, e, hj (a + 1) (by omega)]
   simp only [ofK, List.countP_cons, hx, if_true]
   rw [show a + 1 + List.countP (fun x => eqI x.Kind 1) rest = a + (List.countP (fun x => eqI x.Kind 1) rest + 1) by omega, Bool.and_assoc]
  | false =>
   simp only [Bool.false_eq_true, if_false]
   rw [hj a (by omega)]
   simp only [ofK, List.countP_cons, hx, Bool.false_eq_true, if_false, Nat.add_zero, Bool.and_assoc]
def nodeB (n : GNode) : Bool := (impl_NodeOk n).getD false
theorem node_b (n : GNode) (hm : Sm n) (hw : wz n ≤ 100000000) : spec_NodeOk n = some (nodeB n) ∧ impl_NodeOk n = some (nodeB n) ∧ (nodeB n = true → Fine n ∧ wz n ≤ 60) := by
 have h : ∃ c, spec_NodeOk n = some c ∧ impl_NodeOk n = some c ∧ (c = true → Fine n ∧ wz n ≤ 60) := by
  obtain ⟨h1, h2⟩ := cnt_all n hm hw
  have hl : n.Kids.length ≤ 4000000 := by have := hm.facts; omega
  rw [spec_NodeOk, impl_NodeOk, h1, h2]
  simp only [some_bnd]
  cases hg : gtI (wz n : Int) 60 with
  | true => exact ⟨false, rfl, rfl, fun h => by cases h⟩
  | false =>
   have hw : wz n ≤ 60 := by
    rw [gtI_not, Bool.not_eq_false'] at hg
    have := of_decide_eq_true hg
    omega
   simp only [Bool.false_eq_true, if_false]
   cases neI n.Kind 0 with
   | true =>
    simp only [if_true]
    have h4 := (part_all n hm 0 (by omega)).1
    have h5 := kids_all [n] (by simp) (fun k hk => by rw [List.mem_singleton.1 hk]; exact hm) 0 (by omega)
    have h5' : spec_l5Kids [n] 0 = some (kidsB 0 [n]) := h5
    have h4' : impl_partOk n 0 = some (pB 0 n) := h4
    rw [h4', h5']
    refine ⟨_, rfl, ?_, fun hb => ⟨(part_all n hm 0 (by omega)).2.2 ?_, hw⟩⟩
    rotate_left
    ·rw [kidsB, Bool.and_eq_true] at hb
     exact List.all_eq_true.1 hb.2 n (List.mem_singleton.2 rfl)
    simp only [some_bnd, kidsB, noTwo, List.all_cons, List.all_nil, Bool.false_and, Bool.not_false, Bool.true_and, Bool.and_true]
   | false =>
    simp only [Bool.false_eq_true, if_false]
    have h6 := docs_loop n hm n.Kids [] 0 rfl (by omega)
    have h6' : spec_NodeOk_l24 0 0 n = some (eqI (ofK 2 n.Kids : Int) 0 && (eqI ((0 + ofK 1 n.Kids : Nat) : Int) 1 && (bareB n && kidsB 0 n.Kids))) := h6
    have h7 : impl_kidsOk n 0 = some (kidsB 0 n.Kids) := kidsI_all n hm 0 (by omega)
    rw [h6', Nat.zero_add, bareB, impl_NodeOk_j18, impl_NodeOk_j18, ofKind_all _ _ hl, ofKind_all _ _ hl, h7]
    simp only [some_bnd, Bool.false_eq_true, if_false]
    have hfine : bareB n = true → kidsB 0 n.Kids = true → Fine n := fun hb hk => by
     simp only [bareB, Bool.and_eq_true] at hb
     obtain ⟨_, _, b1, _, _, b2⟩ := hb
     have u0 := eqS_iff.1 b1
     have a0 : n.Attrs = [] := List.eq_nil_of_length_eq_zero (by have := eqI_iff.1 b2; simp only [lenL] at this; omega)
     rw [kidsB, Bool.and_eq_true] at hk
     exact ⟨n, by rw [u0]; decide, by rw [a0]; decide, fun a ha => (by rw [a0] at ha; cases ha), fun k hk2 => (part_all k (hm.kid k hk2) 0 (by omega)).2.2 (List.all_eq_true.1 hk.2 k hk2)⟩
    rw [bareB] at hfine
    revert hfine
    cases eqI (ofK 2 n.Kids : Int) 0 <;> cases eqI (ofK 1 n.Kids : Int) 1 <;> cases eqS n.Pre ⟨#[]⟩ <;> cases eqS n.Local ⟨#[]⟩ <;> cases eqS n.Uri ⟨#[]⟩ <;> cases eqS n.Text ⟨#[]⟩ <;> cases eqI (lenL n.Decls) 0 <;> cases eqI (lenL n.Attrs) 0 <;> intro hfine <;> first | exact ⟨_, rfl, rfl, fun hb => by cases hb⟩ | exact ⟨_, rfl, rfl, fun hb => ⟨hfine rfl hb, hw⟩⟩
 obtain ⟨c, h3, h4, h5⟩ := h
 have e : nodeB n = c := by rw [nodeB, h4]; rfl
 exact ⟨by rw [h3, e], by rw [h4, e], by rw [e]; exact h5⟩
end TT
