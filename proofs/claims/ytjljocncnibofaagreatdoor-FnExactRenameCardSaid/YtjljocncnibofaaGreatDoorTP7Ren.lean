import Derived.Test.YtjljocncnibofaaGreatDoorTP7Node
import Derived.Test.YtjljocncnibofaaGreatDoorTP7Sort
import Derived.Test.YtjljocncnibofaaGreatDoorTP3Copy
import Derived.Test.YtjljocncnibofaaGreatDoorTHX4
set_option linter.unusedVariables false
set_option linter.unusedSimpArgs false
namespace TT
open Go
def prs (l : List GDecl) : List (ByteArray × ByteArray) := l.map fun x => (x.Pre, x.Uri)
theorem spaceL_app (l : List (ByteArray × ByteArray)) (x : ByteArray × ByteArray) (p : ByteArray) : spaceL (l ++ [x]) p = if decide (x.1 = p) then (x.2, true) else spaceL l p := by
 simp only [spaceL, List.reverse_append, List.reverse_cons, List.reverse_nil, List.nil_append, List.cons_append, List.find?_cons]
 cases decide (x.1 = p) <;> rfl
theorem eqS_dec (x y : ByteArray) : eqS x y = decide (x = y) := by
 rw [Bool.eq_iff_iff, eqS_iff, decide_eq_true_iff]
theorem space_loop (l : List GDecl) (p : ByteArray) (hl : l.length ≤ 4000000) : ∀ k, k ≤ l.length → spec_SpaceOf_l6 l p ((k : Int) - 1) = some (spaceL (prs (l.take k)) p)
 | 0, _ => by
  rw [spec_SpaceOf_l6, geI_f (by omega)]
  simp only [Bool.false_eq_true, if_false, List.take_zero, prs, List.map_nil]
  rw [eqS_dec]; rfl
 | k + 1, h => by
  have e : (((k + 1 : Nat) : Int) - 1) = (k : Int) := by omega
  have hx : l[k]? = some (l[k]'(by omega)) := List.getElem?_eq_getElem (by omega)
  have hg : getI l (k : Int) = some (l[k]'(by omega)) := by
   unfold getI
   rw [if_pos (by omega)]
   simp
  have ih := space_loop l p hl k (by omega)
  rw [spec_SpaceOf_l6, e, geI_t (by omega), hg, List.take_add_one, hx, subI_eq (by omega) (by omega), ih]
  simp only [if_true, some_bnd, Option.toList_some, prs, List.map_append, List.map_cons, List.map_nil]
  rw [spaceL_app, eqS_dec]
  cases decide ((l[k]'(by omega)).Pre = p) <;> rfl
theorem space_spec (l : List GDecl) (p : ByteArray) (hl : l.length ≤ 4000000) : spec_SpaceOf l p = some (spaceL (prs l) p) := by
 have e : subI (lenL l) 1 = ((l.length : Int) - 1) := subI_eq (by simp only [lenL]; omega) (by simp only [lenL]; omega)
 rw [spec_SpaceOf, e, space_loop l p hl l.length (Nat.le_refl _), List.take_length]
theorem inner_spec (l m : List GDecl) (hl : l.length + m.length ≤ 4000000) : spec_Inner l m = some (l ++ m) := by
 rw [spec_Inner, room_ok (by omega) (by omega) (by omega), room_ok (by omega) (by omega) (by omega)]
 simp
def reA (all : List GDecl) (x : GAttr) : GAttr := if neS x.Pre ⟨#[]⟩ then ⟨x.Pre, x.Local, (spaceL (prs all) x.Pre).1, x.Val⟩ else x
def okA (all : List GDecl) (x : GAttr) : Bool := if neS x.Pre ⟨#[]⟩ then (spaceL (prs all) x.Pre).2 else true
mutual
def ren (f : List GAttr → List GAttr) : List GDecl → GNode → GNode
 | i, ⟨k, p, o, u, d, a, ks, t⟩ => ⟨k, p, o, if eqI k 1 then (spaceL (prs (i ++ d)) p).1 else u, d, f (a.map (reA (i ++ d))), renL f (i ++ d) ks, t⟩
def renL (f : List GAttr → List GAttr) : List GDecl → List GNode → List GNode
 | _, [] => []
 | i, x :: l => ren f i x :: renL f i l
end
mutual
def renOk : List GDecl → GNode → Bool
 | i, ⟨k, p, _, _, d, a, ks, _⟩ => ((if eqI k 1 then (spaceL (prs (i ++ d)) p).2 else true) && a.all (okA (i ++ d))) && renOkL (i ++ d) ks
def renOkL : List GDecl → List GNode → Bool
 | _, [] => true
 | i, x :: l => renOk i x && renOkL i l
end
theorem renL_eq (f : List GAttr → List GAttr) (i : List GDecl) (l : List GNode) : renL f i l = l.map (ren f i) := by
 induction l with
 | nil => rw [renL]; rfl
 | cons x l ih => rw [renL, ih, List.map_cons]
theorem renOkL_eq (i : List GDecl) (l : List GNode) : renOkL i l = l.all (renOk i) := by
 induction l with
 | nil => rw [renOkL]; rfl
 | cons x l ih => rw [renOkL, ih, List.all_cons]
theorem ren_eq (f : List GAttr → List GAttr) (i : List GDecl) (n : GNode) : ren f i n = ⟨n.Kind, n.Pre, n.Local, if eqI n.Kind 1 then (spaceL (prs (i ++ n.Decls)) n.Pre).1 else n.Uri, n.Decls, f (n.Attrs.map (reA (i ++ n.Decls))), n.Kids.map (ren f (i ++ n.Decls)), n.Text⟩ := by
 cases n; rw [ren, renL_eq]
theorem renOk_eq (i : List GDecl) (n : GNode) : renOk i n = (((if eqI n.Kind 1 then (spaceL (prs (i ++ n.Decls)) n.Pre).2 else true) && n.Attrs.all (okA (i ++ n.Decls))) && n.Kids.all (renOk (i ++ n.Decls))) := by
 cases n; rw [renOk, renOkL_eq]
def srtS (l : List GAttr) : List GAttr := (spec_l8Attrs l).getD l
def srtI (l : List GAttr) : List GAttr := (slices_SortStableFunc_Attr_compareAttrs l).getD l
theorem srtS_ok (l : List GAttr) (hl : l.length ≤ 4000000) : spec_l8Attrs l = some (srtS l) ∧ Pm (srtS l) l := by
 obtain ⟨r, q, h1, h2, h3, h4, _⟩ := sort_all l hl
 have e : srtS l = q := by rw [srtS, h2]; rfl
 exact ⟨by rw [h2, e], by rw [e]; exact h4⟩
theorem srtI_ok (l : List GAttr) (hl : l.length ≤ 4000000) : slices_SortStableFunc_Attr_compareAttrs l = some (srtI l) ∧ Pm (srtI l) l := by
 obtain ⟨r, q, h1, h2, h3, h4, _⟩ := sort_all l hl
 have e : srtI l = r := by rw [srtI, h1]; rfl
 exact ⟨by rw [h1, e], by rw [e]; exact h3⟩
theorem srt_same (l : List GAttr) (hl : l.length ≤ 5) : srtS l = srtI l := by
 obtain ⟨r, q, h1, h2, _, _, h5⟩ := sort_all l (by omega)
 rw [srtS, srtI, h1, h2, h5 hl]
theorem ren_spec : ∀ n : GNode, ∀ i : List GDecl, n.sz ≤ 1048576 → i.length + n.sz ≤ 3000000 → spec_l14Rename n i = some (ren srtS i n, renOk i n) := by
 refine GNode.ind' fun n ih i hs hi => ?_
 have hcopy := copy_spec n hs
 rw [GNode.sz_eq] at hs hi
 obtain ⟨all, hall⟩ : ∃ all, all = i ++ n.Decls := ⟨_, rfl⟩
 have hlen : all.length = i.length + n.Decls.length := by rw [hall, List.length_append]
 have sp : ∀ p, spec_SpaceOf all p = some (spaceL (prs all) p) := fun p => space_spec all p (by omega)
 have kids : ∀ (rest pre : List GNode), pre ++ rest = n.Kids → ∀ (g : Bool) (uri : ByteArray) (r8 : List GAttr), spec_l14Rename_l47 all g pre.length n n uri r8 (pre.map (ren srtS all) ++ rest) = some (⟨n.Kind, n.Pre, n.Local, uri, n.Decls, r8, n.Kids.map (ren srtS all), n.Text⟩, g && rest.all (renOk all)) := by
  intro rest
  induction rest with
  | nil =>
   intro pre hp g uri r8
   rw [spec_l14Rename_l47, end_at hp]
   have : pre = n.Kids := by rw [← hp, List.append_nil]
   rw [this]
   simp
  | cons x rest jh =>
   intro pre hp g uri r8
   have hx : x ∈ n.Kids := by rw [← hp]; simp
   have hz := szs_mem GNode.sz hx
   have e := ih x hx all (by omega) (by omega)
   have hl : ((pre.length : Nat) : Int) = (((pre.map (ren srtS all)).length : Nat) : Int) := by rw [List.length_map]
   have g1 : getI (pre.map (ren srtS all) ++ x :: rest) ((pre.length : Nat) : Int) = some x := by rw [hl]; exact getI_at rfl
   have g2 : (pre.map (ren srtS all) ++ x :: rest).set (Int.toNat ((pre.length : Nat) : Int)) (ren srtS all x) = (pre ++ [x]).map (ren srtS all) ++ rest := by
    rw [hl, set_at, List.map_append]; rfl
   rw [spec_l14Rename_l47, more_at hp, getI_at hp, next_at hp (by rw [maxLen_eq]; omega)]
   simp only [if_true, some_bnd, e, g1, g2]
   cases g with
   | true => rw [if_pos rfl, jh (pre ++ [x]) (step_at hp), List.all_cons, Bool.true_and]
   | false => rw [if_neg (by decide), jh (pre ++ [x]) (step_at hp), Bool.false_and, Bool.false_and]
 have atts : ∀ (rest pre : List GAttr), pre ++ rest = n.Attrs → ∀ (g : Bool) (uri : ByteArray), spec_l14Rename_l22 all g pre.length n n uri (pre.map (reA all) ++ rest) = some (⟨n.Kind, n.Pre, n.Local, uri, n.Decls, srtS (n.Attrs.map (reA all)), n.Kids.map (ren srtS all), n.Text⟩, (g && rest.all (okA all)) && n.Kids.all (renOk all)) := by
  intro rest
  induction rest with
  | nil =>
   intro pre hp g uri
   rw [spec_l14Rename_l22, end_at hp]
   have : pre = n.Attrs := by rw [← hp, List.append_nil]
   rw [this, List.append_nil, (srtS_ok _ (by rw [List.length_map]; omega)).1]
   have hk := kids n.Kids [] rfl g uri (srtS (n.Attrs.map (reA all)))
   simp only [some_bnd, Bool.false_eq_true, if_false, List.all_nil, Bool.and_true]
   exact hk
  | cons x rest jh =>
   intro pre hp g uri
   have hl : ((pre.length : Nat) : Int) = (((pre.map (reA all)).length : Nat) : Int) := by rw [List.length_map]
   have g1 : getI (pre.map (reA all) ++ x :: rest) ((pre.length : Nat) : Int) = some x := by rw [hl]; exact getI_at rfl
   have g2 : ∀ y, (pre.map (reA all) ++ x :: rest).set (Int.toNat ((pre.length : Nat) : Int)) y = (pre.map (reA all) ++ [y]) ++ rest := fun y => by rw [hl, set_at]
   have g3 : (pre ++ [x]).map (reA all) = pre.map (reA all) ++ [reA all x] := by rw [List.map_append]; rfl
   rw [spec_l14Rename_l22, more_at hp, getI_at hp, next_at hp (by rw [maxLen_eq]; omega)]
   simp only [if_true, some_bnd, sp, g1, g2, List.all_cons]
   cases hp2 : neS x.Pre ⟨#[]⟩ with
   | true =>
    have e1 : reA all x = ⟨x.Pre, x.Local, (spaceL (prs all) x.Pre).1, x.Val⟩ := by rw [reA, hp2]; rfl
    have e2 : okA all x = (spaceL (prs all) x.Pre).2 := by rw [okA, hp2]; rfl
    rw [e2, if_pos rfl, ← e1, ← g3]
    cases g with
    | true => rw [if_pos rfl, jh (pre ++ [x]) (step_at hp), Bool.true_and]
    | false => rw [if_neg (by decide), jh (pre ++ [x]) (step_at hp)]; simp only [Bool.false_and]
   | false =>
    have e1 : reA all x = x := by rw [reA, hp2]; rfl
    have e2 : okA all x = true := by rw [okA, hp2]; rfl
    rw [e1] at g3
    have e3 : pre.map (reA all) ++ x :: rest = (pre ++ [x]).map (reA all) ++ rest := by rw [g3, List.append_assoc]; rfl
    rw [e2, if_neg (by decide), e3, jh (pre ++ [x]) (step_at hp), Bool.true_and]
 rw [spec_l14Rename, hcopy, inner_spec i n.Decls (by omega), ren_eq, renOk_eq, ← hall]
 simp only [some_bnd, sp]
 cases hk : eqI n.Kind 1 with
 | true =>
  rw [if_pos rfl, spec_l14Rename_j8]
  exact atts n.Attrs [] rfl _ _
 | false =>
  rw [if_neg (by decide), spec_l14Rename_j8]
  exact atts n.Attrs [] rfl _ _
theorem inner_impl (l m : List GDecl) (hl : l.length + m.length ≤ 4000000) : impl_Inner l m = some (l ++ m) := by
 have e : slices_Concat_Decl [l, m] = some (l ++ m) := by
  rw [slices_Concat_Decl]
  exact if_pos ⟨by omega, by omega⟩
 rw [impl_Inner, e]; rfl
theorem ren_impl : ∀ n : GNode, ∀ i : List GDecl, n.sz ≤ 1048576 → i.length + n.sz ≤ 3000000 → impl_renamed n i = some (ren srtI i n, renOk i n) := by
 refine GNode.ind' fun n ih i hs hi => ?_
 have hcopy := copy_impl n hs
 rw [GNode.sz_eq] at hs hi
 obtain ⟨all, hall⟩ : ∃ all, all = i ++ n.Decls := ⟨_, rfl⟩
 have hlen : all.length = i.length + n.Decls.length := by rw [hall, List.length_append]
 have sp : ∀ p, impl_SpaceOf all p = some (spaceL (prs all) p) := fun p => by rw [impl_SpaceOf, if_pos (by omega), prs]
 have kids : ∀ (rest pre : List GNode), pre ++ rest = n.Kids → ∀ (g : Bool) (uri : ByteArray) (r8 : List GAttr), impl_renamed_l47 all g n pre.length n uri r8 (pre.map (ren srtI all) ++ rest) = some (⟨n.Kind, n.Pre, n.Local, uri, n.Decls, r8, n.Kids.map (ren srtI all), n.Text⟩, g && rest.all (renOk all)) := by
  intro rest
  induction rest with
  | nil =>
   intro pre hp g uri r8
   rw [impl_renamed_l47, end_at hp]
   have : pre = n.Kids := by rw [← hp, List.append_nil]
   rw [this]
   simp
  | cons x rest jh =>
   intro pre hp g uri r8
   have hx : x ∈ n.Kids := by rw [← hp]; simp
   have hz := szs_mem GNode.sz hx
   have e := ih x hx all (by omega) (by omega)
   have hl : ((pre.length : Nat) : Int) = (((pre.map (ren srtI all)).length : Nat) : Int) := by rw [List.length_map]
   have g1 : getI (pre.map (ren srtI all) ++ x :: rest) ((pre.length : Nat) : Int) = some x := by rw [hl]; exact getI_at rfl
   have g2 : (pre.map (ren srtI all) ++ x :: rest).set (Int.toNat ((pre.length : Nat) : Int)) (ren srtI all x) = (pre ++ [x]).map (ren srtI all) ++ rest := by
    rw [hl, set_at, List.map_append]; rfl
   rw [impl_renamed_l47, more_at hp, getI_at hp, next_at hp (by rw [maxLen_eq]; omega)]
   simp only [if_true, some_bnd, e, g1, g2]
   cases g with
   | true => rw [if_pos rfl, jh (pre ++ [x]) (step_at hp), List.all_cons, Bool.true_and]
   | false => rw [if_neg (by decide), jh (pre ++ [x]) (step_at hp), Bool.false_and, Bool.false_and]
 have atts : ∀ (rest pre : List GAttr), pre ++ rest = n.Attrs → ∀ (g : Bool) (uri : ByteArray), impl_renamed_l20 all g n pre.length n uri (pre.map (reA all) ++ rest) = some (⟨n.Kind, n.Pre, n.Local, uri, n.Decls, srtI (n.Attrs.map (reA all)), n.Kids.map (ren srtI all), n.Text⟩, (g && rest.all (okA all)) && n.Kids.all (renOk all)) := by
  intro rest
  induction rest with
  | nil =>
   intro pre hp g uri
   rw [impl_renamed_l20, end_at hp]
   have : pre = n.Attrs := by rw [← hp, List.append_nil]
   rw [this, List.append_nil, (srtI_ok _ (by rw [List.length_map]; omega)).1]
   have hk := kids n.Kids [] rfl g uri (srtI (n.Attrs.map (reA all)))
   simp only [some_bnd, Bool.false_eq_true, if_false, List.all_nil, Bool.and_true]
   exact hk
  | cons x rest jh =>
   intro pre hp g uri
   have hl : ((pre.length : Nat) : Int) = (((pre.map (reA all)).length : Nat) : Int) := by rw [List.length_map]
   have g1 : getI (pre.map (reA all) ++ x :: rest) ((pre.length : Nat) : Int) = some x := by rw [hl]; exact getI_at rfl
   have g2 : ∀ y, (pre.map (reA all) ++ x :: rest).set (Int.toNat ((pre.length : Nat) : Int)) y = (pre.map (reA all) ++ [y]) ++ rest := fun y => by rw [hl, set_at]
   have g3 : (pre ++ [x]).map (reA all) = pre.map (reA all) ++ [reA all x] := by rw [List.map_append]; rfl
   rw [impl_renamed_l20, more_at hp, getI_at hp, next_at hp (by rw [maxLen_eq]; omega)]
   simp only [if_true, some_bnd, sp, g1, g2, List.all_cons]
   cases hp2 : neS x.Pre ⟨#[]⟩ with
   | true =>
    have e1 : reA all x = ⟨x.Pre, x.Local, (spaceL (prs all) x.Pre).1, x.Val⟩ := by rw [reA, hp2]; rfl
    have e2 : okA all x = (spaceL (prs all) x.Pre).2 := by rw [okA, hp2]; rfl
    rw [e2, if_pos rfl, ← e1, ← g3]
    cases g with
    | true => rw [if_pos rfl, jh (pre ++ [x]) (step_at hp), Bool.true_and]
    | false => rw [if_neg (by decide), jh (pre ++ [x]) (step_at hp)]; simp only [Bool.false_and]
   | false =>
    have e1 : reA all x = x := by rw [reA, hp2]; rfl
    have e2 : okA all x = true := by rw [okA, hp2]; rfl
    rw [e1] at g3
    have e3 : pre.map (reA all) ++ x :: rest = (pre ++ [x]).map (reA all) ++ rest := by rw [g3, List.append_assoc]; rfl
    rw [e2, if_neg (by decide), e3, jh (pre ++ [x]) (step_at hp), Bool.true_and]
 rw [impl_renamed, hcopy, inner_impl i n.Decls (by omega), ren_eq, renOk_eq, ← hall]
 simp only [some_bnd, sp]
 cases hk : eqI n.Kind 1 with
 | true =>
  rw [if_pos rfl, impl_renamed_j8]
  exact atts n.Attrs [] rfl _ _
 | false =>
  rw [if_neg (by decide), impl_renamed_j8]
  exact atts n.Attrs [] rfl _ _
end TT
namespace TT
open Go
theorem szs_perm {α : Type} (z : α → Nat) {l m : List α} (h : l.Perm m) : szs z l = szs z m := by
 unfold szs
 exact (h.map z).sum_nat
theorem szs_map_le {α β : Type} (z : α → Nat) (y : β → Nat) (f : β → α) (c : β → Nat) : ∀ l : List β, (∀ x ∈ l, z (f x) ≤ y x + c x) → szs z (l.map f) ≤ szs y l + szs c l
 | [], _ => Nat.le_refl _
 | x :: l, h => by
  have h1 := h x (List.mem_cons_self ..)
  have h2 := szs_map_le z y f c l fun w hw => h w (List.mem_cons_of_mem _ hw)
  rw [List.map_cons, szs_cons, szs_cons, szs_cons]
  omega
theorem szs_mul (k : Nat) {α : Type} (z : α → Nat) (l : List α) : szs (fun x => k * z x) l = k * szs z l := by
 induction l with
 | nil => rfl
 | cons x l ih => rw [szs_cons, szs_cons, ih, Nat.mul_add]
theorem szs_map_eq {α β : Type} (z : α → Nat) (y : β → Nat) (f : β → α) : ∀ l : List β, (∀ x ∈ l, z (f x) = y x) → szs z (l.map f) = szs y l
 | [], _ => rfl
 | x :: l, h => by rw [List.map_cons, szs_cons, szs_cons, h x (List.mem_cons_self ..), szs_map_eq z y f l fun w hw => h w (List.mem_cons_of_mem _ hw)]
theorem wz_le : ∀ n : GNode, wz n ≤ 1 + n.sz := by
 refine GNode.ind' fun n ih => ?_
 have h : ∀ l : List GNode, (∀ k ∈ l, wz k ≤ 1 + k.sz) → szs wz l ≤ l.length + szs GNode.sz l := by
  intro l
  induction l with
  | nil => intro _; exact Nat.le_refl _
  | cons x l jh =>
   intro hl
   have h1 := hl x (List.mem_cons_self ..)
   have h2 := jh fun w hw => hl w (List.mem_cons_of_mem _ hw)
   rw [szs_cons, szs_cons, List.length_cons]
   omega
 have := h n.Kids ih
 rw [wz_eq, GNode.sz_eq]
 omega
theorem space_sz (all : List GDecl) (p : ByteArray) (h : ∀ d ∈ all, d.Uri.size ≤ 1048576) : (spaceL (prs all) p).1.size ≤ 1048576 := by
 unfold spaceL
 cases hf : (prs all).reverse.find? (fun x => decide (x.1 = p)) with
 | none => exact Nat.zero_le _
 | some x =>
  have hm := List.mem_of_find?_eq_some hf
  rw [List.mem_reverse, prs, List.mem_map] at hm
  obtain ⟨d, hd, he⟩ := hm
  show x.2.size ≤ 1048576
  rw [← he]
  exact h d hd
def Srt (f : List GAttr → List GAttr) : Prop := ∀ l : List GAttr, l.length ≤ 4000000 → Pm (f l) l
theorem reA_pre (all : List GDecl) (x : GAttr) : (reA all x).Pre = x.Pre ∧ (reA all x).Local = x.Local ∧ (reA all x).Val = x.Val := by
 rw [reA]
 split <;> exact ⟨rfl, rfl, rfl⟩
theorem reA_uri (all : List GDecl) (x : GAttr) (h : ∀ d ∈ all, d.Uri.size ≤ 1048576) (hx : x.sz ≤ 1048576) : (reA all x).Uri.size ≤ 1048576 := by
 rw [reA]
 split
 ·exact space_sz all _ h
 ·rw [GAttr.sz_eq] at hx; omega
theorem ren_sm (f : List GAttr → List GAttr) (hf : Srt f) : ∀ n : GNode, ∀ i : List GDecl, n.sz ≤ 1048576 → (∀ d ∈ i, d.Uri.size ≤ 1048576) → Sm (ren f i n) ∧ wz (ren f i n) = wz n := by
 refine GNode.ind' fun n ih i hs hi => ?_
 rw [GNode.sz_eq] at hs
 have ha : ∀ d ∈ i ++ n.Decls, d.Uri.size ≤ 1048576 := fun d hd => by
  rcases List.mem_append.1 hd with hd | hd
  ·exact hi d hd
  ·have := szs_mem GDecl.sz hd
   rw [GDecl.sz_eq] at this
   omega
 have hk : ∀ k ∈ n.Kids, Sm (ren f (i ++ n.Decls) k) ∧ wz (ren f (i ++ n.Decls) k) = wz k := fun k hk => ih k hk _ (by have := szs_mem GNode.sz hk; omega) ha
 have hp := hf (n.Attrs.map (reA (i ++ n.Decls))) (by rw [List.length_map]; omega)
 have hl : (f (n.Attrs.map (reA (i ++ n.Decls)))).length = n.Attrs.length := by rw [hp.1, List.length_map]
 rw [ren_eq]
 refine ⟨Sm.mk _ ?_ ?_ ?_ ?_ ?_ ?_ ?_ ?_ ?_ ?_, ?_⟩
 ·show n.Pre.size ≤ 4000000; omega
 ·show n.Local.size ≤ 4000000; omega
 ·show (if eqI n.Kind 1 then (spaceL (prs (i ++ n.Decls)) n.Pre).1 else n.Uri).size ≤ 4000000
  split
  ·exact Nat.le_trans (space_sz _ _ ha) (by decide)
  ·omega
 ·show n.Text.size ≤ 4000000; omega
 ·show n.Decls.length ≤ 1200000; omega
 ·intro d hd
  have := szs_mem GDecl.sz (show d ∈ n.Decls from hd)
  omega
 ·show (f (n.Attrs.map (reA (i ++ n.Decls)))).length ≤ 1200000; omega
 ·intro a hd
  obtain ⟨x, hx, rfl⟩ := List.mem_map.1 (hp.2.subset (show a ∈ f (n.Attrs.map (reA (i ++ n.Decls))) from hd))
  have hz := szs_mem GAttr.sz hx
  obtain ⟨e1, e2, e3⟩ := reA_pre (i ++ n.Decls) x
  have e4 := reA_uri (i ++ n.Decls) x ha (by omega)
  rw [GAttr.sz_eq] at hz
  rw [GAttr.sz_eq, e1, e2, e3]
  omega
 ·show (n.Kids.map (ren f (i ++ n.Decls))).length ≤ 1200000
  rw [List.length_map]; omega
 ·intro k hd
  obtain ⟨x, hx, rfl⟩ := List.mem_map.1 (show k ∈ n.Kids.map (ren f (i ++ n.Decls)) from hd)
  exact (hk x hx).1
 ·rw [wz_eq n, wz_eq]
  show 1 + (f (n.Attrs.map (reA (i ++ n.Decls)))).length + szs wz (n.Kids.map (ren f (i ++ n.Decls))) = _
  rw [hl, szs_map_eq wz wz _ n.Kids fun x hx => (hk x hx).2]
theorem Fine.facts {n : GNode} (h : Fine n) : n.Uri.size ≤ 40 ∧ n.Attrs.length ≤ 5 ∧ (∀ a ∈ n.Attrs, a.Uri.size ≤ 40) ∧ ∀ k ∈ n.Kids, Fine k := by
 cases h with
 | mk _ h1 h2 h3 h4 => exact ⟨h1, h2, h3, h4⟩
theorem fine_sz (f : List GAttr → List GAttr) (hf : Srt f) : ∀ n : GNode, ∀ i : List GDecl, n.sz ≤ 1048576 → Fine (ren f i n) → (ren f i n).sz ≤ n.sz + 40 * wz n := by
 refine GNode.ind' fun n ih i hs hfi => ?_
 rw [ren_eq] at hfi ⊢
 obtain ⟨h1, h2, h3, h4⟩ := hfi.facts
 rw [GNode.sz_eq, GNode.sz_eq n, wz_eq]
 rw [GNode.sz_eq] at hs
 have hp := hf (n.Attrs.map (reA (i ++ n.Decls))) (by rw [List.length_map]; omega)
 have ea : szs GAttr.sz (f (n.Attrs.map (reA (i ++ n.Decls)))) ≤ szs GAttr.sz n.Attrs + 40 * n.Attrs.length := by
  rw [szs_perm GAttr.sz hp.2]
  have := szs_map_le GAttr.sz GAttr.sz (reA (i ++ n.Decls)) (fun _ => 40) n.Attrs fun x hx => by
   obtain ⟨e1, e2, e3⟩ := reA_pre (i ++ n.Decls) x
   have e4 : (reA (i ++ n.Decls) x).Uri.size ≤ 40 := h3 _ (hp.2.symm.subset (List.mem_map.2 ⟨x, hx, rfl⟩))
   rw [GAttr.sz_eq, GAttr.sz_eq, e1, e2, e3]
   omega
  rw [szs_const] at this
  exact this
 have ek : szs GNode.sz (n.Kids.map (ren f (i ++ n.Decls))) ≤ szs GNode.sz n.Kids + 40 * szs wz n.Kids := by
  have := szs_map_le GNode.sz GNode.sz (ren f (i ++ n.Decls)) (fun x => 40 * wz x) n.Kids fun x hx => ih x hx _ (by have := szs_mem GNode.sz hx; omega) (h4 _ (List.mem_map.2 ⟨x, hx, rfl⟩))
  rw [szs_mul] at this
  exact this
 have el : (f (n.Attrs.map (reA (i ++ n.Decls)))).length = n.Attrs.length := by rw [hp.1, List.length_map]
 simp only [List.length_map, el]
 have h1' : (if eqI n.Kind 1 then (spaceL (prs (i ++ n.Decls)) n.Pre).1 else n.Uri).size ≤ 40 := h1
 omega
theorem ren_same (f g : List GAttr → List GAttr) (hf : Srt f) (hfg : ∀ l : List GAttr, l.length ≤ 5 → f l = g l) : ∀ n : GNode, ∀ i : List GDecl, n.sz ≤ 1048576 → Fine (ren f i n) → ren f i n = ren g i n := by
 refine GNode.ind' fun n ih i hs hfi => ?_
 rw [ren_eq] at hfi
 obtain ⟨h1, h2, h3, h4⟩ := hfi.facts
 rw [GNode.sz_eq] at hs
 have hp := hf (n.Attrs.map (reA (i ++ n.Decls))) (by rw [List.length_map]; omega)
 have ea := hfg (n.Attrs.map (reA (i ++ n.Decls))) (by rw [← hp.1]; exact h2)
 have ek : n.Kids.map (ren f (i ++ n.Decls)) = n.Kids.map (ren g (i ++ n.Decls)) :=
  List.map_congr_left fun x hx => ih x hx _ (by have := szs_mem GNode.sz hx; omega) (h4 _ (List.mem_map.2 ⟨x, hx, rfl⟩))
 rw [ren_eq, ren_eq g, ea, ek]
theorem same_Rename (n : GNode) (l : List GDecl) (hs : n.sz + (l.length + szs GDecl.sz l) ≤ 1048576) : ∃ r : GNode × Bool, spec_Rename n l = some r ∧ impl_Rename n l = some r ∧ r.1.sz ≤ 1200000 := by
 have hn : n.sz ≤ 1048576 := by omega
 have hl : ∀ d ∈ l, d.Uri.size ≤ 1048576 := fun d hd => by
  have := szs_mem GDecl.sz hd
  rw [GDecl.sz_eq] at this
  omega
 have fS : Srt srtS := fun l hl => (srtS_ok l hl).2
 have fI : Srt srtI := fun l hl => (srtI_ok l hl).2
 have e1 := ren_spec n l hn (by omega)
 have e2 := ren_impl n l hn (by omega)
 have c1 := copy_spec n hn
 have c2 := copy_impl n hn
 have hw := wz_le n
 obtain ⟨s1, w1⟩ := ren_sm srtS fS n l hn hl
 obtain ⟨s2, w2⟩ := ren_sm srtI fI n l hn hl
 obtain ⟨a1, _, a3⟩ := node_b (ren srtS l n) s1 (by omega)
 obtain ⟨_, b2, b3⟩ := node_b (ren srtI l n) s2 (by omega)
 have copied : (∃ r : GNode × Bool, some (n, false) = some r ∧ some (n, false) = some r ∧ r.1.sz ≤ 1200000) := ⟨(n, false), rfl, rfl, by show n.sz ≤ 1200000; omega⟩
 rw [spec_Rename, impl_Rename, e1, e2]
 simp only [some_bnd]
 cases renOk l n with
 | false =>
  simp only [Bool.false_eq_true, if_false, c1, c2, some_bnd, Bool.not_false, if_true]
  exact copied
 | true =>
  simp only [if_true, a1, b2, some_bnd, Bool.not_true, Bool.false_eq_true, if_false, c1, c2]
  cases hX : nodeB (ren srtS l n) with
  | true =>
   obtain ⟨f1, f2⟩ := a3 hX
   have he := ren_same srtS srtI fS srt_same n l hn f1
   have hz := fine_sz srtS fS n l hn f1
   rw [← he, hX]
   refine ⟨(ren srtS l n, true), rfl, rfl, ?_⟩
   show (ren srtS l n).sz ≤ 1200000
   omega
  | false =>
   cases hY : nodeB (ren srtI l n) with
   | true =>
    obtain ⟨f1, f2⟩ := b3 hY
    have he := ren_same srtI srtS fI (fun l hl => (srt_same l hl).symm) n l hn f1
    rw [he, hX] at hY
    cases hY
   | false => exact copied
end TT
