import Derived.Test.YtdpdfjkjlkmjaaaTP1
set_option linter.unusedVariables false
set_option linter.unusedSimpArgs false
namespace TT
open Go
mutual
def nz : GNode → Nat
 | ⟨_, _, _, _, _, _, kids, _⟩ => 1 + nzL kids
def nzL : List GNode → Nat
 | [] => 0
 | x :: l => nz x + nzL l
end
theorem nz_eq (n : GNode) : nz n = 1 + nzL n.Kids := by cases n; rfl
theorem nzL_append : ∀ a b : List GNode, nzL (a ++ b) = nzL a + nzL b
 | [], b => by rw [List.nil_append]; show _ = 0 + _; omega
 | x :: a, b => by rw [List.cons_append, nzL, nzL, nzL_append a b]; omega
theorem nzL_reverse : ∀ a : List GNode, nzL a.reverse = nzL a
 | [] => rfl
 | x :: a => by rw [List.reverse_cons, nzL_append, nzL_reverse a]; show nzL a + (nz x + 0) = nz x + nzL a; omega
def rvK (n : GNode) : List GNode := n.Kids.reverse
theorem nz_rv (n : GNode) : nz n = 1 + nzL (rvK n) := by rw [nz_eq, rvK, nzL_reverse]
theorem nzL_cons (x : GNode) (l : List GNode) : nzL (x :: l) = nz x + nzL l := rfl
section
variable (c : GNode → GNode → Nat)
def Ed (F G : List GNode) : Nat := match F, G with
 | [], G => nzL G
 | F, [] => nzL F
 | v :: F, w :: G => min (Ed (rvK v ++ F) (w :: G) + 1) (min (Ed (v :: F) (rvK w ++ G) + 1) (Ed F G + (Ed (rvK v) (rvK w) + c v w)))
termination_by nzL F + nzL G
decreasing_by
 ·simp only [nzL_append, nzL_cons, nz_rv v]; omega
 ·simp only [nzL_append, nzL_cons, nz_rv w]; omega
 ·simp only [nzL_cons, nz_rv v]; omega
 ·simp only [nzL_cons, nz_rv v, nz_rv w]; omega
theorem Ed_nil (G : List GNode) : Ed c [] G = nzL G := by rw [Ed]
theorem Ed_nil' (F : List GNode) : Ed c F [] = nzL F := by
 cases F with
 | nil => rw [Ed]
 | cons v F => rw [Ed]; intro h; cases h
theorem Ed_cons (v w : GNode) (F G : List GNode) : Ed c (v :: F) (w :: G) = min (Ed c (rvK v ++ F) (w :: G) + 1) (min (Ed c (v :: F) (rvK w ++ G) + 1) (Ed c F G + (Ed c (rvK v) (rvK w) + c v w))) := by rw [Ed]
theorem Ed_del (v : GNode) (F G : List GNode) : Ed c (v :: F) G ≤ Ed c (rvK v ++ F) G + 1 := by
 cases G with
 | nil => rw [Ed_nil', Ed_nil', nzL_append, nzL_cons, nz_rv]; omega
 | cons w G => rw [Ed_cons]; omega
theorem Ed_ins (w : GNode) (F G : List GNode) : Ed c F (w :: G) ≤ Ed c F (rvK w ++ G) + 1 := by
 cases F with
 | nil => rw [Ed_nil, Ed_nil, nzL_append, nzL_cons, nz_rv]; omega
 | cons v F => rw [Ed_cons]; omega
theorem Ed_mat (v w : GNode) (F G : List GNode) : Ed c (v :: F) (w :: G) ≤ Ed c F G + (Ed c (rvK v) (rvK w) + c v w) := by rw [Ed_cons]; omega
theorem Ed_dels : ∀ (m : Nat) (F2 F G : List GNode), nzL F2 ≤ m → Ed c (F2 ++ F) G ≤ nzL F2 + Ed c F G := by
 intro m
 induction m with
 | zero =>
  intro F2 F G h
  cases F2 with
  | nil => rw [List.nil_append]; show _ ≤ 0 + _; omega
  | cons v F2 => rw [nzL_cons, nz_rv] at h; omega
 | succ m ih =>
  intro F2 F G h
  cases F2 with
  | nil => rw [List.nil_append]; show _ ≤ 0 + _; omega
  | cons v F2 =>
   rw [nzL_cons, nz_rv] at h ⊢
   have h1 := Ed_del c v (F2 ++ F) G
   have h2 := ih (rvK v ++ F2) F G (by rw [nzL_append]; omega)
   rw [nzL_append, List.append_assoc] at h2
   rw [List.cons_append]; omega
theorem Ed_inss : ∀ (m : Nat) (G2 F G : List GNode), nzL G2 ≤ m → Ed c F (G2 ++ G) ≤ nzL G2 + Ed c F G := by
 intro m
 induction m with
 | zero =>
  intro F2 F G h
  cases F2 with
  | nil => rw [List.nil_append]; show _ ≤ 0 + _; omega
  | cons v F2 => rw [nzL_cons, nz_rv] at h; omega
 | succ m ih =>
  intro G2 F G h
  cases G2 with
  | nil => rw [List.nil_append]; show _ ≤ 0 + _; omega
  | cons v G2 =>
   rw [nzL_cons, nz_rv] at h ⊢
   have h1 := Ed_ins c v F (G2 ++ G)
   have h2 := ih (rvK v ++ G2) F G (by rw [nzL_append]; omega)
   rw [nzL_append, List.append_assoc] at h2
   rw [List.cons_append]; omega
theorem Ed_sub : ∀ (m : Nat) (F2 G2 F G : List GNode), nzL F2 + nzL G2 ≤ m → Ed c (F2 ++ F) (G2 ++ G) ≤ Ed c F2 G2 + Ed c F G := by
 intro m
 induction m with
 | zero =>
  intro F2 G2 F G h
  have h1 := Ed_dels c (nzL F2) F2 F (G2 ++ G) (Nat.le_refl _)
  have h2 := Ed_inss c (nzL G2) G2 F G (Nat.le_refl _)
  omega
 | succ m ih =>
  intro F2 G2 F G h
  cases F2 with
  | nil =>
   rw [Ed_nil, List.nil_append]
   exact Ed_inss c _ G2 F G (Nat.le_refl _)
  | cons v F2 =>
   cases G2 with
   | nil =>
    rw [Ed_nil', List.nil_append]
    exact Ed_dels c _ (v :: F2) F G (Nat.le_refl _)
   | cons w G2 =>
    rw [nzL_cons, nzL_cons, nz_rv v, nz_rv w] at h
    have h1 := ih (rvK v ++ F2) (w :: G2) F G (by rw [nzL_append, nzL_cons, nz_rv w]; omega)
    have h2 := ih (v :: F2) (rvK w ++ G2) F G (by rw [nzL_append, nzL_cons, nz_rv v]; omega)
    have h3 := ih F2 G2 F G (by omega)
    rw [List.append_assoc, List.cons_append] at h1
    rw [List.append_assoc, List.cons_append] at h2
    have d := Ed_del c v (F2 ++ F) (w :: (G2 ++ G))
    have i := Ed_ins c w (v :: (F2 ++ F)) (G2 ++ G)
    have t := Ed_mat c v w (F2 ++ F) (G2 ++ G)
    rw [List.cons_append, List.cons_append, Ed_cons c v w F2 G2]
    omega
theorem Ed_tree (v w : GNode) (F G : List GNode) : Ed c (v :: F) (w :: G) = min (Ed c (rvK v ++ F) (w :: G) + 1) (min (Ed c (v :: F) (rvK w ++ G) + 1) (Ed c F G + Ed c [v] [w])) := by
 have h1 := Ed_sub c _ [v] [w] F G (Nat.le_refl _)
 have h2 := Ed_mat c v w [] []
 have h3 := Ed_cons c v w F G
 have e : Ed c [] [] = 0 := Ed_nil c []
 simp only [List.cons_append, List.nil_append] at h1
 omega
theorem Ed_size (F G : List GNode) : nzL F ≤ nzL G + Ed c F G ∧ nzL G ≤ nzL F + Ed c F G := by
 have key : ∀ (m : Nat) (F G : List GNode), nzL F + nzL G ≤ m → nzL F ≤ nzL G + Ed c F G ∧ nzL G ≤ nzL F + Ed c F G := by
  intro m
  induction m with
  | zero => intro F G h; omega
  | succ m ih =>
   intro F G h
   cases F with
   | nil => rw [Ed_nil]; have : nzL [] = 0 := rfl; omega
   | cons v F =>
    cases G with
    | nil => rw [Ed_nil']; have : nzL [] = 0 := rfl; omega
    | cons w G =>
     rw [nzL_cons, nzL_cons, nz_rv v, nz_rv w] at h ⊢
     have h1 := ih (rvK v ++ F) (w :: G) (by rw [nzL_append, nzL_cons, nz_rv w]; omega)
     have h2 := ih (v :: F) (rvK w ++ G) (by rw [nzL_append, nzL_cons, nz_rv v]; omega)
     have h3 := ih F G (by omega)
     have h4 := ih (rvK v) (rvK w) (by omega)
     rw [nzL_append, nzL_cons, nz_rv w] at h1
     rw [nzL_append, nzL_cons, nz_rv v] at h2
     rw [Ed_cons]
     omega
 exact key _ F G (Nat.le_refl _)
theorem Ed_le (F G : List GNode) : Ed c F G ≤ nzL F + nzL G := by
 have h1 := Ed_dels c _ F [] G (Nat.le_refl _)
 rw [List.append_nil, Ed_nil] at h1
 exact h1
theorem Ed_self (hr : ∀ v, c v v = 0) (F : List GNode) : Ed c F F = 0 := by
 have key : ∀ (m : Nat) (F : List GNode), nzL F ≤ m → Ed c F F = 0 := by
  intro m
  induction m with
  | zero =>
   intro F h
   cases F with
   | nil => rw [Ed_nil]; rfl
   | cons v F => rw [nzL_cons, nz_rv] at h; omega
  | succ m ih =>
   intro F h
   cases F with
   | nil => rw [Ed_nil]; rfl
   | cons v F =>
    rw [nzL_cons, nz_rv] at h
    have h1 := Ed_mat c v v F F
    have h2 := ih F (by omega)
    have h3 := ih (rvK v) (by omega)
    have h4 := hr v
    omega
 exact key _ F (Nat.le_refl _)
theorem Ed_tri (ht : ∀ v w u, c v u ≤ c v w + c w u) (hc : ∀ v w, c v w ≤ 1) (F G H : List GNode) : Ed c F H ≤ Ed c F G + Ed c G H := by
 have key : ∀ (m : Nat) (F G H : List GNode), nzL F + nzL G + nzL H ≤ m → Ed c F H ≤ Ed c F G + Ed c G H := by
  intro m
  induction m with
  | zero =>
   intro F G H h
   have h1 := (Ed_size c F H).1
   have := Ed_le c F H
   omega
  | succ m ih =>
   intro F G H h
   cases F with
   | nil =>
    rw [Ed_nil, Ed_nil]
    have := (Ed_size c G H).2
    omega
   | cons v F =>
    cases H with
    | nil =>
     rw [Ed_nil', Ed_nil']
     have := (Ed_size c (v :: F) G).1
     omega
    | cons u H =>
     cases G with
     | nil =>
      rw [Ed_nil, Ed_nil']
      exact Ed_le c _ _
     | cons w G =>
      rw [nzL_cons, nzL_cons, nzL_cons, nz_rv v, nz_rv w, nz_rv u] at h
      have d1 := Ed_del c v F (u :: H)
      have i1 := Ed_ins c u (v :: F) H
      have t1 := Ed_mat c v u F H
      have a1 := ih (rvK v ++ F) (w :: G) (u :: H) (by simp only [nzL_append, nzL_cons, nz_rv w, nz_rv u]; omega)
      have b2 := ih (v :: F) (w :: G) (rvK u ++ H) (by simp only [nzL_append, nzL_cons, nz_rv v, nz_rv w]; omega)
      have a2b1 := ih (v :: F) (rvK w ++ G) (u :: H) (by simp only [nzL_append, nzL_cons, nz_rv v, nz_rv u]; omega)
      have a2b3 := ih (v :: F) (rvK w ++ G) (rvK u ++ H) (by simp only [nzL_append, nzL_cons, nz_rv v]; omega)
      have a3b1 := ih (rvK v ++ F) (rvK w ++ G) (u :: H) (by simp only [nzL_append, nzL_cons, nz_rv u]; omega)
      have a3b3 := ih F G H (by omega)
      have k3b3 := ih (rvK v) (rvK w) (rvK u) (by omega)
      have s1 := Ed_sub c _ (rvK w) (rvK u) G H (Nat.le_refl _)
      have s2 := Ed_sub c _ (rvK v) (rvK w) F G (Nat.le_refl _)
      have c1 := ht v w u
      rw [Ed_cons c v w F G, Ed_cons c w u G H]
      rw [Ed_cons c w u G H] at a1
      rw [Ed_cons c v w F G] at b2
      omega
 exact key _ F G H (Nat.le_refl _)
end
end TT
namespace TT
open Go
mutual
def po : GNode → List GNode
 | ⟨k, p, l, u, d, a, kids, t⟩ => poL kids ++ [⟨k, p, l, u, d, a, kids, t⟩]
def poL : List GNode → List GNode
 | [] => []
 | x :: l => po x ++ poL l
end
theorem po_eq (n : GNode) : po n = poL n.Kids ++ [n] := by cases n; rfl
theorem poL_append : ∀ a b : List GNode, poL (a ++ b) = poL a ++ poL b
 | [], b => rfl
 | x :: a, b => by rw [List.cons_append, poL, poL, poL_append a b, List.append_assoc]
theorem poL_len' : ∀ l : List GNode, (∀ x ∈ l, (po x).length = nz x) → (poL l).length = nzL l
 | [], _ => rfl
 | x :: l, h => by rw [poL, nzL, List.length_append, h x (by simp), poL_len' l fun y hy => h y (by simp [hy])]
theorem po_len : ∀ n : GNode, (po n).length = nz n := by
 refine GNode.ind' fun a ih => ?_
 rw [po_eq, nz_eq, List.length_append, poL_len' _ ih]
 show _ + 1 = _
 omega
theorem poL_len (l : List GNode) : (poL l).length = nzL l := poL_len' l fun x _ => po_len x
def rpo (F : List GNode) : List GNode := poL F.reverse
theorem rpo_len (F : List GNode) : (rpo F).length = nzL F := by rw [rpo, poL_len, nzL_reverse]
theorem rpo_top (v : GNode) (F : List GNode) : rpo (v :: F) = rpo F ++ po v := by
 rw [rpo, List.reverse_cons, poL_append, rpo]
 show _ ++ (po v ++ []) = _
 rw [List.append_nil]
theorem rpo_one (v : GNode) : rpo [v] = po v := by rw [rpo_top]; rfl
theorem rpo_cons (v : GNode) (F : List GNode) : rpo (v :: F) = rpo (rvK v ++ F) ++ [v] := by
 rw [rpo_top, po_eq, rpo, rpo, List.reverse_append, rvK, List.reverse_reverse, poL_append, List.append_assoc]
def del : List GNode → List GNode
 | [] => []
 | v :: F => rvK v ++ F
def dels : Nat → List GNode → List GNode
 | 0, F => F
 | k + 1, F => dels k (del F)
theorem nzL_del (F : List GNode) : nzL (del F) = nzL F - 1 := by
 cases F with
 | nil => rfl
 | cons v F => rw [del, nzL_append, nzL_cons, nz_rv]; omega
theorem nzL_dels : ∀ (k : Nat) (F : List GNode), nzL (dels k F) = nzL F - k
 | 0, F => rfl
 | k + 1, F => by rw [dels, nzL_dels k, nzL_del]; omega
theorem dels_add : ∀ (a b : Nat) (F : List GNode), dels (a + b) F = dels b (dels a F)
 | 0, b, F => by rw [Nat.zero_add]; rfl
 | a + 1, b, F => by rw [show a + 1 + b = (a + b) + 1 by omega, dels, dels, dels_add a b]
theorem dels_all : ∀ (m : Nat) (A F : List GNode), nzL A = m → dels m (A ++ F) = F := by
 intro m
 induction m with
 | zero =>
  intro A F h
  cases A with
  | nil => rfl
  | cons v A => rw [nzL_cons, nz_rv] at h; omega
 | succ m ih =>
  intro A F h
  cases A with
  | nil => cases h
  | cons v A =>
   rw [nzL_cons, nz_rv] at h
   show dels m (rvK v ++ (A ++ F)) = F
   rw [← List.append_assoc]
   exact ih _ F (by rw [nzL_append]; omega)
theorem rpo_dels : ∀ (k : Nat) (F : List GNode), rpo (dels k F) = (rpo F).take (nzL F - k) := by
 intro k
 induction k with
 | zero => intro F; rw [dels, List.take_of_length_le (by rw [rpo_len]; omega)]
 | succ k ih =>
  intro F
  rw [dels, ih, nzL_del]
  cases F with
  | nil => rw [show nzL [] - 1 - k = nzL [] - (k + 1) by omega]; rfl
  | cons v F =>
   rw [rpo_cons v F, del, List.take_append_of_le_length (by rw [rpo_len, nzL_append, nzL_cons, nz_rv]; omega), show nzL (v :: F) - 1 - k = nzL (v :: F) - (k + 1) by omega]
def pf (F : List GNode) (p : Nat) : List GNode := dels (nzL F - p) F
theorem nzL_pf {F : List GNode} {p : Nat} (h : p ≤ nzL F) : nzL (pf F p) = p := by rw [pf, nzL_dels]; omega
theorem nzL_zero {F : List GNode} (h : nzL F = 0) : F = [] := by
 cases F with
 | nil => rfl
 | cons v F => rw [nzL_cons, nz_rv] at h; omega
theorem pf_zero (F : List GNode) : pf F 0 = [] := nzL_zero (nzL_pf (by omega))
theorem pf_cons {F : List GNode} {p : Nat} (h0 : 0 < p) (h : p ≤ nzL F) : ∃ v F', pf F p = v :: F' ∧ (rpo F)[p - 1]? = some v ∧ pf F (p - 1) = rvK v ++ F' ∧ nz v ≤ p ∧ pf F (p - nz v) = F' ∧ nzL F' = p - nz v := by
 have hz := nzL_pf h
 match hm : pf F p with
 | [] => rw [hm] at hz; have : (0 : Nat) = p := hz; omega
 | v :: F' =>
  rw [hm, nzL_cons] at hz
  have h1 : rpo (pf F p) = (rpo F).take p := by rw [pf, rpo_dels, show nzL F - (nzL F - p) = p by omega]
  rw [hm, rpo_cons] at h1
  have hl : (rpo (rvK v ++ F')).length = p - 1 := by rw [rpo_len, nzL_append]; have := nz_rv v; omega
  refine ⟨v, F', rfl, ?_, ?_, by omega, ?_, by omega⟩
  ·have h2 : ((rpo F).take p)[p - 1]? = some v := by rw [← h1, List.getElem?_append_right (by omega), hl, Nat.sub_self]; rfl
   rwa [List.getElem?_take_of_lt (by omega)] at h2
  ·rw [pf, show nzL F - (p - 1) = (nzL F - p) + 1 by omega, dels_add]
   show del (pf F p) = _
   rw [hm]; rfl
  ·rw [pf, show nzL F - (p - nz v) = (nzL F - p) + nz v by omega, dels_add]
   show dels (nz v) (pf F p) = _
   rw [hm]
   exact dels_all _ [v] F' (by rw [nzL_cons]; show _ + 0 = _; omega)
theorem nzL_one (v : GNode) : nzL [v] = nz v := by rw [nzL_cons]; show _ + 0 = _; omega
theorem nz_pos (v : GNode) : 0 < nz v := by rw [nz_eq]; omega
theorem po_sub {T v : GNode} {i : Nat} (h : (po T)[i]? = some v) : nz v ≤ i + 1 ∧ ∀ k < nz v, (po T)[i + 1 - nz v + k]? = (po v)[k]? := by
 have hi : i < nz T := by rw [← po_len]; exact (List.getElem?_eq_some_iff.1 h).1
 have hz : nzL [T] = nz T := nzL_one T
 obtain ⟨w, F', e1, e2, e3, e4, e5, e6⟩ := pf_cons (F := [T]) (p := i + 1) (by omega) (by omega)
 rw [rpo_one, Nat.add_sub_cancel, h] at e2
 have e2 := Option.some.inj e2
 subst e2
 refine ⟨e4, fun k hk => ?_⟩
 have h1 : rpo (pf [T] (i + 1)) = (po T).take (i + 1) := by rw [pf, rpo_dels, show nzL [T] - (nzL [T] - (i + 1)) = i + 1 by omega, rpo_one]
 rw [e1, rpo_top] at h1
 have h2 : ((po T).take (i + 1))[i + 1 - nz v + k]? = (po v)[k]? := by
  rw [← h1, List.getElem?_append_right (by rw [rpo_len]; omega), rpo_len, e6]
  congr 1; omega
 rwa [List.getElem?_take_of_lt (by omega)] at h2
theorem po_get {T : GNode} {i : Nat} (h : i < nz T) : ∃ v, (po T)[i]? = some v := ⟨_, List.getElem?_eq_getElem (by rw [po_len]; exact h)⟩
def fo (T : GNode) (i : Nat) : Nat := match (po T)[i]? with
 | some v => i + 1 - nz v
 | none => 0
theorem fo_eq {T v : GNode} {i : Nat} (h : (po T)[i]? = some v) : fo T i = i + 1 - nz v := by rw [fo, h]
theorem fo_le {T : GNode} {i : Nat} (h : i < nz T) : fo T i ≤ i := by
 obtain ⟨v, hv⟩ := po_get h
 rw [fo_eq hv]; have := nz_pos v; omega
theorem fo_in {T : GNode} {i k : Nat} (h : i < nz T) (h1 : fo T i ≤ k) (h2 : k ≤ i) : fo T i ≤ fo T k := by
 obtain ⟨v, hv⟩ := po_get h
 have hz := po_sub hv
 rw [fo_eq hv] at h1 ⊢
 obtain ⟨w, hw⟩ := po_get (T := v) (i := k - (i + 1 - nz v)) (by omega)
 have h3 := hz.2 (k - (i + 1 - nz v)) (by omega)
 rw [show i + 1 - nz v + (k - (i + 1 - nz v)) = k by omega, hw] at h3
 rw [fo_eq h3]
 have := (po_sub hw).1
 omega
theorem fo_lam {T : GNode} {i k j : Nat} (hi : i < nz T) (hj : j < nz T) (h1 : fo T i ≤ k) (h2 : k ≤ i) (h3 : fo T j = fo T k) (h4 : k ≤ j) (h5 : fo T k ≠ fo T i) : j < i := by
 have a := fo_in hi h1 h2
 have b := fo_le (T := T) (i := k) (by omega)
 rcases Nat.lt_trichotomy j i with h | h | h
 ·exact h
 ·subst h; omega
 ·have c := fo_in hj (k := i) (by omega) (by omega); omega
end TT
