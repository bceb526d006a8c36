import Derived.Test.YtdpdfjkjlkmjaaaTP4Forest
import Derived.Test.YtdpdfjkjlkmjaaaTP3Merge
set_option linter.unusedVariables false
set_option linter.unusedSimpArgs false
namespace TT
open Go
open Classical in
noncomputable def ge (v w : GNode) : Nat := if lone v = lone w then 0 else 1
theorem gc_ge {v w : GNode} (hv : v.sz ≤ 1048576) (hw : w.sz ≤ 1048576) : gc v w = ge v w := by
 have h1 := lone_sz v
 have h2 := lone_sz w
 rw [gc, ge]
 by_cases e : lone v = lone w
 ·rw [if_pos e, e, snB_self _ (by omega), if_pos rfl]
 ·rw [if_neg e, if_neg fun h => e (snB_eq (by omega) (by omega) h)]
theorem rv_mem {v x : GNode} {n : Nat} (hv : v.sz ≤ n) (h : x ∈ rvK v) : x.sz ≤ n := by
 rw [rvK, List.mem_reverse] at h
 have := kid_sz h; omega
theorem Ed_congr {c c' : GNode → GNode → Nat} {n : Nat} (hc : ∀ v w, v.sz ≤ n → w.sz ≤ n → c v w = c' v w) : ∀ (m : Nat) (F G : List GNode), nzL F + nzL G ≤ m → (∀ v ∈ F, v.sz ≤ n) → (∀ w ∈ G, w.sz ≤ n) → Ed c F G = Ed c' F G := by
 intro m
 induction m with
 | zero =>
  intro F G h hF hG
  rw [nzL_zero (F := F) (by omega), Ed_nil, Ed_nil]
 | succ m ih =>
  intro F G h hF hG
  match F, G with
  | [], G => rw [Ed_nil, Ed_nil]
  | v :: F, [] => rw [Ed_nil', Ed_nil']
  | v :: F, w :: G =>
   rw [nzL_cons, nzL_cons] at h
   have zv := nz_rv v
   have zw := nz_rv w
   have hv := hF v (by simp)
   have hw := hG w (by simp)
   have hF' : ∀ x ∈ F, x.sz ≤ n := fun x hx => hF x (by simp [hx])
   have hG' : ∀ x ∈ G, x.sz ≤ n := fun x hx => hG x (by simp [hx])
   have a1 : ∀ x ∈ rvK v ++ F, x.sz ≤ n := by
    intro x hx
    rcases List.mem_append.1 hx with hx | hx
    ·exact rv_mem hv hx
    ·exact hF' x hx
   have a2 : ∀ x ∈ rvK w ++ G, x.sz ≤ n := by
    intro x hx
    rcases List.mem_append.1 hx with hx | hx
    ·exact rv_mem hw hx
    ·exact hG' x hx
   rw [Ed_cons, Ed_cons, ih (rvK v ++ F) (w :: G) (by rw [nzL_append, nzL_cons]; omega) a1 hG, ih (v :: F) (rvK w ++ G) (by rw [nzL_append, nzL_cons]; omega) hF a2, ih F G (by omega) hF' hG', ih (rvK v) (rvK w) (by omega) (fun x hx => rv_mem hv hx) (fun x hx => rv_mem hw hx), hc v w hv hw]
theorem Ed_ge {A B : GNode} (sA : A.sz ≤ 1048576) (sB : B.sz ≤ 1048576) : Ed gc [A] [B] = Ed ge [A] [B] :=
 Ed_congr (n := 1048576) (fun v w => gc_ge) _ [A] [B] (Nat.le_refl _) (by simpa using sA) (by simpa using sB)
theorem ge_comm (v w : GNode) : ge v w = ge w v := by
 rw [ge, ge]
 by_cases e : lone v = lone w
 ·rw [if_pos e, if_pos e.symm]
 ·rw [if_neg e, if_neg fun h => e h.symm]
theorem ge_self (v : GNode) : ge v v = 0 := if_pos rfl
theorem ge_le (v w : GNode) : ge v w ≤ 1 := by rw [ge]; split <;> omega
theorem ge_zero (v w : GNode) (h : ge v w = 0) (hk : v.Kids = w.Kids) : v = w := by
 rw [ge] at h
 by_cases e : lone v = lone w
 ·cases v; cases w
  simp only [lone, GNode.mk.injEq] at e hk ⊢
  exact ⟨e.1, e.2.1, e.2.2.1, e.2.2.2.1, e.2.2.2.2.1, e.2.2.2.2.2.1, hk, e.2.2.2.2.2.2.2⟩
 ·rw [if_neg e] at h; cases h
theorem small_tot : ∀ (m : Nat) (c : Gl1Cur), m ≤ 100 → Cok c → Tot (spec_l18Small c (m : Nat)) fun r => ∃ m' : Nat, r.2.2 = (m' : Int) ∧ m' ≤ m ∧ r.1.sz ≤ 1 + 2 * (m - m') ∧ Cok r.2.1 := by
 intro m
 induction m using Nat.strongRecOn with
 | _ m ih =>
  intro c hm hc
  have loop : ∀ (i : Nat) (m1 : Nat) (c1 : Gl1Cur) (r : ByteArray × Gl1Cur) (ks : List GNode), i ≤ 4 → m1 ≤ m → r.1.size ≤ 1 → Cok c1 → ks.length + szs GNode.sz ks ≤ 2 * (m - m1) →
    Tot (spec_l18Small_l8 (i : Nat) c1 (m1 : Nat) r ks) fun r => ∃ m' : Nat, r.2.2 = (m' : Int) ∧ m' ≤ m ∧ r.1.sz ≤ 1 + 2 * (m - m') ∧ Cok r.2.1 := by
   intro i
   induction i with
   | zero =>
    intro m1 c1 r ks hi h1 hr hc1 hk
    rw [spec_l18Small_l8, gtI_f (by omega)]
    refine Tot.ret ⟨m1, rfl, h1, ?_, hc1⟩
    rw [GNode.sz_eq]
    show 0 + (r.1.size + (0 + ((0 + 0) + ((0 + 0) + ((ks.length + szs GNode.sz ks) + 0))))) ≤ _
    omega
   | succ i ihi =>
    intro m1 c1 r ks hi h1 hr hc1 hk
    rw [spec_l18Small_l8, gtI_t (by omega)]
    simp only [if_true]
    refine Tot.ite (fun h0 => ?_) fun _ => ?_
    ·have h0 : 0 < m1 := by have := of_decide_eq_true h0; omega
     have e1 : subI ((m1 : Nat) : Int) 1 = ((m1 - 1 : Nat) : Int) := pred_k h0 (by omega)
     have e2 : subI ((i + 1 : Nat) : Int) 1 = ((i : Nat) : Int) := by rw [pred_k (by omega) (by omega)]; rfl
     rw [e1, e2]
     refine (ih (m1 - 1) (by omega) c1 (by omega) hc1).bnd fun x hx => ?_
     obtain ⟨m', x1, x2, x3, x4⟩ := hx
     refine (Tot.room (by omega)).bnd fun _ _ => ?_
     rw [x1]
     refine ihi m' _ r _ (by omega) (by omega) hr x4 ?_
     have e3 : szs GNode.sz (ks ++ [x.1]) = szs GNode.sz ks + x.1.sz := by simp [szs]
     rw [e3, List.length_append]
     show ks.length + 1 + _ ≤ _
     omega
    ·refine Tot.ret ⟨m1, rfl, h1, ?_, hc1⟩
     rw [GNode.sz_eq]
     show 0 + (r.1.size + (0 + ((0 + 0) + ((0 + 0) + ((ks.length + szs GNode.sz ks) + 0))))) ≤ _
     omega
  rw [spec_l18Small]
  refine (l1Str_tot c hc _ (by decide)).bnd fun r hr => (l1Below_tot _ hr.2 4).bnd fun s hs => ?_
  obtain ⟨k, k1, k2⟩ := below_nat hs.1 hs.2.1 (by omega)
  rw [k1]
  refine loop k m _ r [] (by omega) (Nat.le_refl _) ?_ hs.2.2 (by show 0 + 0 ≤ _; omega)
  exact str_sz hr.1 (by decide)
theorem drawGap_tot (code : List Int) (hl : code.length ≤ 1048576) : Tot (spec_DrawGap code) fun r => r.1.sz ≤ 3000 ∧ r.2.sz ≤ 3000 := by
 rw [spec_DrawGap]
 refine (l1New_tot code hl).bnd fun c hc => (l1Below_tot c hc 13).bnd fun a ha => ?_
 obtain ⟨k, k1, k2⟩ := below_nat ha.1 ha.2.1 (by omega)
 rw [k1]
 refine (small_tot k _ (by omega) ha.2.2).bnd fun t ht => ?_
 obtain ⟨m', t1, t2, t3, t4⟩ := ht
 refine (l1Below_tot _ t4 13).bnd fun b hb => (l1Once_tot _ hb.2.2 _).bnd fun q hq => Tot.ite (fun _ => (l5Draw_tot _ hq).bnd fun u hu => Tot.ret ⟨by show t.1.sz ≤ _; omega, hu.1⟩) fun _ => ?_
 obtain ⟨n, n1, n2⟩ := below_nat hb.1 hb.2.1 (by omega)
 rw [n1]
 refine (small_tot n _ (by omega) hq).bnd fun u hu => ?_
 obtain ⟨m2, u1, u2, u3, u4⟩ := hu
 exact Tot.ret ⟨by show t.1.sz ≤ _; omega, by show u.1.sz ≤ _; omega⟩
theorem law_FnGaps (code : List Int) (hl : code.length ≤ maxLen) (hc : ∀ y ∈ code, 0 ≤ y ∧ y < 256) : laws_FnGaps code = some true := by
 rw [laws_FnGaps, laws_big]
 by_cases hb : code.length ≤ 1048576
 case neg => rw [gtI_t (by simp only [lenL]; omega)]; rfl
 rw [gtI_f (by simp only [lenL]; omega)]
 obtain ⟨⟨a, b⟩, en, ha, hb2⟩ := drawGap_tot code hb
 have ha : a.sz ≤ 3000 := ha
 have hb2 : b.sz ≤ 3000 := hb2
 have sa : a.sz ≤ 1048576 := by omega
 have sb : b.sz ≤ 1048576 := by omega
 have z1 := nz_sz a
 have z2 := nz_sz b
 simp only [some_bnd, Bool.false_eq_true, if_false, en, impl_nz a sa, impl_nz b sb, spec_nz a sa, spec_nz b sb, impl_gap sa sb, spec_gap sa sb, impl_alone a sa]
 have hk : neI (lenL (lone a).Kids) 0 = false := neI_self 0
 by_cases h1 : 12 < nz a
 ·rw [if_pos (show 12 < nz a ∨ 12 < nz b from .inl h1)]
  simp only [some_bnd, neI_self, Bool.false_eq_true, if_false, hk]
  rw [gtI_t (by omega), if_pos rfl, eqI_self]
 by_cases h2 : 12 < nz b
 ·rw [if_pos (show 12 < nz a ∨ 12 < nz b from .inr h2)]
  simp only [some_bnd, neI_self, Bool.false_eq_true, if_false, hk]
  rw [gtI_f (by omega), gtI_t (by omega), if_pos rfl, eqI_self]; rfl
 have h3 : ¬ (12 < nz a ∨ 12 < nz b) := by omega
 have g1 : impl_Gap b a = some ((Ed gc [b] [a] : Nat) : Int) := by rw [impl_gap sb sa, if_neg (by omega)]
 have g2 : impl_Gap a a = some ((Ed gc [a] [a] : Nat) : Int) := by rw [impl_gap sa sa, if_neg (by omega)]
 have c1 : Ed gc [b] [a] = Ed gc [a] [b] := by rw [Ed_ge sb sa, Ed_ge sa sb, Ed_comm ge ge_comm]
 have c2 : Ed gc [a] [a] = 0 := by rw [Ed_ge sa sa, Ed_self ge ge_self]
 have c3 : eqB (eqI ((Ed gc [a] [b] : Nat) : Int) 0) (snB a b) = true := by
  rw [eqB_iff]
  by_cases e : Ed gc [a] [b] = 0
  ·rw [eqI_t (by omega)]
   rw [Ed_ge sa sb] at e
   have e2 := Ed_zero ge ge_zero [a] [b] e
   have e3 : a = b := by simpa using e2
   rw [e3, snB_self b sb]
  ·rw [eqI_f (by omega)]
   cases h : snB a b with
   | false => rfl
   | true => rw [snB_eq sa sb h, Ed_ge sb sb, Ed_self ge ge_self] at e; exact absurd rfl e
 have c4 := Ed_size gc [a] [b]
 have c5 := Ed_one ge ge_le a b [] []
 rw [← Ed_ge sa sb] at c5
 rw [nzL_one, nzL_one] at c4 c5
 rw [if_neg h3]
 simp only [some_bnd, neI_self, Bool.false_eq_true, if_false, hk]
 rw [gtI_f (by omega), gtI_f (by omega)]
 simp only [Bool.false_eq_true, if_false, g1, some_bnd, c1, eqI_self, if_true, impl_node a b sa sb, c3, g2, c2]
 have s1 : subI ((nz a : Nat) : Int) ((nz b : Nat) : Int) = (nz a : Int) - nz b := subI_eq (by omega) (by omega)
 have s2 : subI ((nz b : Nat) : Int) ((nz a : Nat) : Int) = (nz b : Int) - nz a := subI_eq (by omega) (by omega)
 have s3 : subI (addI ((nz a : Nat) : Int) ((nz b : Nat) : Int)) 1 = (nz a : Int) + nz b - 1 := by rw [addI_eq (by omega) (by omega), subI_eq (by omega) (by omega)]
 rw [s1, s2, s3, geI_t (by omega), geI_t (by omega), leI_t (by omega)]
 rfl
end TT
