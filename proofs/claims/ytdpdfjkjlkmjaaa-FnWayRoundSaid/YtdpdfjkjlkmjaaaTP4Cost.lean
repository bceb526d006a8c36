import Derived.Test.YtdpdfjkjlkmjaaaTP4Forest
import Derived.Test.YtdpdfjkjlkmjaaaTP3Merge
set_option linter.unusedVariables false
set_option linter.unusedSimpArgs false
namespace TT
open Go
theorem all2_refl {α : Type} {p : α → α → Bool} (hp : ∀ x, p x x = true) : ∀ l : List α, all2 p l l = true
 | [] => rfl
 | x :: l => by rw [all2, hp x, all2_refl hp l]; rfl
theorem alone_true (a b : GNode) (ha : a.sz ≤ 1048576) (hb : b.sz ≤ 1048576) (ka : a.Kids = []) (kb : b.Kids = []) : impl_sameAlone a b = some true ↔ a = b := by
 have hza := GNode.sz_eq a
 have hd : a.Decls.length ≤ maxLen := by rw [maxLen_eq]; omega
 have hA : a.Attrs.length ≤ maxLen := by rw [maxLen_eq]; omega
 constructor
 ·intro h
  rw [impl_sameAlone] at h
  by_cases e1 : eqI a.Kind b.Kind = true
  case neg => simp [e1] at h
  by_cases e2 : eqS a.Pre b.Pre = true
  case neg => simp [e1, e2] at h
  by_cases e3 : eqS a.Local b.Local = true
  case neg => simp [e1, e2, e3] at h
  by_cases e4 : eqS a.Uri b.Uri = true
  case neg => simp [e1, e2, e3, e4] at h
  by_cases e5 : eqS a.Text b.Text = true
  case neg => simp [e1, e2, e3, e4, e5] at h
  simp only [e1, e2, e3, e4, e5, if_true] at h
  by_cases l1 : a.Decls.length = b.Decls.length
  case neg => simp [slices_Equal_Decl_ne _ _ l1] at h
  rw [slices_Equal_Decl_eq _ _ hd l1] at h
  simp only [some_bnd] at h
  cases d : all2 (fun x y : GDecl => eqS x.Pre y.Pre && eqS x.Uri y.Uri) a.Decls b.Decls with
  | false => rw [d] at h; simp at h
  | true =>
   rw [d] at h
   simp only [if_true] at h
   by_cases l2 : a.Attrs.length = b.Attrs.length
   case neg => simp [slices_Equal_Attr_ne _ _ l2] at h
   rw [slices_Equal_Attr_eq _ _ hA l2] at h
   simp only [some_bnd] at h
   have q := Option.some.inj h
   have d1 : a.Decls = b.Decls := all2_eq (fun x y hxy => by
    simp only [Bool.and_eq_true] at hxy
    cases x; cases y
    simp only [GDecl.mk.injEq]
    exact ⟨eqS_iff.1 hxy.1, eqS_iff.1 hxy.2⟩) d
   have a1 : a.Attrs = b.Attrs := all2_eq (fun x y hxy => by
    simp only [Bool.and_eq_true] at hxy
    cases x; cases y
    simp only [GAttr.mk.injEq]
    exact ⟨eqS_iff.1 hxy.1, eqS_iff.1 hxy.2.1, eqS_iff.1 hxy.2.2.1, eqS_iff.1 hxy.2.2.2⟩) q
   have k1 : a.Kids = b.Kids := ka.trans kb.symm
   cases a; cases b
   simp only at e1 e2 e3 e4 e5 d1 a1 k1
   simp only [GNode.mk.injEq]
   exact ⟨eqI_iff.1 e1, eqS_iff.1 e2, eqS_iff.1 e3, eqS_iff.1 e4, d1, a1, k1, eqS_iff.1 e5⟩
 ·intro h
  subst h
  rw [impl_sameAlone, slices_Equal_Decl_eq _ _ hd rfl, slices_Equal_Attr_eq _ _ hA rfl, all2_refl (fun x => by simp only [eqS_self, Bool.and_self]), all2_refl (fun x => by simp only [eqS_self, Bool.and_self])]
  simp only [eqI_self, eqS_self, some_bnd, if_true]
theorem lone_snB {v w : GNode} (hv : v.sz ≤ 1048576) (hw : w.sz ≤ 1048576) : snB (lone v) (lone w) = true ↔ lone v = lone w := by
 have h1 := lone_sz v
 have h2 := lone_sz w
 rw [← alone_true (lone v) (lone w) (by omega) (by omega) rfl rfl, (alone_same (lone v) (lone w) (by omega) (by omega) rfl rfl).2]
 simp
open Classical in
noncomputable def ge (v w : GNode) : Nat := if lone v = lone w then 0 else 1
theorem gc_ge {v w : GNode} (hv : v.sz ≤ 1048576) (hw : w.sz ≤ 1048576) : gc v w = ge v w := by
 rw [gc, ge]
 by_cases e : lone v = lone w
 ·rw [if_pos e, if_pos ((lone_snB hv hw).2 e)]
 ·rw [if_neg e, if_neg fun h => e ((lone_snB hv hw).1 h)]
theorem rv_mem {v x : GNode} {n : Nat} (hv : v.sz ≤ n) (h : x ∈ rvK v) : x.sz ≤ n := by
 rw [rvK, List.mem_reverse] at h
 have := kid_sz h; omega
theorem Ed_congr {c c' : GNode → GNode → Nat} {n : Nat} (hc : ∀ v w, v.sz ≤ n → w.sz ≤ n → c v w = c' v w) : ∀ (m : Nat) (F G : List GNode), nzL F + nzL G ≤ m → (∀ v ∈ F, v.sz ≤ n) → (∀ w ∈ G, w.sz ≤ n) → Ed c F G = Ed c' F G := by
 intro m
 induction m with
 | zero =>
  intro F G h hF hG
  rw [nzL_zero (F := F) (by omega), Ed_nil, Ed_nil]
 | succ m ih =>
  intro F G h hF hG
  match F, G with
  | [], G => rw [Ed_nil, Ed_nil]
  | v :: F, [] => rw [Ed_nil', Ed_nil']
  | v :: F, w :: G =>
   rw [nzL_cons, nzL_cons] at h
   have zv := nz_rv v
   have zw := nz_rv w
   have hv := hF v (by simp)
   have hw := hG w (by simp)
   have hF' : ∀ x ∈ F, x.sz ≤ n := fun x hx => hF x (by simp [hx])
   have hG' : ∀ x ∈ G, x.sz ≤ n := fun x hx => hG x (by simp [hx])
   have a1 : ∀ x ∈ rvK v ++ F, x.sz ≤ n := by
    intro x hx
    rcases List.mem_append.1 hx with hx | hx
    ·exact rv_mem hv hx
    ·exact hF' x hx
   have a2 : ∀ x ∈ rvK w ++ G, x.sz ≤ n := by
    intro x hx
    rcases List.mem_append.1 hx with hx | hx
    ·exact rv_mem hw hx
    ·exact hG' x hx
   rw [Ed_cons, Ed_cons, ih (rvK v ++ F) (w :: G) (by rw [nzL_append, nzL_cons]; omega) a1 hG, ih (v :: F) (rvK w ++ G) (by rw [nzL_append, nzL_cons]; omega) hF a2, ih F G (by omega) hF' hG', ih (rvK v) (rvK w) (by omega) (fun x hx => rv_mem hv hx) (fun x hx => rv_mem hw hx), hc v w hv hw]
theorem Ed_ge {A B : GNode} (sA : A.sz ≤ 1048576) (sB : B.sz ≤ 1048576) : Ed gc [A] [B] = Ed ge [A] [B] :=
 Ed_congr (n := 1048576) (fun v w => gc_ge) _ [A] [B] (Nat.le_refl _) (by simpa using sA) (by simpa using sB)
theorem ge_self (v : GNode) : ge v v = 0 := if_pos rfl
theorem ge_le (v w : GNode) : ge v w ≤ 1 := by rw [ge]; split <;> omega
theorem ge_tri (v w u : GNode) : ge v u ≤ ge v w + ge w u := by
 simp only [ge]
 by_cases e : lone v = lone w
 ·rw [if_pos e, e]; omega
 ·rw [if_neg e]; split <;> omega
theorem small_tot : ∀ (m : Nat) (c : Gl1Cur), m ≤ 100 → Cok c → Tot (spec_l18Small c (m : Nat)) fun r => ∃ m' : Nat, r.2.2 = (m' : Int) ∧ m' ≤ m ∧ (r.1.sz ≤ 1 + 2 * (m - m') ∧ nz r.1 ≤ 1 + (m - m')) ∧ Cok r.2.1 := by
 intro m
 induction m using Nat.strongRecOn with
 | _ m ih =>
  intro c hm hc
  have loop : ∀ (i : Nat) (m1 : Nat) (c1 : Gl1Cur) (r : ByteArray × Gl1Cur) (ks : List GNode), i ≤ 4 → m1 ≤ m → r.1.size ≤ 1 → Cok c1 → ks.length + szs GNode.sz ks ≤ 2 * (m - m1) → nzL ks ≤ m - m1 →
    Tot (spec_l18Small_l8 (i : Nat) c1 (m1 : Nat) r ks) fun r => ∃ m' : Nat, r.2.2 = (m' : Int) ∧ m' ≤ m ∧ (r.1.sz ≤ 1 + 2 * (m - m') ∧ nz r.1 ≤ 1 + (m - m')) ∧ Cok r.2.1 := by
   intro i
   induction i with
   | zero =>
    intro m1 c1 r ks hi h1 hr hc1 hk hz
    rw [spec_l18Small_l8, gtI_f (by omega)]
    refine Tot.ret ⟨m1, rfl, h1, ⟨?_, by show 1 + nzL ks ≤ _; omega⟩, hc1⟩
    rw [GNode.sz_eq]
    show 0 + (r.1.size + (0 + ((0 + 0) + ((0 + 0) + ((ks.length + szs GNode.sz ks) + 0))))) ≤ _
    omega
   | succ i ihi =>
    intro m1 c1 r ks hi h1 hr hc1 hk hz
    rw [spec_l18Small_l8, gtI_t (by omega)]
    simp only [if_true]
    refine Tot.ite (fun h0 => ?_) fun _ => ?_
    ·have h0 : 0 < m1 := by have := of_decide_eq_true h0; omega
     have e1 : subI ((m1 : Nat) : Int) 1 = ((m1 - 1 : Nat) : Int) := pred_k h0 (by omega)
     have e2 : subI ((i + 1 : Nat) : Int) 1 = ((i : Nat) : Int) := by rw [pred_k (by omega) (by omega)]; rfl
     rw [e1, e2]
     refine (ih (m1 - 1) (by omega) c1 (by omega) hc1).bnd fun x hx => ?_
     obtain ⟨m', x1, x2, ⟨x3, x5⟩, x4⟩ := hx
     refine (Tot.room (by omega)).bnd fun _ _ => ?_
     rw [x1]
     refine ihi m' _ r _ (by omega) (by omega) hr x4 ?_ (by rw [nzL_append, nzL_one]; omega)
     have e3 : szs GNode.sz (ks ++ [x.1]) = szs GNode.sz ks + x.1.sz := by simp [szs]
     rw [e3, List.length_append]
     show ks.length + 1 + _ ≤ _
     omega
    ·refine Tot.ret ⟨m1, rfl, h1, ⟨?_, by show 1 + nzL ks ≤ _; omega⟩, hc1⟩
     rw [GNode.sz_eq]
     show 0 + (r.1.size + (0 + ((0 + 0) + ((0 + 0) + ((ks.length + szs GNode.sz ks) + 0))))) ≤ _
     omega
  rw [spec_l18Small]
  refine (l1Str_tot c hc _ (by decide)).bnd fun r hr => (l1Below_tot _ hr.2 4).bnd fun s hs => ?_
  obtain ⟨k, k1, k2⟩ := below_nat hs.1 hs.2.1 (by omega)
  rw [k1]
  refine loop k m _ r [] (by omega) (Nat.le_refl _) ?_ hs.2.2 (by show 0 + 0 ≤ _; omega) (Nat.zero_le _)
  exact str_sz hr.1 (by decide)
end TT
