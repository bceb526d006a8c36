import Derived.Test.YtaeegkjcjlnanaaGreatDoorTP3Merge
set_option linter.unusedVariables false
set_option linter.unusedSimpArgs false
namespace TT
open Go
theorem A0t {a : Int} {n : Nat} (h0 : 0 ≤ a) (h1 : a < n ∨ a = 0) (hn : 0 < n) : ∃ k : Nat, a = k ∧ k < n := ⟨a.toNat, by omega, by omega⟩
theorem eK (a b : ByteArray) : (a ++ b).size = a.size + b.size := by simp
theorem nJ {x y : ByteArray} (h : x.size + y.size ≤ 1000000) : bP x y = some (x ++ y) := by
 unfold bP
 rw [if_pos (by omega)]
theorem tX (a b : Int) : neI a b = !Av a b := by simp [neI, Av, bne]
theorem eL : ∀ (m : Nat) (s : ByteArray) (c : A2), Fe c → s.size ≤ 601 → 601 - s.size ≤ m → AT (DE s c) fun r => r.1.size ≤ 601 ∧ Fe r.2
 | 0, s, c, hc, h1, h2 => by
  rw [DE]
  refine (NC c hc _ (by decide)).bnd fun r hr => ?_
  have hv : r.1 = 600 ∨ r.1 = 601 := by simpa using hr.1
  rw [Eg (by simp only [AS]; omega), if_neg Bool.false_ne_true]
  exact AT.ret ⟨h1, hr.2⟩
 | m + 1, s, c, hc, h1, h2 => by
  rw [DE]
  refine (NC c hc _ (by decide)).bnd fun r hr => ?_
  have hv : r.1 = 600 ∨ r.1 = 601 := by simpa using hr.1
  by_cases h : (s.size : Int) < r.1
  ·rw [O6 (by simp only [AS]; exact h), if_pos rfl, nJ (by show s.size + 1 ≤ _; omega)]
   have e : (s ++ (⟨#[120]⟩ : ByteArray)).size = s.size + 1 := eK s ⟨#[120]⟩
   exact eL m _ _ hr.2 (by rw [e]; omega) (by rw [e]; omega)
  ·rw [Eg (by simp only [AS]; exact h), if_neg Bool.false_ne_true]
   exact AT.ret ⟨h1, hr.2⟩
theorem k9 : ∀ (k : Nat) (s : ByteArray) (c : A2), Fe c → s.size + 4 * k ≤ 100 → AT (Ds s (k : Int) c) fun r => r.1.size ≤ 601 ∧ Fe r.2
 | 0, s, c, hc, h => by
  rw [Ds, TR (by omega), if_neg Bool.false_ne_true]
  refine (Ed c hc 40).bnd fun r hr => AT.ite (fun _ => ?_) fun _ => AT.ret ⟨by show s.size ≤ 601; omega, hr⟩
  exact eL 601 s _ hr (by omega) (by omega)
 | k + 1, s, c, hc, h => by
  rw [Ds, PG (by omega), if_pos rfl]
  refine (B4 c hc _ (by decide)).bnd fun r hr => ?_
  have hz : r.1.size ≤ 4 := Dw hr.1 (by decide)
  rw [nJ (by omega)]
  have e := eK s r.1
  have ek : BA ((k + 1 : Nat) : Int) 1 = (k : Int) := by
   by_cases hk : k < 1000
   ·rw [BT (by omega) (by omega)]; omega
   ·omega
  rw [ek]
  exact k9 k _ _ hr.2 (by rw [e]; omega)
theorem eM (c : A2) (hc : Fe c) : AT (I2 c) fun r => r.1.size ≤ 601 ∧ Fe r.2 := by
 rw [I2]
 refine (Ck c hc 4).bnd fun r hr => ?_
 obtain ⟨k, e, hk⟩ := A0t (n := 4) hr.1 hr.2.1 (by decide)
 rw [e]
 exact k9 k _ _ hr.2.2 (by show 0 + 4 * k ≤ 100; omega)
theorem pR (c : A2) (hc : Fe c) : AT (NR c) fun r => r.1.size ≤ 100 ∧ Fe r.2 := by
 rw [NR]
 refine (Ed c hc 2).bnd fun r hr => AT.ite (fun _ => ?_) fun _ => (B4 _ hr _ (by decide)).bnd fun x hx => AT.ret ⟨Dw hx.1 (by decide), hx.2⟩
 rw [Nx]
 exact ((B4 _ hr _ (by decide)).bnd (Q := fun r => r.1.size ≤ 100 ∧ Fe r.2) fun x hx => AT.ret ⟨Dw hx.1 (by decide), hx.2⟩).bnd fun x hx => AT.ret ⟨hx.1, hx.2⟩
theorem pS (c : A2) (hc : Fe c) : AT (NS c) fun r => (r.1.length + szs A1.sz r.1 ≤ 500) ∧ Fe r.2 := by
 rw [NS]
 refine (Zq c hc).bnd fun l hl => (Ck _ hl.2 8).bnd fun k hk => ?_
 have h1 := hl.1.len
 have h2 := hl.1.sz
 have ds : ∀ d : A1, d.sz = d.Pre.size + d.Uri.size := fun d => rfl
 have ap : ∀ (a b : List A1), szs A1.sz (a ++ b) = szs A1.sz a + szs A1.sz b := fun a b => by simp [szs]
 have one : ∀ d : A1, szs A1.sz [d] = d.sz := fun d => by simp [szs]
 refine AT.ite (fun _ => ?_) fun _ => AT.ite (fun _ => ?_) fun _ => AT.ite (fun _ => ?_) fun _ => AT.ret ⟨by show l.1.length + szs A1.sz l.1 ≤ 500; omega, hk.2.2⟩
 ·refine (B4 _ hk.2.2 _ (by decide)).bnd fun x hx => (B4 _ hx.2 _ (by decide)).bnd fun y hy => (AT.room (by omega)).bnd fun _ _ => AT.ret ⟨?_, hy.2⟩
  have a1 : x.1.size ≤ 10 := Dw hx.1 (by decide)
  have a2 : y.1.size ≤ 10 := Dw hy.1 (by decide)
  show (_ ++ [_]).length + _ ≤ _
  rw [ap, one, ds, List.length_append, List.length_singleton]
  show _ + (_ + (x.1.size + y.1.size)) ≤ _
  omega
 ·refine (U5 _ hk.2.2).bnd fun x hx => (U5 _ hx.2).bnd fun y hy => (AT.room (by omega)).bnd fun _ _ => AT.ret ⟨?_, hy.2⟩
  have a1 := hx.1
  have a2 := hy.1
  show ((_ ++ [_]) ++ [_]).length + _ ≤ _
  rw [ap, ap, one, one, ds, ds, List.length_append, List.length_append, List.length_singleton, List.length_singleton]
  omega
 ·refine (B4 _ hk.2.2 _ (by decide)).bnd fun x hx => (AT.room (by omega)).bnd fun _ _ => AT.ret ⟨?_, hx.2⟩
  have a1 : x.1.size ≤ 50 := Dw hx.1 (by decide)
  show (((_ ++ [_]) ++ [_]) ++ [_]).length + _ ≤ _
  rw [ap, ap, ap, one, one, one, ds, ds, ds, List.length_append, List.length_append, List.length_append, List.length_singleton, List.length_singleton, List.length_singleton]
  show _ + (_ + (1 + x.1.size) + (1 + 1) + (1 + 1)) ≤ _
  omega
theorem aJ : ∀ (l : List A0) (k : Nat) (x y : A0), l[k]? = some x → szs A0.sz (l.set k y) + x.sz = szs A0.sz l + y.sz
 | [], k, x, y, h => by simp at h
 | z :: l, 0, x, y, h => by simp at h; subst h; rw [List.set_cons_zero, FI, FI]; omega
 | z :: l, k + 1, x, y, h => by
  have ih := aJ l k x y (by simpa using h)
  rw [List.set_cons_succ, FI, FI]; omega
theorem bsz (n : A0) : n.sz = n.Pre.size + (n.Local.size + (n.Uri.size + ((n.Decls.length + szs A1.sz n.Decls) + ((n.Attrs.length + szs A3.sz n.Attrs) + ((n.Kids.length + szs A0.sz n.Kids) + n.Text.size))))) := A0.sz_eq n
theorem VY (a b : List A0) : szs A0.sz (a ++ b) = szs A0.sz a + szs A0.sz b := by simp [szs]
theorem VZ (x : A0) : szs A0.sz [x] = x.sz := by simp [szs]
theorem pT (n : A0) (hs : n.sz ≤ 3000) (h : D4 n = some true) : n.Kids ≠ [] := by
 intro hk
 rw [D4] at h
 by_cases h0 : Av n.Kind 0 = true
 ·rw [if_pos h0, DX] at h
  obtain ⟨c, hc⟩ : ∃ c, C5 n = some c := by
   cases e : C5 n with
   | none => rw [e] at h; cases h
   | some c => exact ⟨c, rfl⟩
  rw [hc] at h
  simp only [A5, tX, h0, Bool.not_true, Bool.false_eq_true, if_false] at h
  have e : Ab 0 0 n = some false := by
   rw [Ab, hk]
   rfl
  rw [e] at h
  by_cases g : Np c 60 = true
  ·rw [if_pos g] at h; cases h
  ·rw [if_neg g] at h; cases h
 ·rw [if_neg h0] at h; cases h
theorem eN (k : Nat) (r : A0 × A2) (hz : r.1.sz ≤ 3000) : ∀ (m i : Nat) (c : A2) (l : List A0), Fe c → i + m = 7 → k < l.length → l.length = r.1.Kids.length → szs A0.sz l ≤ szs A0.sz r.1.Kids + 2 * i → AT (Cg (k : Nat) (i : Nat) c r l) fun r => r.1.sz ≤ 20000 ∧ Fe r.2
 | m, i, c, l, hc, hi, hk, hl, hs => by
  rw [Cg]
  refine (NC c hc _ (by decide)).bnd fun b hb => ?_
  have hv : b.1 = 6 ∨ b.1 = 7 := by simpa using hb.1
  have fin : AT (some ((A0.mk r.1.Kind r.1.Pre r.1.Local r.1.Uri r.1.Decls r.1.Attrs l r.1.Text), b.2)) fun r => r.1.sz ≤ 20000 ∧ Fe r.2 := by
   refine AT.ret ⟨?_, hb.2⟩
   have h1 := bsz r.1
   have h2 := bsz (A0.mk r.1.Kind r.1.Pre r.1.Local r.1.Uri r.1.Decls r.1.Attrs l r.1.Text)
   show (A0.mk r.1.Kind r.1.Pre r.1.Local r.1.Uri r.1.Decls r.1.Attrs l r.1.Text).sz ≤ _
   dsimp only at h2
   omega
  refine AT.ite (fun h => ?_) fun _ => fin
  cases m with
  | zero =>
   have := of_decide_eq_true h
   omega
  | succ m =>
   refine (AT.getI (l := l) (i := (k : Int)) (by omega) (by omega)).bnd fun x hx => ?_
   refine (AT.getI (l := l) (i := (k : Int)) (by omega) (by omega)).bnd fun _ _ => ?_
   have e : AP (i : Int) 1 = ((i + 1 : Nat) : Int) := by rw [Al (by omega) (by omega)]; omega
   rw [e]
   have hx2 : l[k]? = some x := by simpa using hx.2
   have hset := aJ l k x (A0.mk 1 (⟨#[]⟩) (⟨#[100]⟩) (⟨#[]⟩) [] [] [x] (⟨#[]⟩)) hx2
   have hb' := bsz (A0.mk 1 (⟨#[]⟩) (⟨#[100]⟩) (⟨#[]⟩) [] [] [x] (⟨#[]⟩))
   have hb2 : (A0.mk 1 (⟨#[]⟩) (⟨#[100]⟩) (⟨#[]⟩) [] [] [x] (⟨#[]⟩)).sz = x.sz + 2 := by
    rw [hb']
    show 0 + (1 + (0 + ((0 + 0) + ((0 + 0) + ((1 + szs A0.sz [x]) + 0))))) = _
    rw [VZ]; omega
   refine eN k r hz m (i + 1) _ _ hb.2 (by omega) (by rw [List.length_set]; exact hk) (by rw [List.length_set]; exact hl) ?_
   show szs A0.sz (l.set k _) ≤ _
   omega
theorem mS (c : A2) (h : Fe c) : AT (FR c) fun r => r.1.sz ≤ 20000 ∧ Fe r.2 := by
 have j6 : ∀ (k : Nat) (r : A0 × A2), r.1.sz ≤ 3000 → Fe r.2 → k < r.1.Kids.length → AT (D5 (k : Nat) r) fun r => r.1.sz ≤ 20000 ∧ Fe r.2 := by
  intro k r hz hc hk
  have hb := bsz r.1
  have getK : AT (getI r.1.Kids (k : Int)) fun x => x.sz ≤ 3000 ∧ r.1.Kids[k]? = some x := (AT.getI (l := r.1.Kids) (i := (k : Int)) (by omega) (by omega)).mono fun x hx => ⟨by have := Cp A0.sz hx.1; omega, by simpa using hx.2⟩
  have put : ∀ (x y : A0) (c : A2), x.sz ≤ 3000 → r.1.Kids[k]? = some x → y.sz ≤ 10000 → Fe c → AT (some ((A0.mk r.1.Kind r.1.Pre r.1.Local r.1.Uri r.1.Decls r.1.Attrs (r.1.Kids.set (Int.toNat (k : Int)) y) r.1.Text), c)) fun r => r.1.sz ≤ 20000 ∧ Fe r.2 := by
   intro x y c hx hg hy hc
   refine AT.ret ⟨?_, hc⟩
   have h2 := bsz (A0.mk r.1.Kind r.1.Pre r.1.Local r.1.Uri r.1.Decls r.1.Attrs (r.1.Kids.set k y) r.1.Text)
   have h3 := aJ r.1.Kids k x y hg
   show (A0.mk r.1.Kind r.1.Pre r.1.Local r.1.Uri r.1.Decls r.1.Attrs (r.1.Kids.set k y) r.1.Text).sz ≤ _
   dsimp only at h2
   rw [List.length_set] at h2
   omega
  have kin : ∀ (ks : List A0) (c : A2), ks.length + szs A0.sz ks ≤ 10000 → Fe c → AT (some ((A0.mk r.1.Kind r.1.Pre r.1.Local r.1.Uri r.1.Decls r.1.Attrs ks r.1.Text), c)) fun r => r.1.sz ≤ 20000 ∧ Fe r.2 := by
   intro ks c hks hc
   refine AT.ret ⟨?_, hc⟩
   have h2 := bsz (A0.mk r.1.Kind r.1.Pre r.1.Local r.1.Uri r.1.Decls r.1.Attrs ks r.1.Text)
   show (A0.mk r.1.Kind r.1.Pre r.1.Local r.1.Uri r.1.Decls r.1.Attrs ks r.1.Text).sz ≤ _
   dsimp only at h2
   omega
  have kadd : ∀ (x : A0) (kd : Int) (lo tx : ByteArray), x.sz ≤ 3000 → lo.size ≤ 100 → tx.size ≤ 1000 → (A0.mk x.Kind x.Pre x.Local x.Uri x.Decls x.Attrs (x.Kids ++ [(A0.mk kd (⟨#[]⟩) lo (⟨#[]⟩) [] [] [] tx)]) x.Text).sz ≤ 10000 := by
   intro x kd lo tx hx hlo htx
   have h1 := bsz x
   have h2 := bsz (A0.mk kd (⟨#[]⟩) lo (⟨#[]⟩) [] [] [] tx)
   have h3 := bsz (A0.mk x.Kind x.Pre x.Local x.Uri x.Decls x.Attrs (x.Kids ++ [(A0.mk kd (⟨#[]⟩) lo (⟨#[]⟩) [] [] [] tx)]) x.Text)
   have h4 : (A0.mk kd (⟨#[]⟩) lo (⟨#[]⟩) [] [] [] tx).sz = lo.size + tx.size := by
    rw [h2]
    show 0 + (lo.size + (0 + ((0 + 0) + ((0 + 0) + ((0 + 0) + tx.size))))) = _
    omega
   dsimp only at h3
   rw [VY, VZ, List.length_append, List.length_singleton, h4] at h3
   omega
  rw [D5]
  refine (Ck _ hc 24).bnd fun a ha => ?_
  have ca := ha.2.2
  refine AT.ite (fun _ => (NC _ ca _ (by decide)).bnd fun b hb' => AT.ret ⟨?_, hb'.2⟩) fun _ => ?_
  ·have h2 := bsz (A0.mk b.1 r.1.Pre r.1.Local r.1.Uri r.1.Decls r.1.Attrs r.1.Kids r.1.Text)
   show (A0.mk b.1 r.1.Pre r.1.Local r.1.Uri r.1.Decls r.1.Attrs r.1.Kids r.1.Text).sz ≤ _
   dsimp only at h2
   omega
  refine AT.ite (fun _ => (B4 _ ca _ (by decide)).bnd fun b hb' => getK.bnd fun x hx => put x _ _ hx.1 hx.2 ?_ hb'.2) fun _ => ?_
  ·have h1 : b.1.size ≤ 10 := Dw hb'.1 (by decide)
   have h3 := hx.1
   have h2 := bsz x
   have h4 := bsz (A0.mk x.Kind b.1 x.Local x.Uri x.Decls x.Attrs x.Kids x.Text)
   dsimp only at h4
   omega
  refine AT.ite (fun _ => (pR _ ca).bnd fun b hb' => getK.bnd fun x hx => put x _ _ hx.1 hx.2 ?_ hb'.2) fun _ => ?_
  ·have h1 := hb'.1
   have h3 := hx.1
   have h2 := bsz x
   have h4 := bsz (A0.mk x.Kind x.Pre b.1 x.Uri x.Decls x.Attrs x.Kids x.Text)
   dsimp only at h4
   omega
  refine AT.ite (fun _ => (eC _ ca).bnd fun b hb' => getK.bnd fun x hx => put x _ _ hx.1 hx.2 ?_ hb'.2) fun _ => ?_
  ·have h1 := hb'.1
   have h3 := hx.1
   have h2 := bsz x
   have h4 := bsz (A0.mk x.Kind x.Pre x.Local b.1 x.Decls x.Attrs x.Kids x.Text)
   dsimp only at h4
   omega
  refine AT.ite (fun _ => (pS _ ca).bnd fun b hb' => getK.bnd fun x hx => put x _ _ hx.1 hx.2 ?_ hb'.2) fun _ => ?_
  ·have h1 := hb'.1
   have h3 := hx.1
   have h2 := bsz x
   have h4 := bsz (A0.mk x.Kind x.Pre x.Local x.Uri b.1 x.Attrs x.Kids x.Text)
   dsimp only at h4
   omega
  refine AT.ite (fun _ => getK.bnd fun x hx => (B4 _ ca _ (by decide)).bnd fun b1 g1 => (B4 _ g1.2 _ (by decide)).bnd fun b2 g2 => (B4 _ g2.2 _ (by decide)).bnd fun b3 g3 => (eM _ g3.2).bnd fun b4 g4 => ?_) fun _ => ?_
  ·have h3 := hx.1
   have h2 := bsz x
   refine (AT.room (by omega)).bnd fun _ _ => getK.bnd fun x' hx' => ?_
   have ee : x' = x := by have := hx'.2; rw [hx.2] at this; exact (Option.some.inj this).symm
   subst ee
   refine put x' _ _ hx.1 hx.2 ?_ g4.2
   have k1 : b1.1.size ≤ 10 := Dw g1.1 (by decide)
   have k2 : b2.1.size ≤ 10 := Dw g2.1 (by decide)
   have k3 : b3.1.size ≤ 10 := Dw g3.1 (by decide)
   have k4 := g4.1
   have h4 := bsz (A0.mk x'.Kind x'.Pre x'.Local x'.Uri x'.Decls (x'.Attrs ++ [A3.mk b1.1 b2.1 b3.1 b4.1]) x'.Kids x'.Text)
   have h5 : szs A3.sz (x'.Attrs ++ [A3.mk b1.1 b2.1 b3.1 b4.1]) = szs A3.sz x'.Attrs + (A3.mk b1.1 b2.1 b3.1 b4.1).sz := by simp [szs]
   have h6 : (A3.mk b1.1 b2.1 b3.1 b4.1).sz = b1.1.size + (b2.1.size + (b3.1.size + b4.1.size)) := rfl
   dsimp only at h4
   rw [h5, h6, List.length_append, List.length_singleton] at h4
   omega
  refine AT.ite (fun _ => getK.bnd fun x hx => (eM _ ca).bnd fun b g => ?_) fun _ => ?_
  ·have h3 := hx.1
   have h2 := bsz x
   refine (AT.room (by omega)).bnd fun _ _ => getK.bnd fun x' hx' => ?_
   have ee : x' = x := by have := hx'.2; rw [hx.2] at this; exact (Option.some.inj this).symm
   subst ee
   exact put x' _ _ hx.1 hx.2 (kadd x' _ _ _ hx.1 (by decide) (by have := g.1; omega)) g.2
  refine AT.ite (fun _ => getK.bnd fun x hx => (B4 _ ca _ (by decide)).bnd fun b g => ?_) fun _ => ?_
  ·have h3 := hx.1
   have h2 := bsz x
   refine (AT.room (by omega)).bnd fun _ _ => getK.bnd fun x' hx' => ?_
   have ee : x' = x := by have := hx'.2; rw [hx.2] at this; exact (Option.some.inj this).symm
   subst ee
   have k1 : b.1.size ≤ 10 := Dw g.1 (by decide)
   exact put x' _ _ hx.1 hx.2 (kadd x' _ _ _ hx.1 (by decide) (by omega)) g.2
  refine AT.ite (fun _ => getK.bnd fun x hx => (B4 _ ca _ (by decide)).bnd fun b g => (B4 _ g.2 _ (by decide)).bnd fun b2 g2 => ?_) fun _ => ?_
  ·have h3 := hx.1
   have h2 := bsz x
   refine (AT.room (by omega)).bnd fun _ _ => getK.bnd fun x' hx' => ?_
   have ee : x' = x := by have := hx'.2; rw [hx.2] at this; exact (Option.some.inj this).symm
   subst ee
   have k1 : b.1.size ≤ 10 := Dw g.1 (by decide)
   have k2 : b2.1.size ≤ 10 := Dw g2.1 (by decide)
   exact put x' _ _ hx.1 hx.2 (kadd x' _ _ _ hx.1 (by omega) (by omega)) g2.2
  refine AT.ite (fun _ => getK.bnd fun x hx => (AT.room (by show _ + 1 ≤ _; omega)).bnd fun _ _ => kin _ _ ?_ ca) fun _ => ?_
  ·have h3 := hx.1
   rw [VY, VZ, List.length_append, List.length_singleton]
   omega
  refine AT.ite (fun _ => (AT.room (by omega)).bnd fun _ _ => kin _ _ ?_ ca) fun _ => ?_
  ·have h4 : (A0.mk 2 (⟨#[]⟩) (⟨#[]⟩) (⟨#[]⟩) [] [] [] (⟨#[32]⟩)).sz = 1 := by rw [bsz]; rfl
   rw [VY, VZ, List.length_append, List.length_singleton, h4]
   omega
  refine AT.ite (fun _ => ?_) fun _ => ?_
  ·have e : slL r.1.Kids 0 (k : Int) = some (r.1.Kids.take k) := by
    unfold slL
    rw [if_pos ⟨by omega, by omega, by omega⟩]
    simp
   rw [e]
   refine kin _ _ ?_ ca
   have h1 : szs A0.sz (r.1.Kids.take k) + szs A0.sz (r.1.Kids.drop k) = szs A0.sz r.1.Kids := by rw [← VY, List.take_append_drop]
   rw [List.length_take]
   omega
  exact AT.ite (fun _ => eN k r hz 7 0 _ _ ca rfl hk rfl (Nat.le_refl _)) fun _ => AT.ret ⟨by show r.1.sz ≤ 20000; omega, ca⟩
 have l8 : ∀ (m k : Nat) (r : A0 × A2), r.1.sz ≤ 3000 → Fe r.2 → k + 1 + m = r.1.Kids.length → AT (CO (k : Nat) r) fun r => r.1.sz ≤ 20000 ∧ Fe r.2 := by
  intro m
  induction m with
  | zero =>
   intro k r hz hc hk
   have e : BA (AC r.1.Kids) 1 = (k : Int) := by rw [BT (by simp only [AC]; omega) (by simp only [AC]; have := bsz r.1; omega)]; simp only [AC]; omega
   rw [CO, e, Eg (by omega), if_neg Bool.false_ne_true]
   exact j6 k r hz hc (by omega)
  | succ m ih =>
   intro k r hz hc hk
   have hb := bsz r.1
   rw [CO]
   refine AT.ite (fun _ => ?_) fun _ => j6 k r hz hc (by omega)
   refine (AT.getI (by omega) (by omega)).bnd fun x _ => AT.ite (fun _ => ?_) fun _ => j6 k r hz hc (by omega)
   have e : AP (k : Int) 1 = ((k + 1 : Nat) : Int) := by rw [Al (by omega) (by omega)]; omega
   rw [e]
   exact ih (k + 1) r hz hc (by omega)
 rw [FR]
 refine (XQ (fun n => n.Kids ≠ []) pT (by intro h; cases h) c h).bnd fun r hr => ?_
 have hk : 0 < r.1.Kids.length := List.length_pos_iff.2 hr.2.2
 exact l8 (r.1.Kids.length - 1) 0 r hr.1 hr.2.1 (by omega)
end TT
