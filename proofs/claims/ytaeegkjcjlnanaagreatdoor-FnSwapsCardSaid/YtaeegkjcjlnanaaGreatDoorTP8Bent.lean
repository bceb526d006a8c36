import Derived.Test.YtaeegkjcjlnanaaGreatDoorTP3Merge
set_option linter.unusedVariables false
set_option linter.unusedSimpArgs false
namespace TT
open Go
theorem A1D {a : Int} {n : Nat} (h0 : 0 ≤ a) (h1 : a < n ∨ a = 0) (hn : 0 < n) : ∃ k : Nat, a = k ∧ k < n := ⟨a.toNat, by omega, by omega⟩
theorem XB (a b : ByteArray) : (a ++ b).size = a.size + b.size := by simp
theorem iQ {x y : ByteArray} (h : x.size + y.size ≤ 1000000) : Y1 x y = some (x ++ y) := by
 unfold Y1
 rw [if_pos (by omega)]
theorem uA (a b : Int) : SZ a b = !Al a b := by simp [SZ, Al, bne]
theorem f8 : ∀ (m : Nat) (s : ByteArray) (c : A2), FV c → s.size ≤ 601 → 601 - s.size ≤ m → AQ (DO s c) fun r => r.1.size ≤ 601 ∧ FV r.2
 | 0, s, c, hc, h1, h2 => by
  rw [DO]
  refine (Pj c hc _ (by decide)).bnd fun r hr => ?_
  have hv : r.1 = 600 ∨ r.1 = 601 := by simpa using hr.1
  rw [Fd (by simp only [AU]; omega), if_neg Bool.false_ne_true]
  exact AQ.ret ⟨h1, hr.2⟩
 | m + 1, s, c, hc, h1, h2 => by
  rw [DO]
  refine (Pj c hc _ (by decide)).bnd fun r hr => ?_
  have hv : r.1 = 600 ∨ r.1 = 601 := by simpa using hr.1
  by_cases h : (s.size : Int) < r.1
  ·rw [Qb (by simp only [AU]; exact h), if_pos rfl, iQ (by show s.size + 1 ≤ _; omega)]
   have e : (s ++ (⟨#[120]⟩ : ByteArray)).size = s.size + 1 := XB s ⟨#[120]⟩
   exact f8 m _ _ hr.2 (by rw [e]; omega) (by rw [e]; omega)
  ·rw [Fd (by simp only [AU]; exact h), if_neg Bool.false_ne_true]
   exact AQ.ret ⟨h1, hr.2⟩
theorem kg : ∀ (k : Nat) (s : ByteArray) (c : A2), FV c → s.size + 4 * k ≤ 100 → AQ (E2 s (k : Int) c) fun r => r.1.size ≤ 601 ∧ FV r.2
 | 0, s, c, hc, h => by
  rw [E2, Pg (by omega), if_neg Bool.false_ne_true]
  refine (E9 c hc 40).bnd fun r hr => AQ.ite (fun _ => ?_) fun _ => AQ.ret ⟨by show s.size ≤ 601; omega, hr⟩
  exact f8 601 s _ hr (by omega) (by omega)
 | k + 1, s, c, hc, h => by
  rw [E2, Lp (by omega), if_pos rfl]
  refine (As c hc _ (by decide)).bnd fun r hr => ?_
  have hz : r.1.size ≤ 4 := DE hr.1 (by decide)
  rw [iQ (by omega)]
  have e := XB s r.1
  have ek : BE ((k + 1 : Nat) : Int) 1 = (k : Int) := by
   by_cases hk : k < 1000
   ·rw [Bw (by omega) (by omega)]; omega
   ·omega
  rw [ek]
  exact kg k _ _ hr.2 (by rw [e]; omega)
theorem f9 (c : A2) (hc : FV c) : AQ (ID c) fun r => r.1.size ≤ 601 ∧ FV r.2 := by
 rw [ID]
 refine (C1 c hc 4).bnd fun r hr => ?_
 obtain ⟨k, e, hk⟩ := A1D (n := 4) hr.1 hr.2.1 (by decide)
 rw [e]
 exact kg k _ _ hr.2.2 (by show 0 + 4 * k ≤ 100; omega)
theorem pu (c : A2) (hc : FV c) : AQ (Nh c) fun r => r.1.size ≤ 100 ∧ FV r.2 := by
 rw [Nh]
 refine (E9 c hc 2).bnd fun r hr => AQ.ite (fun _ => ?_) fun _ => (As _ hr _ (by decide)).bnd fun x hx => AQ.ret ⟨DE hx.1 (by decide), hx.2⟩
 rw [OK]
 exact ((As _ hr _ (by decide)).bnd (Q := fun r => r.1.size ≤ 100 ∧ FV r.2) fun x hx => AQ.ret ⟨DE hx.1 (by decide), hx.2⟩).bnd fun x hx => AQ.ret ⟨hx.1, hx.2⟩
theorem pv (c : A2) (hc : FV c) : AQ (Ni c) fun r => (r.1.length + szs A1.sz r.1 ≤ 500) ∧ FV r.2 := by
 rw [Ni]
 refine (aY c hc).bnd fun l hl => (C1 _ hl.2 8).bnd fun k hk => ?_
 have h1 := hl.1.len
 have h2 := hl.1.sz
 have ds : ∀ d : A1, d.sz = d.Pre.size + d.Uri.size := fun d => rfl
 have ap : ∀ (a b : List A1), szs A1.sz (a ++ b) = szs A1.sz a + szs A1.sz b := fun a b => by simp [szs]
 have one : ∀ d : A1, szs A1.sz [d] = d.sz := fun d => by simp [szs]
 refine AQ.ite (fun _ => ?_) fun _ => AQ.ite (fun _ => ?_) fun _ => AQ.ite (fun _ => ?_) fun _ => AQ.ret ⟨by show l.1.length + szs A1.sz l.1 ≤ 500; omega, hk.2.2⟩
 ·refine (As _ hk.2.2 _ (by decide)).bnd fun x hx => (As _ hx.2 _ (by decide)).bnd fun y hy => (AQ.room (by omega)).bnd fun _ _ => AQ.ret ⟨?_, hy.2⟩
  have a1 : x.1.size ≤ 10 := DE hx.1 (by decide)
  have a2 : y.1.size ≤ 10 := DE hy.1 (by decide)
  show (_ ++ [_]).length + _ ≤ _
  rw [ap, one, ds, List.length_append, List.length_singleton]
  show _ + (_ + (x.1.size + y.1.size)) ≤ _
  omega
 ·refine (UW _ hk.2.2).bnd fun x hx => (UW _ hx.2).bnd fun y hy => (AQ.room (by omega)).bnd fun _ _ => AQ.ret ⟨?_, hy.2⟩
  have a1 := hx.1
  have a2 := hy.1
  show ((_ ++ [_]) ++ [_]).length + _ ≤ _
  rw [ap, ap, one, one, ds, ds, List.length_append, List.length_append, List.length_singleton, List.length_singleton]
  omega
 ·refine (As _ hk.2.2 _ (by decide)).bnd fun x hx => (AQ.room (by omega)).bnd fun _ _ => AQ.ret ⟨?_, hx.2⟩
  have a1 : x.1.size ≤ 50 := DE hx.1 (by decide)
  show (((_ ++ [_]) ++ [_]) ++ [_]).length + _ ≤ _
  rw [ap, ap, ap, one, one, one, ds, ds, ds, List.length_append, List.length_append, List.length_append, List.length_singleton, List.length_singleton, List.length_singleton]
  show _ + (_ + (1 + x.1.size) + (1 + 1) + (1 + 1)) ≤ _
  omega
theorem b8 : ∀ (l : List A0) (k : Nat) (x y : A0), l[k]? = some x → szs A0.sz (l.set k y) + x.sz = szs A0.sz l + y.sz
 | [], k, x, y, h => by simp at h
 | z :: l, 0, x, y, h => by simp at h; subst h; rw [List.set_cons_zero, CY, CY]; omega
 | z :: l, k + 1, x, y, h => by
  have ih := b8 l k x y (by simpa using h)
  rw [List.set_cons_succ, CY, CY]; omega
theorem bsz (n : A0) : n.sz = n.Pre.size + (n.Local.size + (n.Uri.size + ((n.Decls.length + szs A1.sz n.Decls) + ((n.Attrs.length + szs A4.sz n.Attrs) + ((n.Kids.length + szs A0.sz n.Kids) + n.Text.size))))) := A0.sz_eq n
theorem Vu (a b : List A0) : szs A0.sz (a ++ b) = szs A0.sz a + szs A0.sz b := by simp [szs]
theorem Vv (x : A0) : szs A0.sz [x] = x.sz := by simp [szs]
theorem pw (n : A0) (hs : n.sz ≤ 3000) (h : Bz n = some true) : n.Kids ≠ [] := by
 intro hk
 rw [Bz] at h
 by_cases h0 : Al n.Kind 0 = true
 ·rw [if_pos h0, CG] at h
  obtain ⟨c, hc⟩ : ∃ c, C7 n = some c := by
   cases e : C7 n with
   | none => rw [e] at h; cases h
   | some c => exact ⟨c, rfl⟩
  rw [hc] at h
  simp only [A3, uA, h0, Bool.not_true, Bool.false_eq_true, if_false] at h
  have e : AP 0 0 n = some false := by
   rw [AP, hk]
   rfl
  rw [e] at h
  by_cases g : NN c 60 = true
  ·rw [if_pos g] at h; cases h
  ·rw [if_neg g] at h; cases h
 ·rw [if_neg h0] at h; cases h
theorem fA (k : Nat) (r : A0 × A2) (hz : r.1.sz ≤ 3000) : ∀ (m i : Nat) (c : A2) (l : List A0), FV c → i + m = 7 → k < l.length → l.length = r.1.Kids.length → szs A0.sz l ≤ szs A0.sz r.1.Kids + 2 * i → AQ (Ck (k : Nat) (i : Nat) c r l) fun r => r.1.sz ≤ 20000 ∧ FV r.2
 | m, i, c, l, hc, hi, hk, hl, hs => by
  rw [Ck]
  refine (Pj c hc _ (by decide)).bnd fun b hb => ?_
  have hv : b.1 = 6 ∨ b.1 = 7 := by simpa using hb.1
  have fin : AQ (some ((A0.mk r.1.Kind r.1.Pre r.1.Local r.1.Uri r.1.Decls r.1.Attrs l r.1.Text), b.2)) fun r => r.1.sz ≤ 20000 ∧ FV r.2 := by
   refine AQ.ret ⟨?_, hb.2⟩
   have h1 := bsz r.1
   have h2 := bsz (A0.mk r.1.Kind r.1.Pre r.1.Local r.1.Uri r.1.Decls r.1.Attrs l r.1.Text)
   show (A0.mk r.1.Kind r.1.Pre r.1.Local r.1.Uri r.1.Decls r.1.Attrs l r.1.Text).sz ≤ _
   dsimp only at h2
   omega
  refine AQ.ite (fun h => ?_) fun _ => fin
  cases m with
  | zero =>
   have := of_decide_eq_true h
   omega
  | succ m =>
   refine (AQ.getI (l := l) (i := (k : Int)) (by omega) (by omega)).bnd fun x hx => ?_
   refine (AQ.getI (l := l) (i := (k : Int)) (by omega) (by omega)).bnd fun _ _ => ?_
   have e : AY (i : Int) 1 = ((i + 1 : Nat) : Int) := by rw [Af (by omega) (by omega)]; omega
   rw [e]
   have hx2 : l[k]? = some x := by simpa using hx.2
   have hset := b8 l k x (A0.mk 1 (⟨#[]⟩) (⟨#[100]⟩) (⟨#[]⟩) [] [] [x] (⟨#[]⟩)) hx2
   have hb' := bsz (A0.mk 1 (⟨#[]⟩) (⟨#[100]⟩) (⟨#[]⟩) [] [] [x] (⟨#[]⟩))
   have hb2 : (A0.mk 1 (⟨#[]⟩) (⟨#[100]⟩) (⟨#[]⟩) [] [] [x] (⟨#[]⟩)).sz = x.sz + 2 := by
    rw [hb']
    show 0 + (1 + (0 + ((0 + 0) + ((0 + 0) + ((1 + szs A0.sz [x]) + 0))))) = _
    rw [Vv]; omega
   refine fA k r hz m (i + 1) _ _ hb.2 (by omega) (by rw [List.length_set]; exact hk) (by rw [List.length_set]; exact hl) ?_
   show szs A0.sz (l.set k _) ≤ _
   omega
theorem nB (c : A2) (h : FV c) : AQ (Fb c) fun r => r.1.sz ≤ 20000 ∧ FV r.2 := by
 have j6 : ∀ (k : Nat) (r : A0 × A2), r.1.sz ≤ 3000 → FV r.2 → k < r.1.Kids.length → AQ (DC (k : Nat) r) fun r => r.1.sz ≤ 20000 ∧ FV r.2 := by
  intro k r hz hc hk
  have hb := bsz r.1
  have getK : AQ (getI r.1.Kids (k : Int)) fun x => x.sz ≤ 3000 ∧ r.1.Kids[k]? = some x := (AQ.getI (l := r.1.Kids) (i := (k : Int)) (by omega) (by omega)).mono fun x hx => ⟨by have := CB A0.sz hx.1; omega, by simpa using hx.2⟩
  have put : ∀ (x y : A0) (c : A2), x.sz ≤ 3000 → r.1.Kids[k]? = some x → y.sz ≤ 10000 → FV c → AQ (some ((A0.mk r.1.Kind r.1.Pre r.1.Local r.1.Uri r.1.Decls r.1.Attrs (r.1.Kids.set (Int.toNat (k : Int)) y) r.1.Text), c)) fun r => r.1.sz ≤ 20000 ∧ FV r.2 := by
   intro x y c hx hg hy hc
   refine AQ.ret ⟨?_, hc⟩
   have h2 := bsz (A0.mk r.1.Kind r.1.Pre r.1.Local r.1.Uri r.1.Decls r.1.Attrs (r.1.Kids.set k y) r.1.Text)
   have h3 := b8 r.1.Kids k x y hg
   show (A0.mk r.1.Kind r.1.Pre r.1.Local r.1.Uri r.1.Decls r.1.Attrs (r.1.Kids.set k y) r.1.Text).sz ≤ _
   dsimp only at h2
   rw [List.length_set] at h2
   omega
  have kin : ∀ (ks : List A0) (c : A2), ks.length + szs A0.sz ks ≤ 10000 → FV c → AQ (some ((A0.mk r.1.Kind r.1.Pre r.1.Local r.1.Uri r.1.Decls r.1.Attrs ks r.1.Text), c)) fun r => r.1.sz ≤ 20000 ∧ FV r.2 := by
   intro ks c hks hc
   refine AQ.ret ⟨?_, hc⟩
   have h2 := bsz (A0.mk r.1.Kind r.1.Pre r.1.Local r.1.Uri r.1.Decls r.1.Attrs ks r.1.Text)
   show (A0.mk r.1.Kind r.1.Pre r.1.Local r.1.Uri r.1.Decls r.1.Attrs ks r.1.Text).sz ≤ _
   dsimp only at h2
   omega
  have kadd : ∀ (x : A0) (kd : Int) (lo tx : ByteArray), x.sz ≤ 3000 → lo.size ≤ 100 → tx.size ≤ 1000 → (A0.mk x.Kind x.Pre x.Local x.Uri x.Decls x.Attrs (x.Kids ++ [(A0.mk kd (⟨#[]⟩) lo (⟨#[]⟩) [] [] [] tx)]) x.Text).sz ≤ 10000 := by
   intro x kd lo tx hx hlo htx
   have h1 := bsz x
   have h2 := bsz (A0.mk kd (⟨#[]⟩) lo (⟨#[]⟩) [] [] [] tx)
   have h3 := bsz (A0.mk x.Kind x.Pre x.Local x.Uri x.Decls x.Attrs (x.Kids ++ [(A0.mk kd (⟨#[]⟩) lo (⟨#[]⟩) [] [] [] tx)]) x.Text)
   have h4 : (A0.mk kd (⟨#[]⟩) lo (⟨#[]⟩) [] [] [] tx).sz = lo.size + tx.size := by
    rw [h2]
    show 0 + (lo.size + (0 + ((0 + 0) + ((0 + 0) + ((0 + 0) + tx.size))))) = _
    omega
   dsimp only at h3
   rw [Vu, Vv, List.length_append, List.length_singleton, h4] at h3
   omega
  rw [DC]
  refine (C1 _ hc 24).bnd fun a ha => ?_
  have ca := ha.2.2
  refine AQ.ite (fun _ => (Pj _ ca _ (by decide)).bnd fun b hb' => AQ.ret ⟨?_, hb'.2⟩) fun _ => ?_
  ·have h2 := bsz (A0.mk b.1 r.1.Pre r.1.Local r.1.Uri r.1.Decls r.1.Attrs r.1.Kids r.1.Text)
   show (A0.mk b.1 r.1.Pre r.1.Local r.1.Uri r.1.Decls r.1.Attrs r.1.Kids r.1.Text).sz ≤ _
   dsimp only at h2
   omega
  refine AQ.ite (fun _ => (As _ ca _ (by decide)).bnd fun b hb' => getK.bnd fun x hx => put x _ _ hx.1 hx.2 ?_ hb'.2) fun _ => ?_
  ·have h1 : b.1.size ≤ 10 := DE hb'.1 (by decide)
   have h3 := hx.1
   have h2 := bsz x
   have h4 := bsz (A0.mk x.Kind b.1 x.Local x.Uri x.Decls x.Attrs x.Kids x.Text)
   dsimp only at h4
   omega
  refine AQ.ite (fun _ => (pu _ ca).bnd fun b hb' => getK.bnd fun x hx => put x _ _ hx.1 hx.2 ?_ hb'.2) fun _ => ?_
  ·have h1 := hb'.1
   have h3 := hx.1
   have h2 := bsz x
   have h4 := bsz (A0.mk x.Kind x.Pre b.1 x.Uri x.Decls x.Attrs x.Kids x.Text)
   dsimp only at h4
   omega
  refine AQ.ite (fun _ => (ed _ ca).bnd fun b hb' => getK.bnd fun x hx => put x _ _ hx.1 hx.2 ?_ hb'.2) fun _ => ?_
  ·have h1 := hb'.1
   have h3 := hx.1
   have h2 := bsz x
   have h4 := bsz (A0.mk x.Kind x.Pre x.Local b.1 x.Decls x.Attrs x.Kids x.Text)
   dsimp only at h4
   omega
  refine AQ.ite (fun _ => (pv _ ca).bnd fun b hb' => getK.bnd fun x hx => put x _ _ hx.1 hx.2 ?_ hb'.2) fun _ => ?_
  ·have h1 := hb'.1
   have h3 := hx.1
   have h2 := bsz x
   have h4 := bsz (A0.mk x.Kind x.Pre x.Local x.Uri b.1 x.Attrs x.Kids x.Text)
   dsimp only at h4
   omega
  refine AQ.ite (fun _ => getK.bnd fun x hx => (As _ ca _ (by decide)).bnd fun b1 g1 => (As _ g1.2 _ (by decide)).bnd fun b2 g2 => (As _ g2.2 _ (by decide)).bnd fun b3 g3 => (f9 _ g3.2).bnd fun b4 g4 => ?_) fun _ => ?_
  ·have h3 := hx.1
   have h2 := bsz x
   refine (AQ.room (by omega)).bnd fun _ _ => getK.bnd fun x' hx' => ?_
   have ee : x' = x := by have := hx'.2; rw [hx.2] at this; exact (Option.some.inj this).symm
   subst ee
   refine put x' _ _ hx.1 hx.2 ?_ g4.2
   have k1 : b1.1.size ≤ 10 := DE g1.1 (by decide)
   have k2 : b2.1.size ≤ 10 := DE g2.1 (by decide)
   have k3 : b3.1.size ≤ 10 := DE g3.1 (by decide)
   have k4 := g4.1
   have h4 := bsz (A0.mk x'.Kind x'.Pre x'.Local x'.Uri x'.Decls (x'.Attrs ++ [A4.mk b1.1 b2.1 b3.1 b4.1]) x'.Kids x'.Text)
   have h5 : szs A4.sz (x'.Attrs ++ [A4.mk b1.1 b2.1 b3.1 b4.1]) = szs A4.sz x'.Attrs + (A4.mk b1.1 b2.1 b3.1 b4.1).sz := by simp [szs]
   have h6 : (A4.mk b1.1 b2.1 b3.1 b4.1).sz = b1.1.size + (b2.1.size + (b3.1.size + b4.1.size)) := rfl
   dsimp only at h4
   rw [h5, h6, List.length_append, List.length_singleton] at h4
   omega
  refine AQ.ite (fun _ => getK.bnd fun x hx => (f9 _ ca).bnd fun b g => ?_) fun _ => ?_
  ·have h3 := hx.1
   have h2 := bsz x
   refine (AQ.room (by omega)).bnd fun _ _ => getK.bnd fun x' hx' => ?_
   have ee : x' = x := by have := hx'.2; rw [hx.2] at this; exact (Option.some.inj this).symm
   subst ee
   exact put x' _ _ hx.1 hx.2 (kadd x' _ _ _ hx.1 (by decide) (by have := g.1; omega)) g.2
  refine AQ.ite (fun _ => getK.bnd fun x hx => (As _ ca _ (by decide)).bnd fun b g => ?_) fun _ => ?_
  ·have h3 := hx.1
   have h2 := bsz x
   refine (AQ.room (by omega)).bnd fun _ _ => getK.bnd fun x' hx' => ?_
   have ee : x' = x := by have := hx'.2; rw [hx.2] at this; exact (Option.some.inj this).symm
   subst ee
   have k1 : b.1.size ≤ 10 := DE g.1 (by decide)
   exact put x' _ _ hx.1 hx.2 (kadd x' _ _ _ hx.1 (by decide) (by omega)) g.2
  refine AQ.ite (fun _ => getK.bnd fun x hx => (As _ ca _ (by decide)).bnd fun b g => (As _ g.2 _ (by decide)).bnd fun b2 g2 => ?_) fun _ => ?_
  ·have h3 := hx.1
   have h2 := bsz x
   refine (AQ.room (by omega)).bnd fun _ _ => getK.bnd fun x' hx' => ?_
   have ee : x' = x := by have := hx'.2; rw [hx.2] at this; exact (Option.some.inj this).symm
   subst ee
   have k1 : b.1.size ≤ 10 := DE g.1 (by decide)
   have k2 : b2.1.size ≤ 10 := DE g2.1 (by decide)
   exact put x' _ _ hx.1 hx.2 (kadd x' _ _ _ hx.1 (by omega) (by omega)) g2.2
  refine AQ.ite (fun _ => getK.bnd fun x hx => (AQ.room (by show _ + 1 ≤ _; omega)).bnd fun _ _ => kin _ _ ?_ ca) fun _ => ?_
  ·have h3 := hx.1
   rw [Vu, Vv, List.length_append, List.length_singleton]
   omega
  refine AQ.ite (fun _ => (AQ.room (by omega)).bnd fun _ _ => kin _ _ ?_ ca) fun _ => ?_
  ·have h4 : (A0.mk 2 (⟨#[]⟩) (⟨#[]⟩) (⟨#[]⟩) [] [] [] (⟨#[32]⟩)).sz = 1 := by rw [bsz]; rfl
   rw [Vu, Vv, List.length_append, List.length_singleton, h4]
   omega
  refine AQ.ite (fun _ => ?_) fun _ => ?_
  ·have e : slL r.1.Kids 0 (k : Int) = some (r.1.Kids.take k) := by
    unfold slL
    rw [if_pos ⟨by omega, by omega, by omega⟩]
    simp
   rw [e]
   refine kin _ _ ?_ ca
   have h1 : szs A0.sz (r.1.Kids.take k) + szs A0.sz (r.1.Kids.drop k) = szs A0.sz r.1.Kids := by rw [← Vu, List.take_append_drop]
   rw [List.length_take]
   omega
  exact AQ.ite (fun _ => fA k r hz 7 0 _ _ ca rfl hk rfl (Nat.le_refl _)) fun _ => AQ.ret ⟨by show r.1.sz ≤ 20000; omega, ca⟩
 have l8 : ∀ (m k : Nat) (r : A0 × A2), r.1.sz ≤ 3000 → FV r.2 → k + 1 + m = r.1.Kids.length → AQ (CV (k : Nat) r) fun r => r.1.sz ≤ 20000 ∧ FV r.2 := by
  intro m
  induction m with
  | zero =>
   intro k r hz hc hk
   have e : BE (A8 r.1.Kids) 1 = (k : Int) := by rw [Bw (by simp only [A8]; omega) (by simp only [A8]; have := bsz r.1; omega)]; simp only [A8]; omega
   rw [CV, e, Fd (by omega), if_neg Bool.false_ne_true]
   exact j6 k r hz hc (by omega)
  | succ m ih =>
   intro k r hz hc hk
   have hb := bsz r.1
   rw [CV]
   refine AQ.ite (fun _ => ?_) fun _ => j6 k r hz hc (by omega)
   refine (AQ.getI (by omega) (by omega)).bnd fun x _ => AQ.ite (fun _ => ?_) fun _ => j6 k r hz hc (by omega)
   have e : AY (k : Int) 1 = ((k + 1 : Nat) : Int) := by rw [Af (by omega) (by omega)]; omega
   rw [e]
   exact ih (k + 1) r hz hc (by omega)
 rw [Fb]
 refine (Xq (fun n => n.Kids ≠ []) pw (by intro h; cases h) c h).bnd fun r hr => ?_
 have hk : 0 < r.1.Kids.length := List.length_pos_iff.2 hr.2.2
 exact l8 (r.1.Kids.length - 1) 0 r hr.1 hr.2.1 (by omega)
end TT
