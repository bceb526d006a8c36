import Derived.Test.YtaeegkjcjlnanaaGreatDoorTP8Walk
import Derived.Test.YtaeegkjcjlnanaaGreatDoorTP2WalkOk
import Derived.Test.YtaeegkjcjlnanaaGreatDoorTP3Same
set_option linter.unusedVariables false
set_option linter.unusedSimpArgs false
namespace TT
open Go
theorem Z5 (x : A0) (hs : x.sz ≤ 1048576) (h1 : Al x.Kind 1 = false) (d : Nat) : pB d x = OT x ∧ AW x d = some (OT x) := by
 obtain ⟨l1, l2⟩ := n7 x (by omega) h1
 have e : AW x d = some (OT x) := by rw [AW, Fm, h1, l2]; rfl
 exact ⟨by rw [pB, e]; rfl, e⟩
theorem uB (x : A0) (hs : x.sz ≤ 1048576) (h1 : Al x.Kind 1 = true) (d : Nat) (hd : d < 7) : pB d x = (elB x && IL ((d + 1 : Nat) : Int) x.Kids) ∧ AW x d = some (elB x && IL ((d + 1 : Nat) : Int) x.Kids) := by
 obtain ⟨e1, e2⟩ := A02 x (by omega) h1
 have hadd : AY (d : Int) 1 = ((d + 1 : Nat) : Int) := by rw [Af (by omega) (by omega)]; omega
 have e3 := e2 d _ (Pf (by omega)) (by rw [hadd]; exact X6 x hs (d + 1) (by omega))
 exact ⟨by rw [pB, e3]; rfl, e3⟩
theorem xP (x : A0) (h1 : Al x.Kind 1 = true) : pB ((7 : Nat) : Int) x = false := by rw [pB, AW, Fm, h1]; rfl
theorem xQ : ∀ x : A0, x.sz ≤ 1048576 → ∀ d e : Nat, e ≤ d → d ≤ 7 → pB d x = true → pB e x = true := by
 refine A0.ind' fun x ih hs d e hed hd h => ?_
 cases h1 : Al x.Kind 1 with
 | false => rw [(Z5 x hs h1 e).1]; rw [(Z5 x hs h1 d).1] at h; exact h
 | true =>
  by_cases h7 : d = 7
  ·subst h7; rw [xP x h1] at h; cases h
  ·rw [(uB x hs h1 d (by omega)).1, Bool.and_eq_true, IL, Bool.and_eq_true] at h
   rw [(uB x hs h1 e (by omega)).1, Bool.and_eq_true, IL, Bool.and_eq_true]
   refine ⟨h.1, h.2.1, List.all_eq_true.2 fun k hk => ?_⟩
   have hz := A0.sz_eq x
   have := CB A0.sz hk
   exact ih k hk (by omega) (d + 1) (e + 1) (by omega) (by omega) (List.all_eq_true.1 h.2.2 k hk)
theorem pz {x : A0} (h1 : Al x.Kind 1 = false) (h : OT x = true) : x.Kind ≠ 0 := by
 intro h0
 have hj : E7 x = some false := by
  rw [E7, DJ (by omega), DJ (by omega), DJ (by omega)]
  rfl
 have hn : Al x.Kind 4 = false := DJ (by omega)
 have : Di x = some false := by
  rw [Di]
  simp only [hj, hn, Fm]
  split
  ·rfl
  split
  ·rfl
  split
  ·rfl
  split
  ·rfl
  ·simp
 rw [OT, this] at h
 cases h
theorem nn : ∀ (p : List Int) {t y : A0} {d : Nat}, t.sz ≤ 1048576 → d ≤ 7 → pB d t = true → BA t p = some y → ∃ e : Nat, e ≤ 7 ∧ pB e y = true
 | [], t, y, d, hs, hd, h, hy => by
  have : t = y := Option.some.inj hy
  subst this
  exact ⟨d, hd, h⟩
 | i :: p, t, y, d, hs, hd, h, hy => by
  obtain ⟨k, h1, h2⟩ := Option.bind_eq_some_iff.1 hy
  obtain ⟨g1, g2, g3⟩ := tw hs hd h h1
  exact nn p (Nat.le_trans (UV h1) hs) g2 g3 h2
theorem A06 {x k : A0} (h : k ∈ x.Kids) : cw (Ua k) ≤ cw (Ua x) := by
 have key : ∀ l : List A0, k ∈ l → cw (Ua k) ≤ cw (iN l) := by
  intro l
  induction l with
  | nil => intro h; cases h
  | cons z l ih =>
   intro h
   rw [iN, X9]
   rcases List.mem_cons.1 h with h | h
   ·subst h; omega
   ·have := ih h; omega
 rw [iO x, iP]
 have := key _ h
 omega
theorem xp : ∀ (p : List Int) {t y : A0}, BA t p = some y → cw (Ua y) ≤ cw (Ua t)
 | [], t, y, hy => by
  have : t = y := Option.some.inj hy
  subst this
  exact Nat.le_refl _
 | i :: p, t, y, hy => by
  obtain ⟨k, h1, h2⟩ := Option.bind_eq_some_iff.1 hy
  exact Nat.le_trans (xp p h2) (A06 (S6 h1))
theorem xR {t y : A0} {i : Int} {p : List Int} (hs : t.sz ≤ 1048576) (hB : O8 t = true) (hy : BA t (i :: p) = some y) : Pr y = true := by
 obtain ⟨k, h1, h2⟩ := Option.bind_eq_some_iff.1 hy
 obtain ⟨g0, g1⟩ := tz hs hB h1
 have hk := Nat.le_trans (UV h1) hs
 obtain ⟨e, he, hp⟩ := nn p hk (by omega) g1 h2
 have hys : y.sz ≤ 1048576 := Nat.le_trans (KZ p h2) hk
 have hp0 := xQ y hys e 0 (by omega) he hp
 have ht : cw (Ua t) ≤ 60 := by
  rw [O8, Bool.and_eq_true, Bool.and_eq_true] at hB
  have hn := (UZ t hs).2
  rw [hB.2.1, Dk, kc t hs] at hn
  simp only [A3] at hn
  by_cases h : (60 : Int) < ((cw (Ua t) : Nat) : Int)
  ·rw [Lp (by omega), if_pos rfl] at hn; cases hn
  ·omega
 have hc := xp (i :: p) hy
 have hkind : y.Kind ≠ 0 := by
  cases h : Al y.Kind 1 with
  | true => have := LX.1 h; omega
  | false => exact pz h (by rw [← (Z5 y hys h 0).1]; exact hp0)
 have hpart : AW y 0 = some true := by
  cases h : Al y.Kind 1 with
  | true =>
   have h3 := uB y hys h 0 (by omega)
   have h4 : AW y 0 = _ := h3.2
   rw [h4, ← h3.1, hp0]
  | false =>
   have h3 := Z5 y hys h 0
   have h4 : AW y 0 = _ := h3.2
   rw [h4, ← h3.1, hp0]
 rw [Pr, Dk, kc y hys]
 simp only [A3]
 rw [Pg (by omega), Fm, DJ hkind, hpart]
 rfl
theorem bA : ∀ (a b : List A0) (t : Bool) (y n : A0), n.Kind = y.Kind → (n.Kind = 2 → n.Text ≠ ⟨#[]⟩) → I4 t (a ++ y :: b) = true → I4 t (a ++ n :: b) = true
 | [], b, t, y, n, hk, ht, h => by
  simp only [List.nil_append, I4, Bool.and_eq_true] at h ⊢
  rw [hk]
  refine ⟨?_, h.2⟩
  have h1 := h.1
  by_cases h2 : y.Kind = 2
  ·rw [if_pos h2] at h1 ⊢
   rw [Bool.and_eq_true] at h1 ⊢
   exact ⟨h1.1, by simpa using ht (by omega)⟩
  ·rw [if_neg h2]
 | z :: a, b, t, y, n, hk, ht, h => by
  simp only [List.cons_append, I4, Bool.and_eq_true] at h ⊢
  exact ⟨h.1, bA a b _ y n hk ht h.2⟩
theorem q7 {n : A0} (hs : n.sz ≤ 1048576) (hn : Pr n = true) (hk : n.Kind = 2) : n.Text ≠ ⟨#[]⟩ := by
 have h := (UZ n hs).1
 rw [hn, CG, (iM n hs).choose_spec.1] at h
 simp only [A3, Fm, DJ (show n.Kind ≠ 0 by omega), Bool.not_false, if_true] at h
 split at h
 ·cases h
 ·have h5 : Ab [n] 0 = some true := by
   cases e : Ab [n] 0 with
   | none => rw [e] at h; cases h
   | some b => rw [e] at h; exact h
  rw [Ab, Ah] at h5
  have h6 : (By n >>= fun r2 => if r2 then (if (Al n.Kind 2) then Aw [n] 0 0 n else Aw [n] 0 0 n) else some false) = some true := by
   have e : Jw 0 (A8 [n]) = true := rfl
   rw [e] at h5
   exact h5
  exact (aZ n (NQ h6).1 (by omega)).2 hk
theorem iR (code : List Int) (hl : code.length ≤ 1048576) : AQ (HK code) fun r => r.1.Tre.sz ≤ 20000 ∧ r.1.Path.length ≤ 20001 ∧ r.2.sz ≤ 30000 := by
 rw [HK]
 refine (pT code hl).bnd fun c hc => (nE c hc).bnd fun w hw => ?_
 have hs := hw.1
 have hp := hw.2.1
 have na : AQ (EU w.1.Tre w.1.Path) fun r => r.1.sz ≤ 20000 := by
  refine ⟨_, Lq _ _ (by omega) (by omega), ?_⟩
  rw [CJ]
  split
  ·rename_i x hx
   have := KZ _ hx
   show x.sz ≤ _
   omega
  ·show A0.sz aP ≤ _
   rw [aP, A0.sz_eq]; decide
 refine na.bnd fun y hy => (C1 _ hw.2.2 4).bnd fun b hb => ?_
 have hyz := bsz y.1
 refine AQ.ite (fun _ => (As _ hb.2.2 _ (by decide)).bnd fun s hs' => AQ.ret ⟨hs, hp, ?_⟩) fun _ => AQ.ite (fun _ => (As _ hb.2.2 _ (by decide)).bnd fun s hs' => ?_) fun _ => AQ.ite (fun _ => (kf _ hb.2.2).bnd fun s hs' => AQ.ite (fun h => ?_) fun _ => AQ.ret ⟨hs, hp, by show y.1.sz ≤ _; omega⟩) fun _ => AQ.ret ⟨hs, hp, by show y.1.sz ≤ _; omega⟩
 ·have h1 : s.1.size ≤ 10 := DE hs'.1 (by decide)
  have h4 := bsz (A0.mk y.1.Kind y.1.Pre s.1 y.1.Uri y.1.Decls y.1.Attrs y.1.Kids y.1.Text)
  show (A0.mk y.1.Kind y.1.Pre s.1 y.1.Uri y.1.Decls y.1.Attrs y.1.Kids y.1.Text).sz ≤ _
  dsimp only at h4
  omega
 ·have h1 : s.1.size ≤ 10 := DE hs'.1 (by decide)
  rw [iQ (by omega)]
  refine AQ.ret ⟨hs, hp, ?_⟩
  have h4 := bsz (A0.mk y.1.Kind y.1.Pre y.1.Local y.1.Uri y.1.Decls y.1.Attrs y.1.Kids (y.1.Text ++ s.1))
  have h5 := XB y.1.Text s.1
  show (A0.mk y.1.Kind y.1.Pre y.1.Local y.1.Uri y.1.Decls y.1.Attrs y.1.Kids (y.1.Text ++ s.1)).sz ≤ _
  dsimp only at h4
  omega
 ·have h0 := of_decide_eq_true h
  refine (AQ.getI (l := s.1) (i := 0) (by omega) (by simp only [A8] at h0; omega)).bnd fun x hx => AQ.ret ⟨hs, hp, ?_⟩
  have h1 := CB A0.sz hx.1
  have h2 : s.1.length + szs A0.sz s.1 ≤ 2000 := hs'.1
  show x.sz ≤ _
  omega
theorem q8 (w : AJ) (n : A0) (hs : w.Tre.sz ≤ 20000) (hp : w.Path.length ≤ 20001) (hn : n.sz ≤ 30000) (r : AJ × Bool) (hr : FS w n = some r) : (r.2 = false → r.1 = w) ∧
  (r.2 = true → r.1.Tre.sz ≤ 100000 ∧ ∃ y, D5 w = some y ∧ FS r.1 y = some (w, true) ∧ Cp r.1 = some true ∧ D5 r.1 = some n) := by
 have c := ki w (by omega) (by omega)
 rw [FS, c, nC w (by omega) (by omega)] at hr
 simp only [A3] at hr
 cases hw : kh w with
 | false =>
  rw [hw] at hr
  cases hr
  exact ⟨fun _ => rfl, fun h => by cases h⟩
 | true =>
  obtain ⟨⟨y, hy⟩, hB⟩ := A04 hw
  have hhere : D5 w = some y := by
   rw [D5, nC w (by omega) (by omega), hw, Gd _ _ (by omega) (by omega), CJ, hy]
   rfl
  rw [hw, hhere] at hr
  simp only [if_true, A3] at hr
  obtain ⟨n1, n2⟩ := UZ n (by omega)
  rcases List.eq_nil_or_concat w.Path with h0 | ⟨p, k, h0⟩
  ·rw [G9 (by rw [h0]; rfl), if_pos rfl] at hr
   cases hr
   exact ⟨fun _ => rfl, fun h => by cases h⟩
  ·have h0' : w.Path = p ++ [k] := by rw [h0]; simp
   have hl : w.Path.length = p.length + 1 := by rw [h0', List.length_append, List.length_singleton]
   have hne : Al (A8 w.Path) 0 = false := DJ (by simp only [A8]; omega)
   rw [hne, if_neg Bool.false_ne_true] at hr
   have triv : some (w, false) = some r → (r.2 = false → r.1 = w) ∧ (r.2 = true → r.1.Tre.sz ≤ 100000 ∧ ∃ y, D5 w = some y ∧ FS r.1 y = some (w, true) ∧ Cp r.1 = some true ∧ D5 r.1 = some n) := fun e => by
    cases e
    exact ⟨fun _ => rfl, fun h => by cases h⟩
   cases hk : SZ n.Kind y.Kind with
   | true => rw [hk] at hr; exact triv hr
   | false =>
    rw [hk, n2] at hr
    simp only [Bool.false_eq_true, if_false, A3] at hr
    cases hnb : Pr n with
    | false => rw [hnb] at hr; exact triv hr
    | true =>
     rw [hnb] at hr
     simp only [if_true] at hr
     have hkind : n.Kind = y.Kind := by
      rw [Fm] at hk
      exact LX.1 (by simpa using hk)
     have hwn : wt [n] = 1 + n.sz := by rw [DY]; rfl
     rw [h0'] at hy
     obtain ⟨x, hx, hxk⟩ := OR p hy
     obtain ⟨k0, k1, k2⟩ := Pn hxk
     have hkk : k = ((k.toNat : Nat) : Int) := by omega
     obtain ⟨q, q1, q2, q3, q4, q5⟩ := nl w.Tre w.Path [n] (by omega) (by omega)
     have q6 := q5 p k.toNat x y (by rw [← hkk]; exact h0') hx k2
     have hgood : Qj w.Tre := pc w.Tre (by omega) (by rw [(X8 w.Tre (by omega)).1, hB])
     have hcl := (Xy p hgood hx).clean
     have hsplit : x.Kids = x.Kids.take k.toNat ++ y :: x.Kids.drop (k.toNat + 1) := by
      conv => lhs; rw [← List.take_append_drop k.toNat x.Kids]
      rw [tZ k2]
     have hcl2 : I4 false (x.Kids.take k.toNat ++ [n] ++ x.Kids.drop (k.toNat + 1)) = true := by
      rw [show x.Kids.take k.toNat ++ [n] ++ x.Kids.drop (k.toNat + 1) = x.Kids.take k.toNat ++ n :: x.Kids.drop (k.toNat + 1) by simp]
      refine bA _ _ false y n hkind (fun h2 => q7 (by omega) hnb h2) ?_
      rw [← hsplit]; exact hcl
     have hT : q.1 = Ps (x.Kids.take k.toNat ++ [n] ++ x.Kids.drop (k.toNat + 1)) p w.Tre := by
      rw [q6]
      show OQ _ _ _ _ _ = _
      rw [XA _ _ _ p w.Tre x hx, Vq _ hcl2]
     rw [q2] at hr
     simp only [A3, (X8 q.1 (by omega)).2] at hr
     cases htb : O8 q.1 with
     | false => rw [htb] at hr; exact triv hr
     | true =>
      rw [htb] at hr
      simp only [if_true] at hr
      cases hr
      refine ⟨(fun h => by cases h), fun _ => ⟨show q.1.sz ≤ 100000 by omega, ?_⟩⟩
      have hK : (x.Kids.take k.toNat ++ [n] ++ x.Kids.drop (k.toNat + 1))[k.toNat]? = some n := by
       rw [List.append_assoc, List.getElem?_append_right (by rw [List.length_take]; omega), List.length_take, Nat.min_eq_left (by omega)]
       simp
      have hx' : BA q.1 p = some (EA x (x.Kids.take k.toNat ++ [n] ++ x.Kids.drop (k.toNat + 1))) := by rw [hT]; exact Xx _ p w.Tre x hx
      have hn' : BA q.1 (p ++ [k]) = some n := by
       refine QM p hx' ?_
       show getI (x.Kids.take k.toNat ++ [n] ++ x.Kids.drop (k.toNat + 1)) k = some n
       unfold getI
       rw [if_pos k0, hK]
      have hw' : kh ⟨q.1, w.Path⟩ = true := by rw [h0']; exact A05 hn' htb
      have hwi : Cp ⟨q.1, w.Path⟩ = some true := by rw [nC ⟨q.1, w.Path⟩ (show q.1.sz ≤ _ by omega) (show w.Path.length ≤ _ by omega), hw']
      have hhere' : D5 ⟨q.1, w.Path⟩ = some n := by
       rw [D5, hwi, Gd _ _ (show q.1.sz ≤ _ by omega) (show w.Path.length ≤ _ by omega)]
       simp only [A3, if_true]
       rw [CJ, show BA (AJ.mk q.1 w.Path).Tre (AJ.mk q.1 w.Path).Path = some n from by rw [← h0'] at hn'; exact hn']
      refine ⟨y, hhere, ?_, hwi, hhere'⟩
      have hyn : Pr y = true := by
       obtain ⟨i0, p0, e0⟩ : ∃ i0 p0, p ++ [k] = i0 :: p0 := by
        cases p with
        | nil => exact ⟨k, [], rfl⟩
        | cons a b => exact ⟨a, b ++ [k], rfl⟩
       rw [e0] at hy
       exact xR (by omega) hB hy
      have hys := KZ _ hy
      have hwy : wt [y] = 1 + y.sz := by rw [DY]; rfl
      obtain ⟨s, s1, s2, s3, s4, s5⟩ := nl q.1 w.Path [y] (by omega) (by omega)
      have s6 := s5 p k.toNat _ n (by rw [← hkk]; exact h0') hx' hK
      have hback : s.1 = w.Tre := by
       rw [s6]
       show OQ _ _ _ _ _ = _
       rw [XA _ _ _ p q.1 _ hx']
       have e1 : (EA x (x.Kids.take k.toNat ++ [n] ++ x.Kids.drop (k.toNat + 1))).Kids.take k.toNat ++ [y] ++ (EA x (x.Kids.take k.toNat ++ [n] ++ x.Kids.drop (k.toNat + 1))).Kids.drop (k.toNat + 1) = x.Kids := by
        show (x.Kids.take k.toNat ++ [n] ++ x.Kids.drop (k.toNat + 1)).take k.toNat ++ [y] ++ (x.Kids.take k.toNat ++ [n] ++ x.Kids.drop (k.toNat + 1)).drop (k.toNat + 1) = x.Kids
        have l1 : (x.Kids.take k.toNat).length = k.toNat := by rw [List.length_take]; omega
        have t1 : (x.Kids.take k.toNat ++ [n] ++ x.Kids.drop (k.toNat + 1)).take k.toNat = x.Kids.take k.toNat := by
         rw [List.append_assoc, List.take_append_of_le_length (by omega), List.take_of_length_le (by omega)]
        have t2 : (x.Kids.take k.toNat ++ [n] ++ x.Kids.drop (k.toNat + 1)).drop (k.toNat + 1) = x.Kids.drop (k.toNat + 1) := by
         have l2 : (x.Kids.take k.toNat ++ [n]).length = k.toNat + 1 := by rw [List.length_append, l1, List.length_singleton]
         rw [← l2, List.drop_left]
        rw [t1, t2, List.append_assoc]
        exact hsplit.symm
       rw [e1, Vq _ hcl, hT, ew _ _ p w.Tre x hx, ez p w.Tre x hx]
      rw [FS, ki ⟨q.1, w.Path⟩ (show q.1.sz ≤ _ by omega) (show w.Path.length ≤ _ by omega), hwi, hhere']
      simp only [A3, if_true]
      have hne' : Al (A8 (AJ.mk q.1 w.Path).Path) 0 = false := hne
      have hk' : SZ y.Kind n.Kind = false := by rw [hkind]; exact Ph _
      rw [hne', if_neg Bool.false_ne_true, hk', if_neg Bool.false_ne_true, (UZ y (by omega)).2, hyn]
      simp only [A3, if_true]
      rw [s2]
      simp only [A3]
      rw [hback, (X8 w.Tre (by omega)).2, hB]
      rfl
theorem law_FnSwaps (code : List Int) (hl : code.length ≤ maxLen) (hc : ∀ y ∈ code, 0 ≤ y ∧ y < 256) : NE code = some true := by
 rw [NE, VC]
 by_cases hb : code.length ≤ 1048576
 case neg => rw [Lp (by simp only [A8]; omega)]; rfl
 rw [Pg (by simp only [A8]; omega)]
 obtain ⟨⟨w, n⟩, e, hs, hp, hn⟩ := iR code hb
 have hs : w.Tre.sz ≤ 20000 := hs
 have hp : w.Path.length ≤ 20001 := hp
 have hn : n.sz ≤ 30000 := hn
 obtain ⟨r, r1, r2, r3, r4, _⟩ := pr w n (by rw [AJ.sz_eq]; omega)
 obtain ⟨g1, g2⟩ := q8 w n hs hp hn r r2
 have sw := Tu w (by omega) (by omega)
 have hrt : r.1.Tre.sz ≤ 1048576 := by
  cases h : r.2 with
  | false => rw [g1 h]; omega
  | true => have := (g2 h).1; omega
 have sr := Tu r.1 hrt (by omega)
 simp only [A3, Bool.false_eq_true, if_false, e, r1, r2, tV, sr, if_true]
 cases h : r.2 with
 | false => simp only [Bool.false_eq_true, if_false, g1 h, sw, A3]
 | true =>
  obtain ⟨_, y, k1, k2, k3, k4⟩ := g2 h
  simp only [if_true, k1, A3, k2, k3, k4, Ts n (by omega), sw]
end TT
