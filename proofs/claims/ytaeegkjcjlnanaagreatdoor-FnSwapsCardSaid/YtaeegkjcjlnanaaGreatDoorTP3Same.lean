import Derived.Test.YtaeegkjcjlnanaaGreatDoorTP3Cur
import Derived.Test.YtaeegkjcjlnanaaGreatDoorTP3Copy
import Derived.Test.YtaeegkjcjlnanaaGreatDoorTP3Merge
import Derived.Test.YtaeegkjcjlnanaaGreatDoorTP2Merge
set_option linter.unusedVariables false
set_option linter.unusedSimpArgs false
namespace TT
open Go
theorem Z4 {α ρ : Type} (l : List α) (F : Int → Option ρ) (r : ρ) (hF : ∀ (k : Nat) x, l[k]? = some x → F ((k + 1 : Nat) : Int) = some r → F (k : Int) = some r) (h0 : F ((l.length : Nat) : Int) = some r) : F 0 = some r := by
 have key : ∀ (m k : Nat), k ≤ l.length → l.length ≤ k + m → F (k : Int) = some r := by
  intro m
  induction m with
  | zero => intro k h1 h2; rw [show k = l.length by omega]; exact h0
  | succ m ih =>
   intro k h1 h2
   by_cases e : k = l.length
   ·rw [e]; exact h0
   ·exact hF k _ (List.getElem?_eq_getElem (by omega)) (ih (k + 1) (by omega) (by omega))
 exact key l.length 0 (by omega) (by omega)
theorem ka (l : List A1) (hl : l.length ≤ 4000000) : Eb l l = some true := by
 rw [Eb, Ph]
 refine Z4 l (fun i => Aq l l i) true (fun k x hx ih => ?_) ?_
 ·have := Tr hx
  show Aq l l k = _
  rw [Aq, X1 hx, Ge hx, Jv (by omega)]
  simp only [if_true, A3, Ju, Bool.and_self]
  exact ih
 ·show Aq l l _ = _
  rw [Aq, Qd]; rfl
theorem kb (l : List A4) (hl : l.length ≤ 4000000) : Ec l l = some true := by
 rw [Ec, Ph]
 refine Z4 l (fun i => Ar l l i) true (fun k x hx ih => ?_) ?_
 ·have := Tr hx
  show Ar l l k = _
  rw [Ar, X1 hx, Ge hx, Jv (by omega)]
  simp only [if_true, A3, Ju, Bool.and_self]
  exact ih
 ·show Ar l l _ = _
  rw [Ar, Qd]; rfl
theorem Ts : ∀ n : A0, n.sz ≤ 1048576 → Dl n n = some true := by
 refine A0.ind' fun n ih hs => ?_
 rw [A0.sz_eq] at hs
 have ha : GZ n n = some true := by
  rw [GZ, k8, Ju, Ju, Ju, Ju, ka _ (by omega), kb _ (by omega)]; rfl
 have hk : B8 n.Kids n.Kids = some true := by
  rw [B8, Ph]
  refine Z4 n.Kids (fun i => AL n.Kids n.Kids i) true (fun k x hx h => ?_) ?_
  ·have := Tr hx
   have h2 := CB A0.sz (Tq hx)
   show AL n.Kids n.Kids k = _
   rw [AL, X1 hx, Ge hx, Jv (by omega)]
   simp only [if_true, A3, ih x (Tq hx) (by omega)]
   exact h
  ·show AL n.Kids n.Kids _ = _
   rw [AL, Qd]; rfl
 rw [Dl, ha, A3, hk]; rfl
end TT
namespace TT
open Go
mutual
def Ua : A0 → List A0
 | ⟨k, p, l, u, d, a, kids, t⟩ => ⟨k, p, l, u, d, a, kids, t⟩ :: iN kids
def iN : List A0 → List A0
 | [] => []
 | x :: l => Ua x ++ iN l
end
theorem iO (n : A0) : Ua n = n :: iN n.Kids := by cases n; rfl
def cw (l : List A0) : Nat := (l.map fun x => 1 + x.Attrs.length).sum
theorem X9 (a b : List A0) : cw (a ++ b) = cw a + cw b := by simp [cw]
theorem iP (x : A0) (b : List A0) : cw (x :: b) = 1 + x.Attrs.length + cw b := by simp [cw]
theorem u9 : ∀ l : List A0, (∀ k ∈ l, cw (Ua k) ≤ 1 + k.sz) → cw (iN l) ≤ l.length + szs A0.sz l
 | [], _ => Nat.le_refl _
 | x :: l, h => by
  have h1 := h x (List.mem_cons_self ..)
  have h2 := u9 l fun k hk => h k (List.mem_cons_of_mem _ hk)
  rw [iN, X9, CY, List.length_cons]; omega
theorem A13 : ∀ n : A0, cw (Ua n) ≤ 1 + n.sz := by
 refine A0.ind' fun n ih => ?_
 have := u9 n.Kids ih
 rw [iO, iP, A0.sz_eq]; omega
theorem kc : ∀ n : A0, n.sz ≤ 1048576 → DB n = some ((cw (Ua n) : Nat) : Int) := by
 refine A0.ind' fun n ih hs => ?_
 have hz := A0.sz_eq n
 have loop : ∀ (rest pre : List A0) (k : Nat), pre ++ rest = n.Kids → k + rest.length + szs A0.sz rest ≤ 3000000 → C9 (k : Nat) n pre.length = some ((k + cw (iN rest) : Nat) : Int) := by
  intro rest
  induction rest with
  | nil => intro pre k hp _; rw [C9, FU hp]; rfl
  | cons x rest ihr =>
   intro pre k hp hb
   rw [CY, List.length_cons] at hb
   have hx : x ∈ n.Kids := by rw [← hp]; simp
   have hxs := CB A0.sz hx
   have hpr := A13 x
   have h1 := ih x hx (by omega)
   have h2 := ihr (pre ++ [x]) (k + cw (Ua x)) (Ej hp) (by omega)
   rw [C9, EC hp, Bb hp, Cw hp (by rw [B9]; omega)]
   simp only [if_true, A3, h1]
   rw [show AY (k : Int) (cw (Ua x) : Nat) = ((k + cw (Ua x) : Nat) : Int) by rw [Af (by omega) (by omega)]; omega, h2, iN, X9]
   congr 2; omega
 have := loop n.Kids [] (1 + n.Attrs.length) rfl (by omega)
 rw [DB]
 have e : ((([] : List A0).length : Nat) : Int) = 0 := rfl
 rw [e] at this
 rw [show AY 1 (A8 n.Attrs) = ((1 + n.Attrs.length : Nat) : Int) by rw [Af (by simp only [A8]; omega) (by simp only [A8]; omega)]; simp only [A8]; omega, this, iO, iP]
end TT
namespace TT
open Go
def Ps (ks : List A0) : List Int → A0 → A0
 | [], n => EA n ks
 | i :: p, n => match getI n.Kids i with
  | some x => EA n (n.Kids.set i.toNat (Ps ks p x))
  | none => n
theorem XA (k j : Nat) (l : List A0) : ∀ (p : List Int) (n x : A0), BA n p = some x → OQ k j l p n = Ps (Fz (x.Kids.take k ++ l ++ x.Kids.drop j)) p n
 | [], n, x, h => by simp only [BA, Option.some.injEq] at h; subst h; rfl
 | i :: p, n, x, h => by
  obtain ⟨y, h1, h2⟩ := Option.bind_eq_some_iff.1 h
  simp only [OQ, Ps, h1, XA k j l p y x h2]
theorem ke {l : List A0} {i : Int} {x y : A0} (h : getI l i = some x) : getI (l.set i.toNat y) i = some y := by
 obtain ⟨h0, h1, h2⟩ := Pn h
 unfold getI
 rw [if_pos h0, List.getElem?_set_self h1]
theorem pt {l : List A0} {i : Nat} {x : A0} (h : l[i]? = some x) : l.set i x = l := by
 apply List.ext_getElem?
 intro j
 rw [List.getElem?_set]
 split
 ·rename_i e; subst e
  split
  ·exact h.symm
  ·rename_i h2; rw [List.getElem?_eq_none (by omega)]
 ·rfl
theorem Xx (ks : List A0) : ∀ (p : List Int) (n x : A0), BA n p = some x → BA (Ps ks p n) p = some (EA x ks)
 | [], n, x, h => by simp only [BA, Option.some.injEq] at h; subst h; rfl
 | i :: p, n, x, h => by
  obtain ⟨y, h1, h2⟩ := Option.bind_eq_some_iff.1 h
  simp only [Ps, h1]
  show (getI (n.Kids.set i.toNat (Ps ks p y)) i).bind _ = _
  rw [ke h1]
  exact Xx ks p y x h2
theorem ew (ks ks' : List A0) : ∀ (p : List Int) (n x : A0), BA n p = some x → Ps ks p (Ps ks' p n) = Ps ks p n
 | [], n, x, h => rfl
 | i :: p, n, x, h => by
  obtain ⟨y, h1, h2⟩ := Option.bind_eq_some_iff.1 h
  have e : Ps ks' (i :: p) n = EA n (n.Kids.set i.toNat (Ps ks' p y)) := by simp only [Ps, h1]
  rw [e]
  show (match getI (n.Kids.set i.toNat (Ps ks' p y)) i with
   | some x => EA _ ((n.Kids.set i.toNat (Ps ks' p y)).set i.toNat (Ps ks p x))
   | none => _) = Ps ks (i :: p) n
  rw [ke h1]
  simp only [Ps, h1, ew ks ks' p y x h2, List.set_set]
  rfl
theorem Tt (n : A0) : EA n n.Kids = n := by cases n; rfl
theorem ez : ∀ (p : List Int) (n x : A0), BA n p = some x → Ps x.Kids p n = n
 | [], n, x, h => by simp only [BA, Option.some.injEq] at h; subst h; exact Tt n
 | i :: p, n, x, h => by
  obtain ⟨y, h1, h2⟩ := Option.bind_eq_some_iff.1 h
  simp only [Ps, h1, ez p y x h2, pt (Pn h1).2.2, Tt]
theorem Xy : ∀ (p : List Int) {n x : A0}, Qj n → BA n p = some x → Qj x
 | [], n, x, g, h => by simp only [BA, Option.some.injEq] at h; subst h; exact g
 | i :: p, n, x, g, h => by
  obtain ⟨y, h1, h2⟩ := Option.bind_eq_some_iff.1 h
  exact Xy p (g.kid (S6 h1)) h2
theorem QM : ∀ (p : List Int) {n x y : A0} {k : Int}, BA n p = some x → getI x.Kids k = some y → BA n (p ++ [k]) = some y
 | [], n, x, y, k, h, hk => by
  simp only [BA, Option.some.injEq] at h
  subst h
  show (getI n.Kids k).bind _ = _
  rw [hk]; rfl
 | i :: p, n, x, y, k, h, hk => by
  obtain ⟨z, h1, h2⟩ := Option.bind_eq_some_iff.1 h
  show (getI n.Kids i).bind _ = _
  rw [h1]
  exact QM p h2 hk
theorem nl (n : A0) (path : List Int) (l : List A0) (hs : n.sz + wt l ≤ 1048576) (hp : path.length ≤ 1048576) : ∃ r, I1 n path l = some r ∧ Hz n path l = some r ∧ r.1.sz ≤ n.sz + wt l ∧ (r.2 = false → r.1 = n) ∧
  ∀ (p : List Int) (k : Nat) (x y : A0), path = p ++ [(k : Int)] → BA n p = some x → x.Kids[k]? = some y → r = (OQ k (k + 1) l p n, true) := by
 have c1 := KY n (by omega)
 have c2 := IK n (by omega)
 have a1 := Lq n path (by omega) (by omega)
 have a2 := Gd n path (by omega) (by omega)
 rw [I1, Hz, a1, a2, c1, c2]
 rcases List.eq_nil_or_concat path with rfl | ⟨p, k, rfl⟩
 ·rw [G9 (show A8 ([] : List Int) = 0 from rfl)]
  exact ⟨(n, false), rfl, rfl, Nat.le_add_right _ _, fun _ => rfl, fun p k x y e => by simp at e⟩
 ·rw [List.concat_eq_append] at hp ⊢
  rw [List.length_append, List.length_singleton] at hp
  have e1 : BE (A8 (p ++ [k])) 1 = (p.length : Int) := by
   rw [Bw (by simp only [A8, List.length_append, List.length_singleton]; omega) (by simp only [A8, List.length_append, List.length_singleton]; omega)]
   simp only [A8, List.length_append, List.length_singleton]; omega
  have e2 : getI (p ++ [k]) (p.length : Int) = some k := Bb (show p ++ k :: [] = p ++ [k] from rfl)
  have e3 : slL (p ++ [k]) 0 (p.length : Int) = some p := by rw [iH _ _ (by simp)]; simp
  rw [DJ (by simp only [A8, List.length_append, List.length_singleton]; omega), e1, e2, e3]
  simp only [Bool.false_eq_true, if_false, A3]
  cases hn : BA n (p ++ [k]) with
  | none =>
   simp only [CJ, hn, Bool.false_eq_true, if_false]
   refine ⟨_, rfl, rfl, Nat.le_add_right _ _, fun _ => rfl, fun p' k' x y e hx hy => ?_⟩
   obtain ⟨rfl, e'⟩ := List.append_inj' e rfl
   simp only [List.cons.injEq, and_true] at e'
   subst e'
   have := QM p hx (Ge hy)
   rw [hn] at this; cases this
  | some y =>
   simp only [CJ, hn, if_true]
   obtain ⟨x, h1, h2⟩ := OR p hn
   obtain ⟨k0, k1, k2⟩ := Pn h2
   have hx := KZ p h1
   have hxk := O5 (n := x)
   have hk : k = ((k.toNat : Nat) : Int) := by omega
   have e4 : AY k 1 = ((k.toNat + 1 : Nat) : Int) := by rw [Af (by omega) (by omega)]; omega
   obtain ⟨t1, t2⟩ := X3 k.toNat (k.toNat + 1) (by omega) l p n x (by omega) h1 (by omega) hs
   have t3 := X4 k.toNat l p n x (by omega) h1 k1 hs
   rw [← hk, ← e4] at t1
   rw [← hk] at t3
   rw [t1, t3]
   simp only [A3, KY _ (Nat.le_trans t2 hs)]
   refine ⟨_, rfl, rfl, t2, (fun h => by cases h), fun p' k' x' y' e hx' hy' => ?_⟩
   obtain ⟨rfl, e'⟩ := List.append_inj' e rfl
   simp only [List.cons.injEq, and_true] at e'
   rw [show k.toNat = k' by omega]
theorem kf (c : A2) (h : FV c) : AQ (Jg c) fun r => wt r.1 ≤ 2000 ∧ FV r.2 := by
 have loop : ∀ (i : Nat) (l : List A0) (c : A2), FV c → wt l + 700 * i ≤ 2000 → AQ (Cl l (i : Nat) c) fun r => wt r.1 ≤ 2000 ∧ FV r.2 := by
  intro i
  induction i with
  | zero => intro l c hc hl; rw [Cl, Pg (by omega)]; exact AQ.ret ⟨by show wt l ≤ _; omega, hc⟩
  | succ i ih =>
   intro l c hc hl
   have hll := MN l
   have rm : AQ (room (l.length + 1) 144) fun _ => True := AQ.room (by omega)
   rw [Cl, Lp (by omega), show BE ((i + 1 : Nat) : Int) 1 = (i : Int) by rw [Bw (by omega) (by omega)]; omega]
   refine (E9 _ hc _).bnd fun s hs => AQ.ite (fun _ => (As _ hs _ (by decide)).bnd fun t ht => rm.bnd fun _ _ => ih _ _ ht.2 ?_) fun _ => (kL 2 (by omega) s.2 [] 0 ⟨⟨Nat.le_refl _, fun d hd => by cases hd⟩, by omega⟩ (by omega) hs).bnd fun x hx => rm.bnd fun _ _ => ih _ _ hx.1 ?_
   ·have := DE (n := 1) ht.1 (by decide)
    rw [Cc, DY, A0.sz_eq]
    show _ + (1 + (0 + (0 + (0 + ((0 + 0) + ((0 + 0) + ((0 + 0) + t.1.size)))))) + 0) + _ ≤ _
    omega
   ·obtain ⟨_, k, _, _, x4⟩ := hx
    rw [Cc, DY]
    show _ + (1 + x.1.sz + 0) + _ ≤ _
    omega
 rw [Jg]
 refine (C1 _ h _).bnd fun k hk => ?_
 obtain ⟨m, e, hm⟩ := Pm hk.1 hk.2.1 (by omega)
 rw [e]
 exact loop m [] _ hk.2.2 (by show 0 + _ ≤ _; omega)
end TT
