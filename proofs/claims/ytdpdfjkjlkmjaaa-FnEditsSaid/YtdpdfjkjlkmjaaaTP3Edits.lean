import Derived.Test.YtdpdfjkjlkmjaaaTP3Same
set_option linter.unusedVariables false
set_option linter.unusedSimpArgs false
namespace TT
open Go
def setK (ks : List GNode) : List Int → GNode → GNode
 | [], n => withKids n ks
 | i :: p, n => match getI n.Kids i with
  | some x => withKids n (n.Kids.set i.toNat (setK ks p x))
  | none => n
theorem turn_setK (k j : Nat) (l : List GNode) : ∀ (p : List Int) (n x : GNode), nodeAt n p = some x → turnP k j l p n = setK (mergeP (x.Kids.take k ++ l ++ x.Kids.drop j)) p n
 | [], n, x, h => by simp only [nodeAt, Option.some.injEq] at h; subst h; rfl
 | i :: p, n, x, h => by
  obtain ⟨y, h1, h2⟩ := Option.bind_eq_some_iff.1 h
  simp only [turnP, setK, h1, turn_setK k j l p y x h2]
theorem getI_set {l : List GNode} {i : Int} {x y : GNode} (h : getI l i = some x) : getI (l.set i.toNat y) i = some y := by
 obtain ⟨h0, h1, h2⟩ := getI_nat h
 unfold getI
 rw [if_pos h0, List.getElem?_set_self h1]
theorem set_same' {l : List GNode} {i : Nat} {x : GNode} (h : l[i]? = some x) : l.set i x = l := by
 apply List.ext_getElem?
 intro j
 rw [List.getElem?_set]
 split
 ·rename_i e; subst e
  split
  ·exact h.symm
  ·rename_i h2; rw [List.getElem?_eq_none (by omega)]
 ·rfl
theorem nodeAt_setK (ks : List GNode) : ∀ (p : List Int) (n x : GNode), nodeAt n p = some x → nodeAt (setK ks p n) p = some (withKids x ks)
 | [], n, x, h => by simp only [nodeAt, Option.some.injEq] at h; subst h; rfl
 | i :: p, n, x, h => by
  obtain ⟨y, h1, h2⟩ := Option.bind_eq_some_iff.1 h
  simp only [setK, h1]
  show (getI (n.Kids.set i.toNat (setK ks p y)) i).bind _ = _
  rw [getI_set h1]
  exact nodeAt_setK ks p y x h2
theorem setK_setK (ks ks' : List GNode) : ∀ (p : List Int) (n x : GNode), nodeAt n p = some x → setK ks p (setK ks' p n) = setK ks p n
 | [], n, x, h => rfl
 | i :: p, n, x, h => by
  obtain ⟨y, h1, h2⟩ := Option.bind_eq_some_iff.1 h
  have e : setK ks' (i :: p) n = withKids n (n.Kids.set i.toNat (setK ks' p y)) := by simp only [setK, h1]
  rw [e]
  show (match getI (n.Kids.set i.toNat (setK ks' p y)) i with
   | some x => withKids _ ((n.Kids.set i.toNat (setK ks' p y)).set i.toNat (setK ks p x))
   | none => _) = setK ks (i :: p) n
  rw [getI_set h1]
  simp only [setK, h1, setK_setK ks ks' p y x h2, List.set_set]
  rfl
theorem withKids_self (n : GNode) : withKids n n.Kids = n := by cases n; rfl
theorem setK_self : ∀ (p : List Int) (n x : GNode), nodeAt n p = some x → setK x.Kids p n = n
 | [], n, x, h => by simp only [nodeAt, Option.some.injEq] at h; subst h; exact withKids_self n
 | i :: p, n, x, h => by
  obtain ⟨y, h1, h2⟩ := Option.bind_eq_some_iff.1 h
  simp only [setK, h1, setK_self p y x h2, set_same' (getI_nat h1).2.2, withKids_self]
theorem nodeAt_good : ∀ (p : List Int) {n x : GNode}, Good n → nodeAt n p = some x → Good x
 | [], n, x, g, h => by simp only [nodeAt, Option.some.injEq] at h; subst h; exact g
 | i :: p, n, x, g, h => by
  obtain ⟨y, h1, h2⟩ := Option.bind_eq_some_iff.1 h
  exact nodeAt_good p (g.kid (getI_mem h1)) h2
theorem nodeAt_snoc' : ∀ (p : List Int) {n x y : GNode} {k : Int}, nodeAt n p = some x → getI x.Kids k = some y → nodeAt n (p ++ [k]) = some y
 | [], n, x, y, k, h, hk => by
  simp only [nodeAt, Option.some.injEq] at h
  subst h
  show (getI n.Kids k).bind _ = _
  rw [hk]; rfl
 | i :: p, n, x, y, k, h, hk => by
  obtain ⟨z, h1, h2⟩ := Option.bind_eq_some_iff.1 h
  show (getI n.Kids i).bind _ = _
  rw [h1]
  exact nodeAt_snoc' p h2 hk
theorem turn_implI (k : Nat) (l : List GNode) : ∀ (p : List Int) (n x : GNode), p.length ≤ 2000000 → nodeAt n p = some x → k ≤ x.Kids.length → n.sz + wt l ≤ 1048576 →
  impl_turnedAt_InsertAt_1 n p (k : Int) l = some (turnP k k l p n)
 | [], n, x, hp, hx, hj, hs => by
  simp only [nodeAt, Option.some.injEq] at hx
  subst hx
  have hk := kids_len (n := n)
  have hz := hs
  rw [GNode.sz_eq n] at hz
  have hw : wt (n.Kids.take k ++ l ++ n.Kids.drop k) ≤ wt n.Kids + wt l := wt_take_drop _ _ _ (Nat.le_refl _) l
  have hwk : wt n.Kids = n.Kids.length + szs GNode.sz n.Kids := rfl
  obtain ⟨m1, m2, m3⟩ := merge_both (n.Kids.take k ++ l ++ n.Kids.drop k) (by omega)
  have hll := wt_len l
  have hl1 : (n.Kids.take k).length ≤ n.Kids.length := by rw [List.length_take]; omega
  have hl2 : (n.Kids.drop k).length ≤ n.Kids.length := by rw [List.length_drop]; omega
  rw [impl_turnedAt_InsertAt_1, copy_impl n (by omega), eqI_t (show lenL ([] : List Int) = 0 from rfl)]
  simp only [if_true, some_bnd]
  rw [impl_InsertAt_1_PP, impl_spliced, slL_to _ _ (by omega), slL_from _ _ (by omega)]
  simp only [some_bnd]
  rw [slices_Concat_Node]
  rw [if_pos ⟨by omega, by omega⟩]
  simp only [some_bnd, m2]
  rfl
 | i :: p, n, x, hp, hx, hj, hs => by
  obtain ⟨y, h1, h2⟩ := Option.bind_eq_some_iff.1 hx
  have hy := kid_sz h1
  have hl : p.length ≤ 2000000 := by rw [List.length_cons] at hp; omega
  have g1 := turn_implI k l p y x hl h2 hj (by omega)
  have e1 : slL (i :: p) 1 (lenL (i :: p)) = some p := slL_from (i :: p) 1 (by simp)
  have e2 : getI (i :: p) 0 = some i := rfl
  rw [impl_turnedAt_InsertAt_1, copy_impl n (by omega), eqI_f (by simp only [lenL, List.length_cons]; omega), e1, e2]
  simp only [Bool.false_eq_true, if_false, some_bnd, h1, g1, turnP]
  rfl
theorem put_all (n : GNode) (path : List Int) (l : List GNode) (hs : n.sz + wt l ≤ 1048576) (hp : path.length ≤ 1048576) : ∃ r, spec_PutAt n path l = some r ∧ impl_PutAt n path l = some r ∧ r.1.sz ≤ n.sz + wt l ∧ (r.2 = false → r.1 = n) ∧
  ∀ (p : List Int) (k : Nat) (x y : GNode), path = p ++ [(k : Int)] → nodeAt n p = some x → x.Kids[k]? = some y → r = (turnP k (k + 1) l p n, true) := by
 have c1 := copy_spec n (by omega)
 have c2 := copy_impl n (by omega)
 have a1 := nodeAt_spec n path (by omega) (by omega)
 have a2 := nodeAt_impl n path (by omega) (by omega)
 rw [spec_PutAt, impl_PutAt, a1, a2, c1, c2]
 rcases List.eq_nil_or_concat path with rfl | ⟨p, k, rfl⟩
 ·rw [eqI_t (show lenL ([] : List Int) = 0 from rfl)]
  exact ⟨(n, false), rfl, rfl, Nat.le_add_right _ _, fun _ => rfl, fun p k x y e => by simp at e⟩
 ·rw [List.concat_eq_append] at hp ⊢
  rw [List.length_append, List.length_singleton] at hp
  have e1 : subI (lenL (p ++ [k])) 1 = (p.length : Int) := by
   rw [subI_eq (by simp only [lenL, List.length_append, List.length_singleton]; omega) (by simp only [lenL, List.length_append, List.length_singleton]; omega)]
   simp only [lenL, List.length_append, List.length_singleton]; omega
  have e2 : getI (p ++ [k]) (p.length : Int) = some k := getI_at (show p ++ k :: [] = p ++ [k] from rfl)
  have e3 : slL (p ++ [k]) 0 (p.length : Int) = some p := by rw [slL_to _ _ (by simp)]; simp
  rw [eqI_f (by simp only [lenL, List.length_append, List.length_singleton]; omega), e1, e2, e3]
  simp only [Bool.false_eq_true, if_false, some_bnd]
  cases hn : nodeAt n (p ++ [k]) with
  | none =>
   simp only [nodeAtR, hn, Bool.false_eq_true, if_false]
   refine ⟨_, rfl, rfl, Nat.le_add_right _ _, fun _ => rfl, fun p' k' x y e hx hy => ?_⟩
   obtain ⟨rfl, e'⟩ := List.append_inj' e rfl
   simp only [List.cons.injEq, and_true] at e'
   subst e'
   have := nodeAt_snoc' p hx (getI_k hy)
   rw [hn] at this; cases this
  | some y =>
   simp only [nodeAtR, hn, if_true]
   obtain ⟨x, h1, h2⟩ := nodeAt_snoc p hn
   obtain ⟨k0, k1, k2⟩ := getI_nat h2
   have hx := nodeAt_sz p h1
   have hxk := kids_len (n := x)
   have hk : k = ((k.toNat : Nat) : Int) := by omega
   have e4 : addI k 1 = ((k.toNat + 1 : Nat) : Int) := by rw [addI_eq (by omega) (by omega)]; omega
   obtain ⟨t1, t2⟩ := turn_both k.toNat (k.toNat + 1) (by omega) l p n x (by omega) h1 (by omega) hs
   have t3 := turn_impl k.toNat l p n x (by omega) h1 k1 hs
   rw [← hk, ← e4] at t1
   rw [← hk] at t3
   rw [t1, t3]
   simp only [some_bnd, copy_spec _ (Nat.le_trans t2 hs)]
   refine ⟨_, rfl, rfl, t2, (fun h => by cases h), fun p' k' x' y' e hx' hy' => ?_⟩
   obtain ⟨rfl, e'⟩ := List.append_inj' e rfl
   simp only [List.cons.injEq, and_true] at e'
   rw [show k.toNat = k' by omega]
theorem ins_all (n : GNode) (path : List Int) (i : Int) (l : List GNode) (hs : n.sz + wt l ≤ 1048576) (hp : path.length ≤ 1048576) : ∃ r, spec_InsertAt n path i l = some r ∧ impl_InsertAt n path i l = some r ∧ r.1.sz ≤ n.sz + wt l ∧ (r.2 = false → r.1 = n) ∧
  (r.2 = true → ∃ (k : Nat) (x : GNode), i = (k : Int) ∧ nodeAt n path = some x ∧ k ≤ x.Kids.length ∧ r = (turnP k k l path n, true)) := by
 have c1 := copy_spec n (by omega)
 have c2 := copy_impl n (by omega)
 have a1 := nodeAt_spec n path (by omega) (by omega)
 have a2 := nodeAt_impl n path (by omega) (by omega)
 have in1 : ∀ a b c : Int, spec_l1In a b c = some (decide (b ≤ a ∧ a ≤ c)) := fun a b c => by
  rw [spec_l1In]; by_cases h1 : b ≤ a
  ·rw [geI_t h1]; by_cases h2 : a ≤ c
   ·rw [leI_t h2, decide_eq_true ⟨h1, h2⟩]; rfl
   ·rw [leI_f h2, decide_eq_false fun h => h2 h.2]; rfl
  ·rw [geI_f h1, decide_eq_false fun h => h1 h.1]; rfl
 have in2 : ∀ a b c : Int, impl_in a b c = some (decide (b ≤ a ∧ a ≤ c)) := fun a b c => by
  rw [impl_in]; by_cases h1 : b ≤ a
  ·rw [geI_t h1]; by_cases h2 : a ≤ c
   ·rw [leI_t h2, decide_eq_true ⟨h1, h2⟩]; rfl
   ·rw [leI_f h2, decide_eq_false fun h => h2 h.2]; rfl
  ·rw [geI_f h1, decide_eq_false fun h => h1 h.1]; rfl
 rw [spec_InsertAt, impl_InsertAt, a1, a2, c1, c2]
 simp only [some_bnd, in1, in2]
 have triv : ∃ r, some (n, false) = some r ∧ some (n, false) = some r ∧ r.1.sz ≤ n.sz + wt l ∧ (r.2 = false → r.1 = n) ∧ (r.2 = true → ∃ (k : Nat) (x : GNode), i = (k : Int) ∧ nodeAt n path = some x ∧ k ≤ x.Kids.length ∧ r = (turnP k k l path n, true)) := ⟨_, rfl, rfl, Nat.le_add_right _ _, fun _ => rfl, fun h => by cases h⟩
 cases hn : nodeAt n path with
 | none => simp only [nodeAtR, hn, Bool.false_eq_true, if_false]; rw [hn] at triv; exact triv
 | some x =>
  simp only [nodeAtR, hn, if_true]
  rw [hn] at triv
  have hx := nodeAt_sz path hn
  have hxk := kids_len (n := x)
  have go : ∃ r, (if decide (0 ≤ i ∧ i ≤ lenL x.Kids) = true then (spec_l10Turn n path i i l >>= fun r8 => spec_l5Copy r8 >>= fun r9 => some (r9, true)) else some (n, false)) = some r ∧
    (if decide (0 ≤ i ∧ i ≤ lenL x.Kids) = true then (impl_turnedAt_InsertAt_1 n path i l >>= fun r7 => some (r7, true)) else some (n, false)) = some r ∧ r.1.sz ≤ n.sz + wt l ∧ (r.2 = false → r.1 = n) ∧ (r.2 = true → ∃ (k : Nat) (y : GNode), i = (k : Int) ∧ some x = some y ∧ k ≤ y.Kids.length ∧ r = (turnP k k l path n, true)) := by
   by_cases hi : 0 ≤ i ∧ i ≤ lenL x.Kids
   ·rw [if_pos (decide_eq_true hi), if_pos (decide_eq_true hi)]
    have hk : i = ((i.toNat : Nat) : Int) := by omega
    have hle : i.toNat ≤ x.Kids.length := by have := hi.2; simp only [lenL] at this; omega
    obtain ⟨t1, t2⟩ := turn_both i.toNat i.toNat (Nat.le_refl _) l path n x (by omega) hn hle hs
    have t3 := turn_implI i.toNat l path n x (by omega) hn hle hs
    rw [← hk] at t1 t3
    rw [t1, t3]
    simp only [some_bnd, copy_spec _ (Nat.le_trans t2 hs)]
    exact ⟨_, rfl, rfl, t2, (fun h => by cases h), fun _ => ⟨i.toNat, x, hk, rfl, hle, rfl⟩⟩
   ·rw [if_neg (by rw [decide_eq_true_eq]; exact hi), if_neg (by rw [decide_eq_true_eq]; exact hi)]
    exact triv
  by_cases k1 : neI x.Kind 1 = true
  ·simp only [k1, if_true]
   by_cases k0 : neI x.Kind 0 = true
   ·simp only [k0, if_true]; exact triv
   ·simp only [k0, Bool.false_eq_true, if_false]; exact go
  ·simp only [k1, Bool.false_eq_true, if_false]; exact go
theorem l10Some_tot (c : Gl1Cur) (h : Cok c) : Tot (spec_l10Some c) fun r => wt r.1 ≤ 2000 ∧ Cok r.2 := by
 have loop : ∀ (i : Nat) (l : List GNode) (c : Gl1Cur), Cok c → wt l + 700 * i ≤ 2000 → Tot (spec_l10Some_l8 l (i : Nat) c) fun r => wt r.1 ≤ 2000 ∧ Cok r.2 := by
  intro i
  induction i with
  | zero => intro l c hc hl; rw [spec_l10Some_l8, gtI_f (by omega)]; exact Tot.ret ⟨by show wt l ≤ _; omega, hc⟩
  | succ i ih =>
   intro l c hc hl
   have hll := wt_len l
   have rm : Tot (room (l.length + 1) 144) fun _ => True := Tot.room (by omega)
   rw [spec_l10Some_l8, gtI_t (by omega), show subI ((i + 1 : Nat) : Int) 1 = (i : Int) by rw [subI_eq (by omega) (by omega)]; omega]
   refine (l1Once_tot _ hc _).bnd fun s hs => Tot.ite (fun _ => (l1Str_tot _ hs _ (by decide)).bnd fun t ht => rm.bnd fun _ _ => ih _ _ ht.2 ?_) fun _ => (l5El_tot 2 (by omega) s.2 [] 0 ⟨⟨Nat.le_refl _, fun d hd => by cases hd⟩, by omega⟩ (by omega) hs).bnd fun x hx => rm.bnd fun _ _ => ih _ _ hx.1 ?_
   ·have := str_sz (n := 1) ht.1 (by decide)
    rw [wt_append, wt_cons, GNode.sz_eq]
    show _ + (1 + (0 + (0 + (0 + ((0 + 0) + ((0 + 0) + ((0 + 0) + t.1.size)))))) + 0) + _ ≤ _
    omega
   ·obtain ⟨_, k, _, _, x4⟩ := hx
    rw [wt_append, wt_cons]
    show _ + (1 + x.1.sz + 0) + _ ≤ _
    omega
 rw [spec_l10Some]
 refine (l1Below_tot _ h _).bnd fun k hk => ?_
 obtain ⟨m, e, hm⟩ := below_nat hk.1 hk.2.1 (by omega)
 rw [e]
 exact loop m [] _ hk.2.2 (by show 0 + _ ≤ _; omega)
theorem drawPutAt_tot (code : List Int) (hl : code.length ≤ 1048576) : Tot (spec_DrawPutAt code) fun r => r.1.sz ≤ 3000 ∧ r.2.1.length ≤ 3001 ∧ wt r.2.2 ≤ 2000 := by
 rw [spec_DrawPutAt]
 exact (l1New_tot code hl).bnd fun c hc => (l5Draw_tot c hc).bnd fun r hr => (l10Path_tot _ hr.2 _ (by have := hr.1; omega)).bnd fun p hp => (l10Some_tot _ hp.2).bnd fun s hs => Tot.ret ⟨hr.1, by have := hp.1; have := hr.1; show p.1.length ≤ _; omega, hs.1⟩
theorem drawInsertAt_tot (code : List Int) (hl : code.length ≤ 1048576) : Tot (spec_DrawInsertAt code) fun r => r.1.sz ≤ 3000 ∧ r.2.1.length ≤ 3001 ∧ wt r.2.2.2 ≤ 2000 ∧ Good r.1 := by
 rw [spec_DrawInsertAt]
 exact (l1New_tot code hl).bnd fun c hc => (l5Draw_good c hc).bnd fun r hr => (l10Path_tot _ hr.2.1 _ (by have := hr.1; omega)).bnd fun p hp => (l1Int_tot _ hp.2 _ (by decide)).bnd fun i hi => (l10Some_tot _ hi.2).bnd fun s hs => Tot.ret ⟨hr.1, by have := hp.1; have := hr.1; show p.1.length ≤ _; omega, hs.1, hr.2.2⟩
end TT
