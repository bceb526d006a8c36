import Derived.Test.YtjnjaaimgdjcgaaGreatDoorTD22
import Derived.Orders
import Derived.LoopN
set_option linter.unusedVariables false
set_option linter.unusedSimpArgs false
namespace TT
open Go
section
variable {P : Program} {c : Ctx} {w w' : World} {B B' B2 : Nat → Prop} {ρ ρ' : Id → Loc} {Sf : Id → Nat → Prop} {X : Nat → Prop} {r r' r0 : R} {a : Act} {o : Oper} {ops : Array Oper} {Q : Exit → Act → World → Prop}
theorem guard_ok {s : List V} (hs : Slots w B ρ r s a) {g : Option (Nat × Bool)} (hg : agG ops g o.guard = true) {b : Bool} (h : guardV s g = some b) : Region.wanted o (yielded ops a.tmps) = b := by
 unfold Region.wanted
 cases g with
 | none =>
  cases ho : o.guard with
  | none => simp only [guardV, Option.some.injEq] at h; exact h
  | some q => rw [ho] at hg; simp [agG] at hg
 | some q =>
  obtain ⟨t, want⟩ := q
  cases ho : o.guard with
  | none => rw [ho] at hg; simp [agG] at hg
  | some q' =>
   obtain ⟨j, want'⟩ := q'
   rw [ho] at hg
   simp only [agG, Bool.and_eq_true, beq_iff_eq] at hg
   obtain ⟨rfl, hg⟩ := hg
   cases hd : (ops[j]?).bind (·.dst) with
   | none => rw [hd] at hg; cases hg
   | some t' =>
    rw [hd] at hg
    have : t = t' := by simpa using hg
    subst this
    have hy : yielded ops a.tmps j = (match a.tmps.getD t undef with | .bool b => some b | _ => none) := by
     unfold yielded
     rw [hd, Option.bind_some]
     cases hh : a.tmps[t]? with
     | none => simp [Array.getD, Array.getElem?_eq_none_iff.1 hh, undef]; have := Array.getElem?_eq_none_iff.1 hh; simp [Nat.not_lt.2 this]
     | some u => simp [Array.getD_eq_getD_getElem?, hh]; cases u <;> rfl
    have hv := hs t
    simp only [guardV] at h
    simp only [hy]
    split at h
    ·rename_i b' he
     rw [he] at hv
     rw [(rep_t hv).1]
     simp only [Option.some.injEq] at h
     rw [← h]
     cases b' <;> cases want <;> rfl
    ·rename_i he
     rw [he] at hv
     simp only [RepV] at hv
     obtain ⟨us, e1, e2⟩ := hv
     rw [e1]
     simp only [Option.some.injEq] at h
     rw [← h]
     rfl
    ·cases h
theorem step_sound {call : CallF} (hS : Sound c.G P call) {i : Nat} {e : OpE} (ho : ops[i]? = some o) (hag : agE P ops e o = true) {draw : Bool} {st st' : St} (h : stepO call draw e st = some st') (hsim : Sim c st a w) {K : Act → World → Prop} (hK : ∀ a' w', Sim c st' a' w' → K a' w') :
  wpOp P ops Q i K a w := by
 obtain ⟨B, ρ, Sf, hI, hs, hz, hl, hd⟩ := hsim
 simp only [agE, Bool.and_eq_true, beq_iff_eq] at hag
 obtain ⟨⟨h1, h2⟩, h3⟩ := hag
 unfold stepO at h
 obtain ⟨b, hb, h⟩ := Option.bind_eq_some_iff.1 h
 have hw := guard_ok (o := o) hs h2 hb
 unfold wpOp
 rw [ho]
 simp only [hw]
 cases b with
 | false =>
  simp only [Bool.false_eq_true, if_false, Option.some.injEq] at h ⊢
  subst h
  refine hK _ _ ?_
  rw [← h1]
  have := Sim.fin (d := e.d) (v := .tup []) (u := undef) hs hz hl hd hI rfl (fun _ _ h => h) (by simp only [RepV]; exact ⟨#[], rfl, by simp [RepVs]⟩)
  exact this
 | true =>
  simp only [if_true] at h ⊢
  obtain ⟨out, h4, h5⟩ := Option.map_eq_some_iff.1 h
  subst h5
  have hrun : (sem st.s (e.d.getD 0) e.o).run call (e.d.getD 0) st.r = some out := by
   cases draw with
   | true => exact runA_run (by simpa using h4)
   | false => simpa using h4
  refine .inl ?_
  have hdo := op_sound hS h3 hrun hI hs
  unfold Oper.wp
  rw [h1] at hK
  rcases hdo with ⟨u, w', hy, B', ρ', Sf', g1, g2, g3, g4⟩ | ⟨w', hy, B', ρ', Sf', g1, g2, g3, g4⟩ | ⟨f, us, hy, hc⟩
  ·unfold Yes at hy
   rw [hy, Oper.upon_value]
   exact hK _ _ (Sim.fin hs hz hl hd g1 g2 g3 g4)
  ·unfold Skips at hy
   rw [hy, Oper.upon_skip]
   exact hK _ _ (Sim.fin hs hz hl hd g1 g2 g3 g4)
  ·rw [hy, Oper.upon_enter]
   refine Calls.mono hc fun ee w' hp => ?_
   cases ee with
   | returned v =>
    obtain ⟨B', ρ', Sf', g1, g2, g3, g4⟩ := hp
    exact hK _ _ (Sim.fin hs hz hl hd g1 g2 g3 g4)
   | panicked ch => exact hp.elim
   | outgrown => exact hp.elim
def agV (P : Program) (e : OpE) (o : Oper) : Bool := match e.o, e.d, e.g, o.dst, o.guard, o.op with
 | .vst n (.s k) y, some k', none, none, none, .store t x' y' => k == k' && stB P t n && agO (.s k) x' && agO y y'
 | _, _, _, _, _, _ => false
theorem set_self {l : Array Value} {k : Nat} : l.setIfInBounds k (l.getD k undef) = l := by
 apply Array.ext_getElem?
 intro i
 rw [Array.getElem?_setIfInBounds]
 split
 ·rename_i e
  subst e
  split
  ·rename_i h; simp [Array.getD, h]
  ·rename_i h; exact (Array.getElem?_eq_none_iff.2 (Nat.le_of_not_lt h)).symm
 ·rfl
theorem put_self {a : Act} {k : Nat} : a.put (some k) (a.tmps.getD k undef) = a := by
 show ({ a with tmps := a.tmps.setIfInBounds k (a.tmps.getD k undef) } : Act) = a
 rw [set_self]
theorem stepV_sound {call : CallF} {i : Nat} {e : OpE} (ho : ops[i]? = some o) (hag : agV P e o = true) {st st' : St} (h : stepO call false e st = some st') (hsim : Sim c st a w) {K : Act → World → Prop} (hK : ∀ a' w', Sim c st' a' w' → K a' w') :
  wpOp P ops Q i K a w := by
 obtain ⟨B, ρ, Sf, hI, hs, hz, hl, hd⟩ := hsim
 unfold agV at hag
 split at hag
 ·rename_i n k y k' t x' y' e1 e2 e3 e4 e5 e6
  simp only [Bool.and_eq_true, beq_iff_eq] at hag
  obtain ⟨⟨⟨rfl, h1⟩, h2⟩, h3⟩ := hag
  have hx := hs.eval h2
  have hy := hs.eval h3
  unfold stepO at h
  rw [e1, e2, e3] at h
  simp only [guardV, Option.bind_some, if_true, Bool.false_eq_true, if_false] at h
  obtain ⟨out, h4, h5⟩ := Option.map_eq_some_iff.1 h
  subst h5
  have hw : Region.wanted o (yielded ops a.tmps) = true := by unfold Region.wanted; rw [e5]
  unfold wpOp
  rw [ho]
  simp only [hw]
  simp only [sem] at h4
  split at h4
  ·rename_i id cs g1 g2
   rw [g2] at hy
   split at h4
   ·rename_i hc
    simp only [M.run] at h4
    split at h4
    ·rename_i row stt fx hg
     split at h4
     ·rename_i hrow
      simp only [M.run, Option.some.injEq] at h4
      subst h4
      obtain ⟨w', Sf', k1, k2, k3, k4⟩ := vst_ok hI e6 h1 hy g1 hx hc.1 hc.2 hg hrow
      refine .inl ?_
      unfold Oper.wp
      unfold Skips at k1
      rw [k1, Oper.upon_skip, e4]
      have := Sim.fin (d := some k) (v := .vb id 0 (stt + 1) cs) (u := a.tmps.getD k undef) hs hz hl hd k2 (by rw [length_setE]) k3 (by
       have hev : a.eval x' = a.tmps.getD k undef := by
        cases x' <;> simp only [agO, beq_iff_eq] at h2 <;> first | (subst h2; rfl) | cases h2
       rw [← hev]
       exact k4)
      rw [put_self] at this
      exact hK _ _ this
     ·simp [M.run] at h4
    ·simp [M.run] at h4
   ·simp [M.run] at h4
  ·simp [M.run] at h4
 ·cases hag
theorem steps_soundV {call : CallF} (hS : Sound c.G P call) : ∀ (es : List OpE) (k : Nat) {st st' : St} {a : Act} {w : World}, (∀ (j : Nat) e, es[j]? = some e → ∃ o, ops[k + j]? = some o ∧ (agE P ops e o || agV P e o) = true) →
  stepsO call false es st = some st' → Sim c st a w → (∀ a' w', Sim c st' a' w' → Q .normal a' w') → wpOps P ops Q (List.range' k es.length) a w
 | [], k, st, st', a, w, _, h, hsim, hK => by
  simp only [stepsO, Option.some.injEq] at h
  subst h
  exact hK _ _ hsim
 | e :: es, k, st, st', a, w, hag, h, hsim, hK => by
  simp only [stepsO] at h
  obtain ⟨st1, h1, h2⟩ := Option.bind_eq_some_iff.1 h
  obtain ⟨o, ho, hago⟩ := hag 0 e rfl
  rw [List.length_cons, List.range'_succ, wpOps_cons]
  have rest : ∀ a' w', Sim c st1 a' w' → wpOps P ops Q (List.range' (k + 1) es.length) a' w' := fun a' w' hs' => steps_soundV hS es (k + 1) (fun j e' hj => by
   obtain ⟨o', e1, e2⟩ := hag (j + 1) e' (by simpa using hj)
   exact ⟨o', by rw [show k + 1 + j = k + (j + 1) by omega]; exact e1, e2⟩) h2 hs' hK
  rw [Bool.or_eq_true] at hago
  rcases hago with hago | hago
  ·exact step_sound hS (by simpa using ho) hago h1 hsim rest
  ·exact stepV_sound (by simpa using ho) hago h1 hsim rest
theorem steps_sound {call : CallF} (hS : Sound c.G P call) {draw : Bool} : ∀ (es : List OpE) (k : Nat) {st st' : St} {a : Act} {w : World}, (∀ (j : Nat) e, es[j]? = some e → ∃ o, ops[k + j]? = some o ∧ agE P ops e o = true) →
  stepsO call draw es st = some st' → Sim c st a w → (∀ a' w', Sim c st' a' w' → Q .normal a' w') → wpOps P ops Q (List.range' k es.length) a w
 | [], k, st, st', a, w, _, h, hsim, hK => by
  simp only [stepsO, Option.some.injEq] at h
  subst h
  exact hK _ _ hsim
 | e :: es, k, st, st', a, w, hag, h, hsim, hK => by
  simp only [stepsO] at h
  obtain ⟨st1, h1, h2⟩ := Option.bind_eq_some_iff.1 h
  obtain ⟨o, ho, hago⟩ := hag 0 e rfl
  rw [List.length_cons, List.range'_succ, wpOps_cons]
  exact step_sound hS (by simpa using ho) hago h1 hsim fun a' w' hs' => steps_sound hS es (k + 1) (fun j e' hj => by
   obtain ⟨o', e1, e2⟩ := hag (j + 1) e' (by simpa using hj)
   exact ⟨o', by rw [show k + 1 + j = k + (j + 1) by omega]; exact e1, e2⟩) h2 hs' hK
end
def opdT : Opd → List Nat
 | .s t => [t]
 | _ => []
def opdTs : List Opd → List Nat
 | [] => []
 | x :: xs => opdT x ++ opdTs xs
def optT : Option Opd → List Nat
 | none => []
 | some x => opdT x
def partsT : List (Nat × Nat × Opd) → List Nat
 | [] => []
 | x :: xs => opdT x.2.2 ++ partsT xs
def looks : O → List Nat
 | .mv x => opdT x
 | .pick c a b => opdT c ++ opdT a ++ opdT b
 | .alloc _ => []
 | .box x => opdT x
 | .vbox x => opdT x
 | .vst _ x y => opdT x ++ opdT y
 | .build _ ps => partsT ps
 | .bsl _ ps => opdTs ps
 | .ld _ _ x => opdT x
 | .st _ x y => opdT x ++ opdT y
 | .nilc x => opdT x
 | .bin _ x y => opdT x ++ opdT y
 | .eqs _ _ x y => opdT x ++ opdT y
 | .beq _ x y => opdT x ++ opdT y
 | .eqn _ x => opdT x
 | .un _ x => opdT x
 | .conv _ x => opdT x
 | .mks _ _ x => opdT x
 | .slc _ x lo hi => opdT x ++ optT lo ++ optT hi
 | .fa _ x => opdT x
 | .fld _ _ _ x => opdT x
 | .ia _ x i => opdT x ++ opdT i
 | .ix x i => opdT x ++ opdT i
 | .ixa _ _ _ x i => opdT x ++ opdT i
 | .call _ _ _ as => opdTs as
 | .callv x _ _ as => opdT x ++ opdTs as
 | .app _ _ s x => opdT s ++ opdT x
 | .len _ x => opdT x
 | .mm _ x y => opdT x ++ opdT y
 | .ext x _ => opdT x
 | .mkf _ caps => opdTs caps
def looksE (e : OpE) : List Nat := looks e.o ++ (match e.g with | some (t, _) => [t] | none => [])
theorem evalO_congr {s s' : List V} {x : Opd} (h : ∀ t ∈ opdT x, s'.getD t .dead = s.getD t .dead) : evalO s' x = evalO s x := by
 cases x with
 | s t => exact h t (by simp [opdT])
 | _ => rfl
theorem evalOs_congr {s s' : List V} : ∀ {xs : List Opd}, (∀ t ∈ opdTs xs, s'.getD t .dead = s.getD t .dead) → xs.map (evalO s') = xs.map (evalO s)
 | [], h => rfl
 | x :: xs, h => by
  simp only [opdTs, List.mem_append] at h
  simp only [List.map_cons]
  rw [evalO_congr fun t ht => h t (.inl ht), evalOs_congr fun t ht => h t (.inr ht)]
theorem bld_congr {s s' : List V} : ∀ {xs : List (Nat × Nat × Opd)} {z : List V}, (∀ t ∈ partsT xs, s'.getD t .dead = s.getD t .dead) → bld s' z xs = bld s z xs
 | [], z, h => rfl
 | x :: xs, z, h => by
  simp only [partsT, List.mem_append] at h
  simp only [bld]
  rw [evalO_congr fun t ht => h t (.inl ht)]
  split
  ·exact bld_congr fun t ht => h t (.inr ht)
  ·rfl
theorem sem_congr {s s' : List V} {d : Nat} {x : O} (h : ∀ t ∈ looks x, s'.getD t .dead = s.getD t .dead) : sem s' d x = sem s d x := by
 cases x <;> simp only [looks, List.mem_append] at h
 case mv x => simp only [sem]; rw [evalO_congr h]
 case pick p q t => simp only [sem]; rw [evalO_congr fun t ht => h t (.inl (.inl ht)), evalO_congr fun t ht => h t (.inl (.inr ht)), evalO_congr fun t ht => h t (.inr ht)]
 case alloc => simp only [sem]
 case box x => simp only [sem]; rw [evalO_congr h]
 case vbox x => simp only [sem]; rw [evalO_congr h]
 case vst n x y => simp only [sem]; rw [evalO_congr fun t ht => h t (.inl ht), evalO_congr fun t ht => h t (.inr ht)]
 case build z ps => simp only [sem]; rw [bld_congr h]
 case bsl sz ps =>
  simp only [sem]
  have := evalOs_congr h
  have h2 : ps.map (fun q => cellsOf (evalO s' q)) = ps.map (fun q => cellsOf (evalO s q)) := by
   have := congrArg (List.map cellsOf) this
   simpa using this
  rw [h2]
 case ld n ag x => simp only [sem]; rw [evalO_congr h]
 case st n x y => simp only [sem]; rw [evalO_congr fun t ht => h t (.inl ht), evalO_congr fun t ht => h t (.inr ht)]
 case nilc x => simp only [sem]; rw [evalO_congr h]
 case bin op x y => simp only [sem]; rw [evalO_congr fun t ht => h t (.inl ht), evalO_congr fun t ht => h t (.inr ht)]
 case eqs op ks x y => simp only [sem]; rw [evalO_congr fun t ht => h t (.inl ht), evalO_congr fun t ht => h t (.inr ht)]
 case beq op x y => simp only [sem]; rw [evalO_congr fun t ht => h t (.inl ht), evalO_congr fun t ht => h t (.inr ht)]
 case eqn ne x => simp only [sem]; rw [evalO_congr h]
 case un op x => simp only [sem]; rw [evalO_congr h]
 case conv cv x => simp only [sem]; rw [evalO_congr h]
 case mks z b x => simp only [sem]; rw [evalO_congr h]
 case slc sz x lo hi =>
  have e1 := evalO_congr (x := x) fun t ht => h t (.inl (.inl ht))
  have e2 : ∀ y, lo = some y → evalO s' y = evalO s y := fun y hy => evalO_congr fun t ht => h t (.inl (.inr (by rw [hy]; exact ht)))
  have e3 : ∀ y, hi = some y → evalO s' y = evalO s y := fun y hy => evalO_congr fun t ht => h t (.inr (by rw [hy]; exact ht))
  cases lo <;> cases hi <;> simp only [sem, e1] <;> first | rfl | (simp only [e2 _ rfl, e3 _ rfl]) | (simp only [e2 _ rfl]) | (simp only [e3 _ rfl])
 case fa off x => simp only [sem]; rw [evalO_congr h]
 case fld off n ag x => simp only [sem]; rw [evalO_congr h]
 case ia sz x i => simp only [sem]; rw [evalO_congr fun t ht => h t (.inl ht), evalO_congr fun t ht => h t (.inr ht)]
 case ix x i => simp only [sem]; rw [evalO_congr fun t ht => h t (.inl ht), evalO_congr fun t ht => h t (.inr ht)]
 case ixa sz len ag x i => simp only [sem]; rw [evalO_congr fun t ht => h t (.inl ht), evalO_congr fun t ht => h t (.inr ht)]
 case call f md own as => simp only [sem]; rw [evalOs_congr h]
 case callv x md own as => simp only [sem]; rw [evalO_congr fun t ht => h t (.inl ht), evalOs_congr fun t ht => h t (.inr ht)]
 case app sz b x y => simp only [sem]; rw [evalO_congr fun t ht => h t (.inl ht), evalO_congr fun t ht => h t (.inr ht)]
 case len str x => simp only [sem]; rw [evalO_congr h]
 case mm mx x y => simp only [sem]; rw [evalO_congr fun t ht => h t (.inl ht), evalO_congr fun t ht => h t (.inr ht)]
 case ext x i => simp only [sem]; rw [evalO_congr h]
 case mkf f caps => simp only [sem]; rw [evalOs_congr h]
theorem setE_getD_ne {r : R} {id : Id} {e : Ent} {t : Nat} (h : t ≠ id.1) : (setE r id e).getD t [] = r.getD t [] := by rw [setE_getD, if_neg h]
theorem set_getD {r : R} {d t : Nat} {es : List Ent} (hd : d < r.length) : (r.set d es).getD t [] = if t = d then es else r.getD t [] := by
 simp only [List.getD, List.getElem?_set]
 by_cases h : d = t
 ·subst h; simp [hd]
 ·rw [if_neg h, if_neg (fun e => h e.symm)]
theorem runA_frame {α : Type} {call : CallF} {d : Nat} {rd wr : List Nat} : ∀ {m : M α} {r r2 : R} {v : α} {r' : R}, m.runA call d rd wr r = some (v, r') → r2.length = r.length → (∀ t, t ∈ rd ∨ t ∈ wr → r2.getD t [] = r.getD t []) →
  ∃ r2', m.runA call d rd wr r2 = some (v, r2') ∧ r2'.length = r2.length ∧ r'.length = r.length ∧ (∀ t, t ∈ rd ∨ t ∈ wr → r2'.getD t [] = r'.getD t []) ∧ (∀ t, t ∉ wr → r2'.getD t [] = r2.getD t []) ∧ (∀ t, t ∉ wr → r'.getD t [] = r.getD t [])
 | .ret x, r, r2, v, r', h, hl, ha => by
  simp only [M.runA, Option.some.injEq, Prod.mk.injEq] at h ⊢
  obtain ⟨rfl, rfl⟩ := h
  exact ⟨r2, ⟨rfl, rfl⟩, rfl, rfl, ha, fun _ _ => rfl, fun _ _ => rfl⟩
 | .fail, r, r2, v, r', h, hl, ha => by simp [M.runA] at h
 | .get id k, r, r2, v, r', h, hl, ha => by
  simp only [M.runA] at h ⊢
  split at h
  ·rename_i hc
   have hm : id.1 ∈ rd ∨ id.1 ∈ wr := by simpa using hc
   have he : getE r2 id = getE r id := by simp only [getE, ha _ hm]
   rw [if_pos hc, he]
   exact runA_frame h hl ha
  ·cases h
 | .set id e m, r, r2, v, r', h, hl, ha => by
  simp only [M.runA] at h ⊢
  split at h
  ·rename_i hc
   rw [if_pos hc]
   have hm : id.1 ∈ wr := by simpa using hc
   obtain ⟨r2', g1, g2, g3, g4, g5, g6⟩ := runA_frame (r2 := setE r2 id e) h (by simp only [length_setE, hl]) (fun t ht => by
    rw [setE_getD, setE_getD]
    split
    ·rename_i e1; rw [ha t ht]
    ·exact ha t ht)
   refine ⟨r2', g1, by rw [g2, length_setE], by rw [g3, length_setE], g4, fun t ht => ?_, fun t ht => ?_⟩
   ·rw [g5 t ht, setE_getD_ne (fun e1 : t = id.1 => ht (e1 ▸ hm))]
   ·rw [g6 t ht, setE_getD_ne (fun e1 : t = id.1 => ht (e1 ▸ hm))]
  ·cases h
 | .new es m, r, r2, v, r', h, hl, ha => by
  simp only [M.runA] at h ⊢
  split at h
  ·rename_i hc
   have hc' := hc
   simp only [Bool.and_eq_true, decide_eq_true_eq] at hc
   obtain ⟨h1, h2, h3⟩ := hc
   have hm : d ∈ wr := by simpa using h1
   have h2' : d < r2.length := by omega
   rw [if_pos (by
    simp only [Bool.and_eq_true, decide_eq_true_eq]
    exact ⟨h1, h2', by rw [ha d (.inr hm)]; exact h3⟩)]
   obtain ⟨r2', g1, g2, g3, g4, g5, g6⟩ := runA_frame (r2 := r2.set d es) h (by simp only [List.length_set, hl]) (fun t ht => by
    rw [set_getD h2', set_getD h2]
    split
    ·rfl
    ·exact ha t ht)
   refine ⟨r2', g1, by rw [g2, List.length_set], by rw [g3, List.length_set], g4, fun t ht => ?_, fun t ht => ?_⟩
   ·rw [g5 t ht, set_getD h2', if_neg (fun e1 : t = d => ht (e1 ▸ hm))]
   ·rw [g6 t ht, set_getD h2, if_neg (fun e1 : t = d => ht (e1 ▸ hm))]
  ·cases h
 | .call f args k, r, r2, v, r', h, hl, ha => by
  simp only [M.runA] at h ⊢
  obtain ⟨res, h1, h2⟩ := Option.bind_eq_some_iff.1 h
  rw [h1, Option.bind_some]
  exact runA_frame h2 hl ha
def apartL (a b : List Nat) : Bool := a.all fun x => !b.contains x
theorem apartL_spec {a b : List Nat} (h : apartL a b = true) : ∀ x ∈ a, x ∉ b := by
 intro x hx
 simp only [apartL, List.all_eq_true, Bool.not_eq_true'] at h
 have := h x hx
 simpa using this
def commB (x y : OpE) : Bool :=
 (match x.d with | some d => !(looksE y).contains d && y.d != some d | none => true) && (match y.d with | some d => !(looksE x).contains d | none => true) && apartL x.wr (y.rd ++ y.wr) && apartL y.wr x.rd
theorem commB_spec {x y : OpE} (h : commB x y = true) : (∀ d, x.d = some d → d ∉ looksE y) ∧ (∀ d, x.d = some d → y.d ≠ some d) ∧ (∀ d, y.d = some d → d ∉ looksE x) ∧ (∀ t ∈ x.wr, t ∉ y.rd ∧ t ∉ y.wr) ∧ (∀ t ∈ y.wr, t ∉ x.rd) := by
 simp only [commB, Bool.and_eq_true] at h
 obtain ⟨⟨⟨h1, h2⟩, h3⟩, h4⟩ := h
 refine ⟨fun d hd => ?_, fun d hd => ?_, fun d hd => ?_, fun t ht => ?_, apartL_spec h4⟩
 ·rw [hd] at h1; simp only [Bool.and_eq_true, Bool.not_eq_true'] at h1; simpa using h1.1
 ·rw [hd] at h1; simp only [Bool.and_eq_true, bne_iff_ne] at h1; exact h1.2
 ·rw [hd] at h2; simpa using h2
 ·have := apartL_spec h3 t ht; rw [List.mem_append, not_or] at this; exact this
theorem put_getD {st : St} {d : Option Nat} {v : V} {t : Nat} (h : d ≠ some t) : ((st.put d v).s).getD t .dead = st.s.getD t .dead := by
 cases d with
 | none => rfl
 | some d =>
  have : d ≠ t := fun e => h (by rw [e])
  simp only [St.put, List.getD, List.getElem?_set]
  rw [if_neg this]
theorem put_r {st : St} {d : Option Nat} {v : V} : (st.put d v).r = st.r := by cases d <;> rfl
theorem put_s {st : St} {d : Option Nat} {v : V} {r : R} : (({ st with r := r } : St).put d v) = { (st.put d v) with r := r } := by cases d <;> rfl
theorem guard_congr {s s' : List V} {g : Option (Nat × Bool)} (h : ∀ t w, g = some (t, w) → s'.getD t .dead = s.getD t .dead) : guardV s' g = guardV s g := by
 cases g with
 | none => rfl
 | some q => obtain ⟨t, w⟩ := q; simp only [guardV]; rw [h t w rfl]
theorem stepO_iff {call : CallF} {e : OpE} {st st' : St} : stepO call true e st = some st' ↔ (∃ v r', guardV st.s e.g = some true ∧ (sem st.s (e.d.getD 0) e.o).runA call (e.d.getD 0) e.rd e.wr st.r = some (v, r') ∧ st' = ({ st with r := r' } : St).put e.d v) ∨
  (guardV st.s e.g = some false ∧ st' = st.put e.d (.tup [])) := by
 unfold stepO
 constructor
 ·intro h
  obtain ⟨b, hb, h⟩ := Option.bind_eq_some_iff.1 h
  cases b with
  | true =>
   simp only [if_true] at h
   obtain ⟨q, h1, h2⟩ := Option.map_eq_some_iff.1 h
   exact .inl ⟨q.1, q.2, hb, h1, h2.symm⟩
  | false =>
   simp only [Bool.false_eq_true, if_false, Option.some.injEq] at h
   exact .inr ⟨hb, h.symm⟩
 ·rintro (⟨v, r', hb, h1, h2⟩ | ⟨hb, h2⟩)
  ·rw [hb, Option.bind_some]
   simp only [if_true, h1, Option.map_some, h2]
  ·rw [hb, Option.bind_some]
   simp [h2]
theorem r_ext {r r' : R} (hl : r.length = r'.length) (h : ∀ t, r.getD t [] = r'.getD t []) : r = r' := by
 apply List.ext_getElem hl
 intro i h1 h2
 have := h i
 simpa [List.getD, h1, h2] using this
theorem put_comm {s : List V} {d1 d2 : Option Nat} {v1 v2 : V} {r : R} (h : ∀ d, d1 = some d → d2 ≠ some d) : ((⟨s, r⟩ : St).put d1 v1).put d2 v2 = ((⟨s, r⟩ : St).put d2 v2).put d1 v1 := by
 cases d1 with
 | none => rfl
 | some d => cases d2 with
  | none => rfl
  | some d' =>
   have : d ≠ d' := fun e => h d rfl (by rw [e])
   simp only [St.put, St.mk.injEq, and_true]
   exact List.set_comm _ _ this
theorem comm_step {call : CallF} {x y : OpE} (hc : commB x y = true) {st s1 s2 : St} (h1 : stepO call true x st = some s1) (h2 : stepO call true y s1 = some s2) : ∃ s1', stepO call true y st = some s1' ∧ stepO call true x s1' = some s2 := by
 obtain ⟨c1, c2, c3, c4, c5⟩ := commB_spec hc
 have hgx : ∀ {st : St} {v : V}, guardV ((st.put y.d v).s) x.g = guardV st.s x.g := fun {st v} => guard_congr fun t w e => put_getD (fun e' => c3 t e' (by simp [looksE, e]))
 have hgy : ∀ {st : St} {v : V}, guardV ((st.put x.d v).s) y.g = guardV st.s y.g := fun {st v} => guard_congr fun t w e => put_getD (fun e' => c1 t e' (by simp [looksE, e]))
 have hsx : ∀ {st : St} {v : V} {d : Nat}, sem ((st.put y.d v).s) d x.o = sem st.s d x.o := fun {st v d} => sem_congr fun t ht => put_getD (fun e' => c3 t e' (by simp [looksE, ht]))
 have hsy : ∀ {st : St} {v : V} {d : Nat}, sem ((st.put x.d v).s) d y.o = sem st.s d y.o := fun {st v d} => sem_congr fun t ht => put_getD (fun e' => c1 t e' (by simp [looksE, ht]))
 obtain ⟨s, r⟩ := st
 rcases stepO_iff.1 h1 with ⟨v1, r1, g1, m1, e1⟩ | ⟨g1, e1⟩ <;> rcases stepO_iff.1 h2 with ⟨v2, r2, g2, m2, e2⟩ | ⟨g2, e2⟩
 ·subst e1
  rw [hgy] at g2
  rw [hsy, put_r] at m2
  obtain ⟨ry, n1, n2, n3, n4, n5, n6⟩ := runA_frame (r2 := r) m2 (by
   obtain ⟨_, _, _, f3, _⟩ := runA_frame (r2 := r) m1 rfl (fun _ _ => rfl)
   exact f3.symm) (fun t ht => by
   obtain ⟨_, _, _, _, _, _, f6⟩ := runA_frame (r2 := r) m1 rfl (fun _ _ => rfl)
   refine (f6 t fun hx => ?_).symm
   have := c4 t hx
   rcases ht with ht | ht
   ·exact this.1 ht
   ·exact this.2 ht)
  obtain ⟨rx, k1, k2, k3, k4, k5, k6⟩ := runA_frame (r2 := ry) m1 n2 (fun t ht => n5 t fun hy => by
   rcases ht with ht | ht
   ·exact c5 t hy ht
   ·exact (c4 t ht).2 hy)
  have hr : rx = r2 := by
   refine r_ext (by rw [k2, n2, n3, k3]) fun t => ?_
   by_cases hx : t ∈ x.wr
   ·rw [k4 t (.inr hx), n6 t fun hy => (c4 t hx).2 hy]
   ·rw [k5 t hx]
    by_cases hy : t ∈ y.wr
    ·exact n4 t (.inr hy)
    ·rw [n5 t hy, n6 t hy, k6 t hx]
  subst hr
  refine ⟨({ s := s, r := ry } : St).put y.d v2, stepO_iff.2 (.inl ⟨v2, ry, g2, n1, rfl⟩), stepO_iff.2 (.inl ⟨v1, rx, by rw [hgx]; exact g1, by rw [hsx, put_r]; exact k1, ?_⟩)⟩
  rw [e2, put_s, put_s, put_s, put_s]
  have := put_comm (s := s) (v1 := v1) (v2 := v2) (r := rx) c2
  cases hd1 : x.d <;> cases hd2 : y.d <;> simp only [hd1, hd2, St.put] at this ⊢ <;> exact this
 ·subst e1
  rw [hgy] at g2
  refine ⟨({ s := s, r := r } : St).put y.d (.tup []), stepO_iff.2 (.inr ⟨g2, rfl⟩), stepO_iff.2 (.inl ⟨v1, r1, by rw [hgx]; exact g1, by rw [hsx, put_r]; exact m1, ?_⟩)⟩
  rw [e2]
  have := put_comm (s := s) (v1 := v1) (v2 := .tup []) (r := r1) c2
  cases hd1 : x.d <;> cases hd2 : y.d <;> simp only [hd1, hd2, St.put] at this ⊢ <;> exact this
 ·subst e1
  rw [hgy] at g2
  rw [hsy, put_r] at m2
  refine ⟨({ s := s, r := r2 } : St).put y.d v2, stepO_iff.2 (.inl ⟨v2, r2, g2, m2, rfl⟩), stepO_iff.2 (.inr ⟨by rw [hgx]; exact g1, ?_⟩)⟩
  rw [e2]
  have := put_comm (s := s) (v1 := .tup []) (v2 := v2) (r := r2) c2
  cases hd1 : x.d <;> cases hd2 : y.d <;> simp only [hd1, hd2, St.put] at this ⊢ <;> exact this
 ·subst e1
  rw [hgy] at g2
  refine ⟨({ s := s, r := r } : St).put y.d (.tup []), stepO_iff.2 (.inr ⟨g2, rfl⟩), stepO_iff.2 (.inr ⟨by rw [hgx]; exact g1, ?_⟩)⟩
  rw [e2]
  exact put_comm c2
end TT
namespace TT
open Go
section
variable {P : Program} {c : Ctx} {w w' : World} {a : Act} {o : Oper} {ops : Array Oper} {Q : Exit → Act → World → Prop} {call : CallF} {es : List OpE}
def AnyR (call : CallF) (es : List OpE) (ops : Array Oper) (st' : St) : Nat → Array Bool → St → Prop
 | 0, listed, st => Region.ready .any ops listed = [] ∧ st = st'
 | n + 1, listed, st => (Region.ready .any ops listed = [] → st = st') ∧ ∀ i ∈ Region.ready .any ops listed, ∃ e st1, es[i]? = some e ∧ stepO call true e st = some st1 ∧ AnyR call es ops st' n (listed.setIfInBounds i true) st1
theorem anyR_sound (hS : Sound c.G P call) (hag : ∀ (j : Nat) e, es[j]? = some e → ∃ o, ops[j]? = some o ∧ agE P ops e o = true) {st' : St} (hK : ∀ a' w', Sim c st' a' w' → Q .normal a' w') :
  ∀ (n : Nat) {listed : Array Bool} {st : St} {a : Act} {w : World}, AnyR call es ops st' n listed st → Sim c st a w → wpAny P .any ops Q n listed a w
 | 0, listed, st, a, w, h, hs => ⟨h.1, hK _ _ (h.2 ▸ hs)⟩
 | n + 1, listed, st, a, w, h, hs => by
  refine ⟨fun h0 => hK _ _ (h.1 h0 ▸ hs), fun i hi => ?_⟩
  obtain ⟨e, st1, h1, h2, h3⟩ := h.2 i hi
  obtain ⟨o, g1, g2⟩ := hag i e h1
  exact step_sound hS g1 g2 h2 hs fun a' w' hs' => anyR_sound hS hag hK n h3 hs'
theorem anyR_first {st' : St} {i : Nat} {ei : OpE} (hi : es[i]? = some ei) : ∀ (n : Nat) {listed : Array Bool} {st s1 : St},
  (∀ j ej oj, es[j]? = some ej → ops[j]? = some oj → j ≠ i → listed.getD j true = false → (∀ e ∈ oj.after, Region.binds .any e = true → e.on ≠ i) → commB ei ej = true) →
  i ∈ Region.ready .any ops listed → stepO call true ei st = some s1 → AnyR call es ops st' n (listed.setIfInBounds i true) s1 → AnyR call es ops st' (n + 1) listed st := by
 intro n
 induction n with
 | zero =>
  intro listed st s1 _ hr h1 H
  refine ⟨fun h => (by rw [h] at hr; cases hr), fun j hj => ?_⟩
  by_cases hji : j = i
  ·subst hji; exact ⟨ei, s1, hi, h1, H⟩
  ·have := ready_mono hj hji
   rw [H.1] at this
   cases this
 | succ n ih =>
  intro listed st s1 hfree hr h1 H
  refine ⟨fun h => (by rw [h] at hr; cases hr), fun j hj => ?_⟩
  by_cases hji : j = i
  ·subst hji; exact ⟨ei, s1, hi, h1, H⟩
  ·obtain ⟨ej, s2, g1, g2, g3⟩ := H.2 j (ready_mono hj hji)
   obtain ⟨hjun, oj, hoj, hall⟩ := mem_ready.1 hj
   have hnot : ∀ e ∈ oj.after, Region.binds .any e = true → e.on ≠ i := fun e he hb heq => by
    have h1 := hall e he hb
    have h0 := (mem_ready.1 hr).1
    rw [heq] at h1
    rcases Nat.lt_or_ge i listed.size with h' | h'
    ·simp [h'] at h0 h1; rw [h0] at h1; cases h1
    ·simp [Array.getElem?_eq_none h'] at h1
   obtain ⟨s1', k1, k2⟩ := comm_step (hfree j ej oj g1 hoj hji hjun hnot) h1 g2
   refine ⟨ej, s1', g1, k1, ?_⟩
   refine ih (fun k ek ok hek hk hki hun hno => ?_) (ready_mono hr (Ne.symm hji)) k2 (by rw [Array.setIfInBounds_comm _ _ hji]; exact g3)
   refine hfree k ek ok hek hk hki ?_ hno
   by_cases hjk : j = k
   ·subst hjk; exact hjun
   ·rw [getD_set_ne true hjk] at hun; exact hun
theorem anyR_firstD {st' : St} {i : Nat} {ei : OpE} {dep : Nat → Bool} (hi : es[i]? = some ei) (hd : ∀ j oj, ops[j]? = some oj → dep j = true → ∃ e ∈ oj.after, Region.binds .any e = true ∧ (e.on = i ∨ dep e.on = true)) : ∀ (n : Nat) {listed : Array Bool} {st s1 : St},
  (∀ m, listed.getD m false = true → dep m = false) → (∀ j ej oj, es[j]? = some ej → ops[j]? = some oj → j ≠ i → listed.getD j true = false → dep j = false → commB ei ej = true) →
  i ∈ Region.ready .any ops listed → stepO call true ei st = some s1 → AnyR call es ops st' n (listed.setIfInBounds i true) s1 → AnyR call es ops st' (n + 1) listed st := by
 intro n
 induction n with
 | zero =>
  intro listed st s1 _ _ hr h1 H
  refine ⟨fun h => (by rw [h] at hr; cases hr), fun j hj => ?_⟩
  by_cases hji : j = i
  ·subst hji; exact ⟨ei, s1, hi, h1, H⟩
  ·have := ready_mono hj hji
   rw [H.1] at this
   cases this
 | succ n ih =>
  intro listed st s1 hl hfree hr h1 H
  refine ⟨fun h => (by rw [h] at hr; cases hr), fun j hj => ?_⟩
  by_cases hji : j = i
  ·subst hji; exact ⟨ei, s1, hi, h1, H⟩
  ·obtain ⟨ej, s2, g1, g2, g3⟩ := H.2 j (ready_mono hj hji)
   obtain ⟨hjun, oj, hoj, hall⟩ := mem_ready.1 hj
   have hdj : dep j = false := by
    cases hdj : dep j with
    | false => rfl
    | true =>
     obtain ⟨e, he, hb, hor⟩ := hd j oj hoj hdj
     have h1 := hall e he hb
     rcases hor with heq | hor
     ·have h0 := (mem_ready.1 hr).1
      rw [heq] at h1
      rcases Nat.lt_or_ge i listed.size with h' | h'
      ·simp [h'] at h0 h1; rw [h0] at h1; cases h1
      ·simp [Array.getElem?_eq_none h'] at h1
     ·have := hl e.on (by
       rcases Nat.lt_or_ge e.on listed.size with h' | h'
       ·simpa [h'] using h1
       ·simp [Array.getElem?_eq_none h'] at h1)
      rw [hor] at this
      cases this
   obtain ⟨s1', k1, k2⟩ := comm_step (hfree j ej oj g1 hoj hji hjun hdj) h1 g2
   refine ⟨ej, s1', g1, k1, ?_⟩
   refine ih (fun m hm => ?_) (fun k ek ok hek hk hki hun hno => ?_) (ready_mono hr (Ne.symm hji)) k2 (by rw [Array.setIfInBounds_comm _ _ hji]; exact g3)
   ·by_cases hjm : j = m
    ·subst hjm; exact hdj
    ·rw [getD_set_ne false hjm] at hm; exact hl m hm
   ·refine hfree k ek ok hek hk hki ?_ hno
    by_cases hjk : j = k
    ·subst hjk; exact hjun
    ·rw [getD_set_ne true hjk] at hun; exact hun
def depA (ops : Array Oper) (i : Nat) : Array Bool := (List.range ops.size).foldl (fun dep j => dep.push (match ops[j]? with | some oj => oj.after.any (fun e => Region.binds .any e && (e.on == i || dep.getD e.on false)) | none => false)) #[]
def depOk (ops : Array Oper) (listed : Array Bool) (i : Nat) (dep : Array Bool) : Bool := (List.range ops.size).all fun j => !dep.getD j false || (!listed.getD j false && (match ops[j]? with | some oj => oj.after.any (fun e => Region.binds .any e && (e.on == i || dep.getD e.on false)) | none => false))
def freeE (es : List OpE) (ops : Array Oper) (listed : Array Bool) (i : Nat) (dep : Array Bool) : Bool := match es[i]? with
 | none => false
 | some ei => depOk ops listed i dep && dep.size == ops.size && (List.range ops.size).all fun j => j == i || listed.getD j true || dep.getD j false || (match es[j]? with | some ej => commB ei ej | none => true)
def freeD (es : List OpE) (ops : Array Oper) (listed : Array Bool) (i : Nat) : Bool := freeE es ops listed i (depA ops i)
theorem freeE_spec {i : Nat} {ei : OpE} {listed dep : Array Bool} (hi : es[i]? = some ei) (h : freeE es ops listed i dep = true) :
  (∀ j oj, ops[j]? = some oj → dep.getD j false = true → ∃ e ∈ oj.after, Region.binds .any e = true ∧ (e.on = i ∨ dep.getD e.on false = true)) ∧ (∀ m, listed.getD m false = true → dep.getD m false = false) ∧
  (∀ j ej oj, es[j]? = some ej → ops[j]? = some oj → j ≠ i → listed.getD j true = false → dep.getD j false = false → commB ei ej = true) := by
 simp only [freeE, hi, depOk, Bool.and_eq_true, List.all_eq_true, List.mem_range, beq_iff_eq] at h
 obtain ⟨⟨h1, h2⟩, h3⟩ := h
 refine ⟨fun j oj hoj hd => ?_, fun m hm => ?_, fun j ej oj hej hoj hne hun hd => ?_⟩
 ·have := h1 j (Array.getElem?_eq_some_iff.1 hoj).1
  rw [hd, hoj] at this
  simp only [Bool.not_true, Bool.false_or, Bool.and_eq_true] at this
  obtain ⟨e, he, hb⟩ := Array.any_eq_true'.1 this.2
  simp only [Bool.and_eq_true, Bool.or_eq_true, beq_iff_eq] at hb
  exact ⟨e, he, hb.1, hb.2⟩
 ·cases hd : dep.getD m false with
  | false => rfl
  | true =>
   rcases Nat.lt_or_ge m ops.size with h' | h'
   ·have := h1 m h'
    rw [hd, hm] at this
    simp at this
   ·rw [← h2] at h'
    simp [Array.getD, Nat.not_lt.2 h'] at hd
 ·have := h3 j (Array.getElem?_eq_some_iff.1 hoj).1
  simpa [hej, hne, hun, hd] using this
def freeC (es : List OpE) (ops : Array Oper) (listed : Array Bool) (i : Nat) : Bool :=
 match es[i]? with
 | none => false
 | some ei => (List.range ops.size).all fun j => j == i || listed.getD j true || (match ops[j]? with | some oj => oj.after.any (fun e => Region.binds .any e && e.on == i) | none => true) || (match es[j]? with | some ej => commB ei ej | none => true)
def lexC (es : List OpE) (ops : Array Oper) : Nat → Nat → Array Bool → Bool
 | 0, _, listed => (Region.ready .any ops listed).isEmpty
 | n + 1, k, listed => (Region.ready .any ops listed).contains k && (freeC es ops listed k || freeD es ops listed k) && lexC es ops n (k + 1) (listed.setIfInBounds k true)
theorem freeC_spec {i : Nat} {ei : OpE} {listed : Array Bool} (hi : es[i]? = some ei) (h : freeC es ops listed i = true) (j : Nat) (ej : OpE) (oj : Oper) (hej : es[j]? = some ej) (hoj : ops[j]? = some oj) (hne : j ≠ i) (hun : listed.getD j true = false) (hno : ∀ e ∈ oj.after, Region.binds .any e = true → e.on ≠ i) : commB ei ej = true := by
 simp only [freeC, hi, List.all_eq_true, List.mem_range] at h
 have h1 := h j (Array.getElem?_eq_some_iff.1 hoj).1
 simp only [hoj, hej, Bool.or_eq_true, beq_iff_eq, hne, false_or, hun, Bool.false_eq_true] at h1
 rcases h1 with h1 | h1
 ·obtain ⟨e, he, hb⟩ := Array.any_eq_true'.1 h1
  simp only [Bool.and_eq_true, beq_iff_eq] at hb
  exact absurd hb.2 (hno e he hb.1)
 ·exact h1
theorem anyR_lex {st' : St} : ∀ (l : List OpE) (k : Nat) {listed : Array Bool} {st : St}, (∀ j, l[j]? = es[k + j]?) → lexC es ops l.length k listed = true → stepsO call true l st = some st' → AnyR call es ops st' l.length listed st
 | [], k, listed, st, hl, hB, h => by
  simp only [stepsO, Option.some.injEq] at h
  exact ⟨by simpa [lexC] using hB, h⟩
 | e :: l, k, listed, st, hl, hB, h => by
  have h0 : es[k]? = some e := by simpa using (hl 0).symm
  simp only [List.length_cons, lexC, Bool.and_eq_true] at hB
  obtain ⟨⟨hr, hf⟩, hB'⟩ := hB
  simp only [stepsO] at h
  obtain ⟨st1, h1, h2⟩ := Option.bind_eq_some_iff.1 h
  have hrest := (anyR_lex l (k + 1) (fun j => by have := hl (j + 1); simpa [Nat.add_assoc, Nat.add_comm 1 j] using this) hB' h2)
  rw [Bool.or_eq_true] at hf
  rcases hf with hf | hf
  ·exact anyR_first h0 l.length (freeC_spec h0 hf) (by simpa using hr) h1 hrest
  ·obtain ⟨f1, f2, f3⟩ := freeE_spec h0 hf
   exact anyR_firstD (dep := fun j => (depA ops k).getD j false) h0 f1 l.length f2 f3 (by simpa using hr) h1 hrest
def agEs (P : Program) (ops : Array Oper) : List OpE → List Oper → Bool
 | [], [] => true
 | e :: es, o :: os => agE P ops e o && agEs P ops es os
 | _, _ => false
theorem agEs_spec : ∀ {es : List OpE} {os : List Oper}, agEs P ops es os = true → es.length = os.length ∧ ∀ (j : Nat) e, es[j]? = some e → ∃ o, os[j]? = some o ∧ agE P ops e o = true
 | [], [], h => ⟨rfl, fun j e h => by simp at h⟩
 | [], o :: os, h => by simp [agEs] at h
 | e :: es, [], h => by simp [agEs] at h
 | e :: es, o :: os, h => by
  simp only [agEs, Bool.and_eq_true] at h
  obtain ⟨h1, h2⟩ := agEs_spec h.2
  refine ⟨by simp [h1], fun j e' hj => ?_⟩
  cases j with
  | zero => simp at hj; subst hj; exact ⟨o, by simp, h.1⟩
  | succ j => obtain ⟨o', g1, g2⟩ := h2 j e' (by simpa using hj); exact ⟨o', by simpa using g1, g2⟩
def agVs (P : Program) (ops : Array Oper) : List OpE → List Oper → Bool
 | [], [] => true
 | e :: es, o :: os => (agE P ops e o || agV P e o) && agVs P ops es os
 | _, _ => false
theorem agVs_spec : ∀ {es : List OpE} {os : List Oper}, agVs P ops es os = true → es.length = os.length ∧ ∀ (j : Nat) e, es[j]? = some e → ∃ o, os[j]? = some o ∧ (agE P ops e o || agV P e o) = true
 | [], [], h => ⟨rfl, fun j e h => by simp at h⟩
 | [], o :: os, h => by simp [agVs] at h
 | e :: es, [], h => by simp [agVs] at h
 | e :: es, o :: os, h => by
  simp only [agVs] at h
  rw [Bool.and_eq_true] at h
  obtain ⟨h1, h2⟩ := agVs_spec h.2
  refine ⟨by simp [h1], fun j e' hj => ?_⟩
  cases j with
  | zero => simp at hj; subst hj; exact ⟨o, by simp, h.1⟩
  | succ j => obtain ⟨o', g1, g2⟩ := h2 j e' (by simpa using hj); exact ⟨o', by simpa using g1, g2⟩
def agR (P : Program) (draw draw' : Bool) (es : List OpE) (ops : Array Oper) : Bool := draw == draw' && (if draw then agEs P ops es ops.toList && lexC es ops es.length 0 (Array.replicate ops.size false) else agVs P ops es ops.toList)
theorem Sim.drew {st : St} {a : Act} {w : World} (h : Sim c st a w) : Sim c st a { w with drawn := w.drawn + 1 } := by
 obtain ⟨B, ρ, Sf, hI, hs, hz, hl, hd⟩ := h
 refine ⟨B, ρ, Sf, ?_, ?_, hz, hl, hd⟩
 ·exact hI.world (fun _ _ _ => rfl) (Nat.le_refl _) rfl rfl rfl (fun _ h => h) (fun _ h => .inl h) hI.inB (fun _ h => .inl h) (fun _ h => h.elim) (fun _ h => h.elim)
 ·exact fun t => claims_world (w := w) (w' := { w with drawn := w.drawn + 1 }) (fun _ h => h) (fun _ _ => rfl) (fun id rows stt fx hg => ⟨Sf id, (hI.mem hg).1, fun _ _ => rfl⟩) (hs t)
theorem region_sound (hS : Sound c.G P call) (hm : P.follows .mixedOrders = true) {draw draw' : Bool} {id : Nat} (hag : agR P draw draw' es ops = true) {st st' : St} (h : stepsO call draw es st = some st') {a : Act} {w : World} (hs : Sim c st a w) (hK : ∀ a' w', Sim c st' a' w' → Q .normal a' w') :
  (Code.region id ops draw').wp P Q a w := by
 simp only [agR, Bool.and_eq_true, beq_iff_eq] at hag
 obtain ⟨rfl, h1⟩ := hag
 cases draw with
 | false =>
  simp only [Bool.false_eq_true, if_false] at h1
  obtain ⟨hl, hA⟩ := agVs_spec h1
  have hl' : es.length = ops.size := by simpa using hl
  refine wp_region ?_
  rw [List.range_eq_range', ← hl']
  exact steps_soundV hS es 0 (fun j e hj => by
   rw [Nat.zero_add]
   obtain ⟨o, g1, g2⟩ := hA j e hj
   exact ⟨o, by simpa using g1, g2⟩) h hs hK
 | true =>
  simp only [if_true, Bool.and_eq_true] at h1
  obtain ⟨h1, h2⟩ := h1
  obtain ⟨hl, hA⟩ := agEs_spec h1
  have hA' : ∀ (j : Nat) e, es[j]? = some e → ∃ o, ops[j]? = some o ∧ agE P ops e o = true := fun j e hj => by
   obtain ⟨o, g1, g2⟩ := hA j e hj
   exact ⟨o, by simpa using g1, g2⟩
  have hl' : es.length = ops.size := by simpa using hl
  refine wp_region_any hm ?_
  rw [← hl']
  refine anyR_sound hS hA' hK es.length (anyR_lex es 0 (fun j => by simp) ?_ h) hs.drew
  rw [← hl'] at h2
  exact h2
theorem Sim.kill {st : St} {a : Act} {w : World} (h : Sim c st a w) (ts : List Nat) : Sim c { st with s := ts.foldl (fun s t => s.set t .dead) st.s } a w := by
 obtain ⟨B, ρ, Sf, hI, hs, hz, hl, hd⟩ := h
 have key : ∀ (ts : List Nat) (s : List V), Slots w B ρ st.r s a → Slots w B ρ st.r (ts.foldl (fun s t => s.set t .dead) s) a ∧ (ts.foldl (fun s t => s.set t .dead) s).length = s.length := by
  intro ts
  induction ts with
  | nil => exact fun s h => ⟨h, rfl⟩
  | cons t ts ih =>
   intro s h
   have h1 : Slots w B ρ st.r (s.set t .dead) a := by
    intro t'
    by_cases e : t = t'
    ·subst e
     have : (s.set t .dead).getD t .dead = .dead := by
      simp only [List.getD, List.getElem?_set]
      by_cases hl : t < s.length <;> simp [hl]
     rw [this]; simp only [RepV]
    ·have : (s.set t .dead).getD t' .dead = s.getD t' .dead := by simp [List.getD, List.getElem?_set, e]
     rw [this]; exact h t'
   obtain ⟨g1, g2⟩ := ih _ h1
   exact ⟨g1, by simpa using g2⟩
 obtain ⟨g1, g2⟩ := key ts st.s hs
 exact ⟨B, ρ, Sf, hI, g1, by rw [hz, g2], by rw [hl, g2], hd⟩
theorem Sim.freeze {st : St} {a : Act} {w : World} (h : Sim c st a w) {t : Nat} {x : V × R} (hrun : (freezeV (st.s.getD t .dead) .ret).run (fun _ _ => none) 0 st.r = some x) : Sim c { s := st.s.set t x.1, r := x.2 } a w := by
 obtain ⟨B, ρ, Sf, hI, hs, hz, hl, hd⟩ := h
 have ht := hs t
 cases hv : st.s.getD t .dead with
 | ref id n =>
  rw [hv] at hrun ht
  simp only [freezeV, M.run] at hrun
  cases he : getE st.r id with
  | dead => rw [he] at hrun; simp [M.run] at hrun
  | mem rows stt fx =>
   rw [he] at hrun
   simp only at hrun
   split at hrun
   ·rename_i hc
    simp only [M.run, Option.some.injEq] at hrun
    subst hrun
    have ht0 := ht
    simp only [RepV] at ht
    have hu := (ht.2.2 rows stt fx he).2 hc.1
    have hL := lend_root (r0 := st.r) hI he
    have hI2 := hL.inv.share (Y := Sf id) (X' := fun _ => False) (fun b hb => .inr hb) (fun b hb => hb.elim) (fun b hb => hb.elim)
    have hcl : ∀ v u, RepV w B ρ st.r v u → RepV w (fun b => B b ∨ Sf id b) ρ (setE st.r id .dead) v u := fun v u hh => claims_world (fun _ h => .inl h) (fun _ _ => rfl) (fun j => kept_refl hL.inv j) (hL.claims v u hh)
    have hf := OwC.frz (B := B) (B' := fun b => B b ∨ Sf id b) (fun _ h => .inl h) (t := .sl true rows) (u := a.tmps.getD t undef) (S := Sf id) (fun _ h => .inr h) (OwC_sl.2 ⟨_, _, by rw [hc.1]; exact hu, (hI.mem he).1⟩)
    simp only [TT.frz] at hf
    refine ⟨_, ρ, _, hI2, ?_, by simpa using hz, by rw [length_setE]; simpa using hl, hd⟩
    intro t'
    by_cases e : t = t'
    ·subst e
     by_cases hlt : t < st.s.length
     ·have : (st.s.set t (.t (.sl false (frzRs rows)))).getD t .dead = .t (.sl false (frzRs rows)) := by simp [List.getD, hlt]
      rw [this]
      simp only [RepV]
      exact ⟨hf, by rw [hu]; rfl⟩
     ·have : (st.s.set t (.t (.sl false (frzRs rows)))).getD t .dead = .dead := by simp [List.getD, List.getElem?_set, hlt]
      rw [this]; simp only [RepV]
    ·have : (st.s.set t (.t (.sl false (frzRs rows)))).getD t' .dead = st.s.getD t' .dead := by simp [List.getD, List.getElem?_set, e]
     rw [this]; exact hcl _ _ (hs t')
   ·simp [M.run] at hrun
 | nil =>
  rw [hv] at hrun ht
  simp only [freezeV, M.run, Option.some.injEq] at hrun
  subst hrun
  refine ⟨B, ρ, Sf, hI, ?_, by simpa using hz, by simpa using hl, hd⟩
  intro t'
  by_cases e : t = t'
  ·subst e
   by_cases hlt : t < st.s.length
   ·have : (st.s.set t (.t (.sl false []))).getD t .dead = .t (.sl false []) := by simp [List.getD, hlt]
    rw [this]
    simp only [RepV] at ht ⊢
    rw [ht]
    refine ⟨?_, rfl⟩
    simp only [ShC]
    exact ⟨none, 0, rfl, Nat.le_refl _, by decide, .inl trivial⟩
   ·have : (st.s.set t (.t (.sl false []))).getD t .dead = .dead := by simp [List.getD, List.getElem?_set, hlt]
    rw [this]; simp only [RepV]
  ·have : (st.s.set t (.t (.sl false []))).getD t' .dead = st.s.getD t' .dead := by simp [List.getD, List.getElem?_set, e]
   rw [this]; exact hs t'
 | t c =>
  rw [hv] at hrun ht
  cases c <;> try (simp [freezeV, M.run] at hrun; done)
  simp only [freezeV, M.run, Option.some.injEq] at hrun
  subst hrun
  refine ⟨B, ρ, Sf, hI, ?_, by simpa using hz, by simpa using hl, hd⟩
  intro t'
  by_cases e : t = t'
  ·subst e
   have : (st.s.set t (st.s.getD t .dead)).getD t .dead = st.s.getD t .dead := by
    by_cases hlt : t < st.s.length <;> simp [List.getD, hlt]
   rw [hv] at this
   show RepV w B ρ st.r ((st.s.set t _).getD t .dead) _
   rw [this]; exact ht
  ·have : ∀ v, (st.s.set t v).getD t' .dead = st.s.getD t' .dead := by intro v; simp [List.getD, List.getElem?_set, e]
   show RepV w B ρ st.r ((st.s.set t _).getD t' .dead) _
   rw [this]; exact hs t'
 | ptr id p i off n st0 =>
  rw [hv] at hrun ht
  simp only [freezeV] at hrun
  split at hrun
  ·rename_i hcond
   simp only [Bool.and_eq_true, List.isEmpty_iff, beq_iff_eq] at hcond
   obtain ⟨rfl, rfl, rfl⟩ := hcond
   simp only [M.run] at hrun
   split at hrun
   ·rename_i cells stt fx he
    split at hrun
    ·rename_i hc
     simp only [M.run, Option.some.injEq] at hrun
     subst hrun
     simp only [RepV] at ht
     obtain ⟨_, ad, hu, hp⟩ := ht
     obtain ⟨_, g2⟩ := (hp _ _ _ he).2.2 (fun _ => rfl) (fun h => absurd rfl h)
     obtain ⟨b, o, ⟨l1, row, l2, l3, l4⟩, rfl⟩ := g2 cells (by simp [getP]) hc.1
     have hL := lend_root (r0 := st.r) hI he
     have hI2 := hL.inv.share (Y := Sf id) (X' := fun _ => False) (fun b hb => .inr hb) (fun b hb => hb.elim) (fun b hb => hb.elim)
     have hcl : ∀ v u, RepV w B ρ st.r v u → RepV w (fun b => B b ∨ Sf id b) ρ (setE st.r id .dead) v u := fun v u hh => claims_world (fun _ h => .inl h) (fun _ _ => rfl) (fun j => kept_refl hL.inv j) (hL.claims v u hh)
     have hm := (hI.mem he).1
     have hsh : (B b ∨ Sf id b) ∧ ShR w (fun b => B b ∨ Sf id b) b o ((frzR cells).drop off) := by
      rcases hm with ⟨_, _, h, _⟩ | ⟨b', sz, e, cur, S', e1, e2, e3, e4, e5, e6, e7, e8⟩
      ·cases h
      ·rw [l1] at e1
       cases e1
       simp only [OwRs] at e8
       obtain ⟨S1, S2, _, h1, _, h3⟩ := e8
       have := ShR.drop _ off (OwR.frz (B' := fun b => B b ∨ Sf id b) (fun _ h => .inl h) (fun x hx => .inr (e7.right (h3.left hx))) h1) (by rw [frzR_eq, List.length_map]; omega)
       rw [Nat.zero_add] at this
       rw [l4, Nat.zero_mul, Nat.zero_add]
       exact ⟨.inr (e7.left rfl), this⟩
     refine ⟨_, ρ, _, hI2, ?_, by simpa using hz, by rw [length_setE]; simpa using hl, hd⟩
     intro t'
     by_cases e : t = t'
     ·subst e
      by_cases hlt : t < st.s.length
      ·have : (st.s.set t (.pp ((frzR cells).drop off))).getD t .dead = .pp ((frzR cells).drop off) := by simp [List.getD, hlt]
       rw [this]
       simp only [RepV]
       exact ⟨_, _, hu, hsh⟩
      ·have : (st.s.set t (.pp ((frzR cells).drop off))).getD t .dead = .dead := by simp [List.getD, List.getElem?_set, hlt]
       rw [this]; simp only [RepV]
     ·have : (st.s.set t (.pp ((frzR cells).drop off))).getD t' .dead = st.s.getD t' .dead := by simp [List.getD, List.getElem?_set, e]
      rw [this]; exact hcl _ _ (hs t')
    ·simp [M.run] at hrun
   ·simp [M.run] at hrun
  ·simp [M.run] at hrun
 | _ => rw [hv] at hrun; simp [freezeV, M.run] at hrun
theorem Sim.own {st st' : St} {a : Act} {w : World} (h : Sim c st a w) {t d : Nat} (hrun : doH st (.own t d) = some st') : Sim c st' a w := by
 obtain ⟨B, ρ, Sf, hI, hs, hz, hl, hd⟩ := h
 have ht := hs t
 simp only [doH] at hrun
 split at hrun
 ·rename_i hv
  rw [hv] at ht
  simp only [RepV] at ht
  split at hrun
  ·rename_i hc
   simp only [Bool.and_eq_true, decide_eq_true_eq, List.isEmpty_iff] at hc
   cases hrun
   have hE : EntsRep w B [.mem [] 0 false] [(none, 0)] (fun _ => False) := by
    simp only [EntsRep]
    exact ⟨[], (none, 0), [], fun _ => False, fun _ => False, rfl, rfl, .inl ⟨rfl, rfl, rfl, fun _ h => h⟩, ⟨rfl, fun _ h => h⟩, ⟨fun b => by simp, fun b (h : False) => h.elim⟩⟩
   obtain ⟨ρ', Sf', k1, k2, k3⟩ := hI.news hc.1 hc.2 hE (fun _ h => h.elim)
   refine ⟨B, ρ', Sf', k1, ?_, by simpa using hz, by simpa using hl, hd⟩
   intro t'
   by_cases e : t = t'
   ·subst e
    by_cases hlt : t < st.s.length
    ·have : (st.s.set t (.ref (d, 0) 0)).getD t .dead = .ref (d, 0) 0 := by simp [List.getD, hlt]
     rw [this, ht]
     exact new_ref (rows := []) hc.1 hc.2 (by have := k3.1 0 (none, 0) rfl; simpa using this) (Nat.le_refl _)
    ·have : (st.s.set t (.ref (d, 0) 0)).getD t .dead = .dead := by simp [List.getD, List.getElem?_set, hlt]
     rw [this]; simp only [RepV]
   ·have : (st.s.set t (.ref (d, 0) 0)).getD t' .dead = st.s.getD t' .dead := by simp [List.getD, List.getElem?_set, e]
    rw [this]; exact k2 _ _ (hs t')
  ·cases hrun
 ·cases hrun; exact ⟨B, ρ, Sf, hI, hs, hz, hl, hd⟩
 ·cases hrun
theorem clean_getD (r : R) (ts : List Nat) (t : Nat) : (r.mapIdx (cleanR ts)).getD t [] = if ts.contains t then [] else (r.getD t []).map Ent.calm := by
 simp only [List.getD, List.getElem?_mapIdx]
 cases h : r[t]? with
 | none => simp
 | some es => simp [cleanR]
theorem clean_getE (r : R) (ts : List Nat) (id : Id) : getE (r.mapIdx (cleanR ts)) id = if ts.contains id.1 then .dead else (getE r id).calm := by
 simp only [getE, clean_getD]
 split
 ·simp
 ·simp only [List.getD, List.getElem?_map]
  cases h : (r[id.1]?.getD [])[id.2]? with
  | none => simp [Ent.calm]
  | some e => simp
theorem clean_there {r : R} {ts : List Nat} {id : Id} (h : There r id) (ht : ts.contains id.1 = false) : There (r.mapIdx (cleanR ts)) id := by
 unfold There at h ⊢
 rw [clean_getD, ht]
 simpa using h
theorem clean_mem {r : R} {ts : List Nat} {id : Id} {rows : Rows} {stt : Nat} {fx : Bool} (h : getE (r.mapIdx (cleanR ts)) id = .mem rows stt fx) : ts.contains id.1 = false ∧ stt = 0 ∧ ∃ stt', getE r id = .mem rows stt' fx := by
 rw [clean_getE] at h
 split at h
 ·cases h
 ·rename_i hc
  refine ⟨by simpa using hc, ?_⟩
  cases he : getE r id with
  | dead => rw [he] at h; cases h
  | mem rows' stt' fx' =>
   rw [he] at h
   simp only [Ent.calm, Ent.mem.injEq] at h
   obtain ⟨rfl, rfl, rfl⟩ := h
   exact ⟨rfl, stt', rfl⟩
def Outs (ρ ρ' : Id → Loc) (r r' : R) (ts : List Nat) : Prop :=
 ∀ id : Id, ts.contains id.1 = false → (There r id → There r' id) ∧ ρ' id = ρ id ∧ ∀ rows stt fx, getE r' id = .mem rows stt fx → ∃ stt', getE r id = .mem rows stt' fx
section
variable {B : Nat → Prop} {ρ ρ' : Id → Loc} {Sf : Id → Nat → Prop} {X : Nat → Prop} {r r' : R} {ts : List Nat}
mutual
theorem out_rep (hO : Outs ρ ρ' r r' ts) : ∀ {v : V} {u : Value}, v.mentions ts = false → RepV w B ρ r v u → RepV w B ρ' r' v u
 | .t c, u, hm, h => by simpa only [RepV] using h
 | .nil, u, hm, h => by simpa only [RepV] using h
 | .agg cs, u, hm, h => by
  simp only [V.mentions] at hm
  simp only [RepV] at h ⊢
  obtain ⟨us, e, h⟩ := h
  exact ⟨us, e, out_reps hO hm h⟩
 | .ref id n, u, hm, h => by
  simp only [V.mentions] at hm
  simp only [RepV] at h ⊢
  obtain ⟨o1, o2, o3⟩ := hO id hm
  refine ⟨o1 h.1, h.2.1, fun rows stt fx hg => ?_⟩
  obtain ⟨stt', hg'⟩ := o3 rows stt fx hg
  rw [o2]
  exact h.2.2 rows stt' fx hg'
 | .sub id p i k n st, u, hm, h => by simp [V.mentions] at hm
 | .ptr id p i off n st, u, hm, h => by
  simp only [V.mentions, Bool.or_eq_false_iff, Bool.not_eq_false'] at hm
  have hp : p = [] := by simpa using hm.1
  subst hp
  simp only [RepV] at h ⊢
  obtain ⟨h1, ad, h2, h3⟩ := h
  obtain ⟨o1, o2, o3⟩ := hO id hm.2
  refine ⟨o1 h1, ad, h2, fun rows stt fx hg => ?_⟩
  obtain ⟨stt', hg'⟩ := o3 rows stt fx hg
  obtain ⟨g1, g2, g3⟩ := h3 rows stt' fx hg'
  rw [o2]
  exact ⟨g1, fun h => absurd rfl h, fun e _ => g3 e (fun h => absurd rfl h)⟩
 | .pp cs, u, hm, h => by simpa only [RepV] using h
 | .fn f cs, u, hm, h => by
  simp only [V.mentions] at hm
  simp only [RepV] at h ⊢
  obtain ⟨us, e, h⟩ := h
  exact ⟨us, e, out_reps hO hm h⟩
 | .tup cs, u, hm, h => by
  simp only [V.mentions] at hm
  simp only [RepV] at h ⊢
  obtain ⟨us, e, h⟩ := h
  exact ⟨us, e, out_reps hO hm h⟩
 | .dead, u, hm, h => by simp only [RepV]
theorem out_reps (hO : Outs ρ ρ' r r' ts) : ∀ {vs : List V} {us : List Value}, mentionsL ts vs = false → RepVs w B ρ r vs us → RepVs w B ρ' r' vs us
 | [], us, hm, h => by simpa only [RepVs] using h
 | v :: vs, us, hm, h => by
  simp only [mentionsL, Bool.or_eq_false_iff] at hm
  simp only [RepVs] at h ⊢
  obtain ⟨u, us', e, h1, h2⟩ := h
  exact ⟨u, us', e, out_rep hO hm.1 h1, out_reps hO hm.2 h2⟩
end
end
theorem clean_slot (s : List V) (ts : List Nat) (t : Nat) : (s.mapIdx (cleanS ts)).getD t .dead = .dead ∨ ((s.mapIdx (cleanS ts)).getD t .dead = s.getD t .dead ∧ (s.getD t .dead).mentions ts = false) := by
 simp only [List.getD, List.getElem?_mapIdx]
 cases hh : s[t]? with
 | none => simp
 | some v =>
  simp only [Option.map_some, Option.getD_some, cleanS]
  split
  ·exact .inl rfl
  ·rename_i hc
   simp only [Bool.or_eq_true, not_or, Bool.not_eq_true] at hc
   exact .inr ⟨rfl, hc.2⟩
theorem Sim.clean {st : St} {a : Act} {w : World} (h : Sim c st a w) (ts : List Nat) : Sim c { s := st.s.mapIdx (cleanS ts), r := st.r.mapIdx (cleanR ts) } a w := by
 obtain ⟨B, ρ, Sf, hI, hs, hz, hl, hd⟩ := h
 refine ⟨B, ρ, fun id b => ts.contains id.1 = false ∧ Sf id b, ?_, ?_, by simpa using hz, by simpa using hl, hd⟩
 ·refine { hI with ents := fun id => ?_, disj := fun id id' b h h' => hI.disj id id' b h.2 h'.2, nb := fun id b h => hI.nb id b h.2, xd := fun id b h => h.elim, own := fun id b h => hI.own id b h.2 }
  have h1 := hI.ents id
  cases he : getE (st.r.mapIdx (cleanR ts)) id with
  | dead =>
   rw [clean_getE] at he
   split at he
   ·rename_i hc
    intro b hb
    rw [hc] at hb; cases hb.1
   ·cases hr : getE st.r id with
    | dead => rw [hr] at h1; exact fun b hb => h1 b hb.2
    | mem rows stt fx => rw [hr] at he; cases he
  | mem rows stt fx =>
   obtain ⟨hc, rfl, stt', hg⟩ := clean_mem he
   rw [hg] at h1
   have : (fun b => ts.contains id.1 = false ∧ Sf id b) = Sf id := funext fun b => propext ⟨fun h => h.2, fun h => ⟨hc, h⟩⟩
   rw [this]
   exact h1
 ·intro t
  have hg := clean_slot st.s ts t
  rcases hg with hg | ⟨hg, hm⟩
  ·rw [hg]; simp only [RepV]
  ·rw [hg]; exact out_rep (fun id hc => ⟨fun h => clean_there h hc, rfl, fun rows stt fx h => (clean_mem h).2.2⟩) hm (hs t)
theorem Sim.home {st st' : St} {a : Act} {w : World} (h : Sim c st a w) {t d : Nat} (hrun : doH st (.home t d) = some st') : Sim c st' a w := by
 obtain ⟨B, ρ, Sf, hI, hs, hz, hl, hd⟩ := h
 have ht := hs t
 simp only [doH] at hrun
 split at hrun
 case h_2 => cases hrun
 rename_i id n hv
 rw [hv] at ht
 simp only [RepV] at ht
 split at hrun
 case h_2 => cases hrun
 rename_i rows stt he hdd
 split at hrun
 case isFalse => cases hrun
 rename_i hc
 obtain ⟨hn, hne⟩ := hc
 cases hrun
 have hdl : d < st.r.length := by
  rcases Nat.lt_or_ge d st.r.length with h | h
  ·exact h
  ·simp [List.getD, List.getElem?_eq_none h] at hdd
 have gd : ∀ j, ((st.r.set id.1 []).set d [.mem rows 0 false]).getD j [] = if j = d then [.mem rows 0 false] else if j = id.1 then [] else st.r.getD j [] := fun j => by
  simp only [List.getD, List.getElem?_set, List.length_set]
  by_cases e : d = j
  ·subst e; simp [hdl]
  ·rw [if_neg e, if_neg (Ne.symm e)]
   by_cases e' : id.1 = j
   ·subst e'
    by_cases hx : id.1 < st.r.length <;> simp [hx]
   ·rw [if_neg e', if_neg (Ne.symm e')]
 have ge : ∀ j : Id, getE ((st.r.set id.1 []).set d [.mem rows 0 false]) j = if j = (d, 0) then .mem rows 0 false else if j.1 = id.1 then .dead else getE st.r j := fun j => by
  obtain ⟨j1, j2⟩ := j
  simp only [getE, gd]
  by_cases e : j1 = d
  ·subst e
   rw [if_pos rfl, if_neg (show ¬ j1 = id.1 from fun e => hne e.symm), hdd]
   cases j2 with
   | zero => simp
   | succ k => simp [List.getD]
  ·rw [if_neg e, if_neg (show ¬ ((j1, j2) : Id) = (d, 0) from fun h => e (congrArg Prod.fst h))]
   by_cases e' : j1 = id.1
   ·rw [if_pos e', if_pos e']; simp [List.getD]
   ·rw [if_neg e', if_neg e']
 refine ⟨B, fun j => if j = (d, 0) then ρ id else ρ j, fun j b => (j = (d, 0) ∧ Sf id b) ∨ (j ≠ (d, 0) ∧ j.1 ≠ id.1 ∧ Sf j b), ?_, ?_, by simpa using hz, by simpa using hl, hd⟩
 ·refine { hI with ents := fun j => ?_, disj := fun j j' b h h' => ?_, nb := fun j b h => ?_, xd := fun j b h => h.elim, own := fun j b h => ?_ }
  ·rw [ge]
   by_cases e : j = (d, 0)
   ·rw [if_pos e]
    have e2 : (fun b => (j = (d, 0) ∧ Sf id b) ∨ (j ≠ (d, 0) ∧ j.1 ≠ id.1 ∧ Sf j b)) = Sf id := funext fun b => propext ⟨fun h => h.elim (·.2) (fun h => absurd e h.1), fun h => .inl ⟨e, h⟩⟩
    rw [e2]
    simp only [EntRep, if_pos e]
    exact ⟨(hI.mem he).1, fun h => by cases h⟩
   ·rw [if_neg e]
    by_cases e' : j.1 = id.1
    ·rw [if_pos e']
     intro b hb
     rcases hb with h | h
     ·exact e h.1
     ·exact h.2.1 e'
    ·rw [if_neg e']
     have e2 : (fun b => (j = (d, 0) ∧ Sf id b) ∨ (j ≠ (d, 0) ∧ j.1 ≠ id.1 ∧ Sf j b)) = Sf j := funext fun b => propext ⟨fun h => h.elim (fun h => absurd h.1 e) (·.2.2), fun h => .inr ⟨e, e', h⟩⟩
     rw [e2]
     have := hI.ents j
     cases hg : getE st.r j with
     | dead => rw [hg] at this; exact this
     | mem rows' stt' fx' =>
      rw [hg] at this
      simp only [EntRep, if_neg e] at this ⊢
      exact this
  ·rcases h with ⟨e, h⟩ | ⟨e, e1, h⟩ <;> rcases h' with ⟨e', h'⟩ | ⟨e', e1', h'⟩
   ·rw [e, e']
   ·exact absurd (congrArg Prod.fst (hI.disj _ _ _ h h')).symm e1'
   ·exact absurd (congrArg Prod.fst (hI.disj _ _ _ h h')) e1
   ·exact hI.disj _ _ _ h h'
  ·rcases h with ⟨e, h⟩ | ⟨e, e1, h⟩ <;> exact hI.nb _ _ h
  ·rcases h with ⟨e, h⟩ | ⟨e, e1, h⟩ <;> exact hI.own _ _ h
 ·intro t'
  by_cases e : t = t'
  ·subst e
   by_cases hlt : t < st.s.length
   ·have e1 : ((st.s.mapIdx (cleanS [id.1, d])).set t (.ref (d, 0) n)).getD t .dead = .ref (d, 0) n := by simp [List.getD, hlt]
    rw [e1]
    simp only [RepV]
    refine ⟨?_, ht.2.1, fun rows' stt' fx' hg => ?_⟩
    ·unfold There
     rw [gd, if_pos rfl]
     exact Nat.lt_succ_self 0
    ·rw [ge, if_pos rfl] at hg
     cases hg
     simp only [if_true]
     exact ht.2.2 rows stt false he
   ·have e1 : ((st.s.mapIdx (cleanS [id.1, d])).set t (.ref (d, 0) n)).getD t .dead = .dead := by simp [List.getD, List.getElem?_set, hlt]
    rw [e1]; simp only [RepV]
  ·have e1 : ((st.s.mapIdx (cleanS [id.1, d])).set t (.ref (d, 0) n)).getD t' .dead = (st.s.mapIdx (cleanS [id.1, d])).getD t' .dead := by simp [List.getD, List.getElem?_set, e]
   rw [e1]
   rcases clean_slot st.s [id.1, d] t' with hg | ⟨hg, hm⟩
   ·rw [hg]; simp only [RepV]
   ·rw [hg]
    refine out_rep (fun j hj => ?_) hm (hs t')
    simp only [List.contains_cons, List.contains_nil, Bool.or_false, Bool.or_eq_false_iff, beq_eq_false_iff_ne] at hj
    have hj0 : ¬ j = (d, 0) := fun h => hj.2 (congrArg Prod.fst h)
    refine ⟨fun h => ?_, by show (if j = (d, 0) then ρ id else ρ j) = ρ j; rw [if_neg hj0], fun rows' stt' fx' hg => ?_⟩
    ·unfold There at h ⊢
     rw [gd, if_neg hj.2, if_neg hj.1]; exact h
    ·rw [ge, if_neg hj0, if_neg hj.1] at hg
     exact ⟨_, hg⟩
theorem Sim.frzc {st st' : St} {a : Act} {w : World} (h : Sim c st a w) {d k : Nat} (hrun : doH st (.frzc d k) = some st') : Sim c st' a w := by
 obtain ⟨B, ρ, Sf, hI, hs, hz, hl, hd⟩ := h
 simp only [doH] at hrun
 split at hrun
 case h_2 => cases hrun
 rename_i rows stt fx he
 split at hrun
 case h_3 => cases hrun
 case h_2 => cases hrun; exact ⟨B, ρ, Sf, hI, hs, hz, hl, hd⟩
 rename_i rs hg
 cases hrun
 obtain ⟨hm1, hm2⟩ := hI.mem he
 have hth : There st.r (d, 0) := getE_there (by rw [he]; simp)
 obtain ⟨b', o', u', T1, T2, m1, m2, m3, m4, m5, m6, m7⟩ := hI.hole he hg
 have hI2 := m6.share (Y := T1) (X' := fun _ => False) (fun b hb => .inr hb) (fun b hb => hb.elim) (fun b hb => hb.elim)
 have he1 := getE_setE_same hth (.mem (setC rows [] 0 k .hole) stt fx)
 have hg1 : getC (setC rows [] 0 k .hole) [] 0 k = some .hole := getC_setC_same hg
 obtain ⟨hm1', hm2'⟩ := hI2.mem he1
 obtain ⟨b, o, cur, e, u, S1, S2, l1, l2, l3, l4, l5, l6, l7, l8⟩ := OwS.lens [] hm1' hg1
 obtain ⟨rfl, rfl⟩ := LocAt.unique [] l1 (LocAt.put (w' := w) [] hm1 hg m1 (fun _ _ _ => rfl)).1
 rw [cell_row l2, l3] at m2
 simp only [Option.some.injEq] at m2
 subst m2
 have hf := OwC.frz (B := B) (B' := fun b => B b ∨ T1 b) (fun _ h => .inl h) (t := .sl true rs) (u := u) (S := T1) (fun _ h => .inr h) m4
 simp only [TT.frz] at hf
 have hnew := l8 w (fun b => B b ∨ T1 b) (.sl false (frzRs rs)) u (fun _ => False) (fun _ h => h) (fun _ _ => rfl) (fun _ _ _ => rfl) (by rw [set_same l3]; exact l2) l4 (by simp only [OwC]; exact ⟨hf, fun _ h => h⟩) (fun _ h => h.elim)
 have hI3 := hI2.put ((there_setE _).2 hth) (stt' := stt) (fx' := fx) (X' := fun _ => False) hnew (fun b hb => .inr (hb.elim False.elim l6.right)) (fun b h => h) (fun b h => h.elim) (fun hx => ⟨(hm2 hx).1, by rw [setC_length, setC_length]; exact (hm2 hx).2⟩)
 have hss : setC (setC rows [] 0 k .hole) [] 0 k (.sl false (frzRs rs)) = setC rows [] 0 k (.sl false (frzRs rs)) := by
  simp only [setC, setRC]
  cases hr : rows[0]? with
  | none => simp [hr]
  | some row =>
   have hlt := (List.getElem?_eq_some_iff.1 hr).1
   simp [hlt]
 rw [setE_setE, hss] at hI3
 refine ⟨_, ρ, _, hI3, ?_, hz, by rw [length_setE]; exact hl, hd⟩
 intro t
 exact claims_hole he rfl (claims_world (fun _ h => .inl h) (fun _ _ => rfl) (fun j => kept_refl hI j) (hs t))
theorem Sim.hs : ∀ {hs : List H} {st st' : St} {a : Act} {w : World}, doHs hs st = some st' → Sim c st a w → Sim c st' a w
 | [], st, st', a, w, h, hsim => by
  simp only [doHs, Option.some.injEq] at h
  subst h; exact hsim
 | x :: hs, st, st', a, w, h, hsim => by
  simp only [doHs] at h
  obtain ⟨st1, h1, h2⟩ := Option.bind_eq_some_iff.1 h
  refine Sim.hs h2 ?_
  cases x with
  | kill ts => simp only [doH, Option.some.injEq] at h1; subst h1; exact hsim.kill ts
  | clean ts => simp only [doH, Option.some.injEq] at h1; subst h1; exact hsim.clean ts
  | freeze t =>
   simp only [doH] at h1
   obtain ⟨q, g1, g2⟩ := Option.map_eq_some_iff.1 h1
   subst g2
   exact hsim.freeze g1
  | own t d => exact hsim.own h1
  | home t d => exact hsim.home h1
  | frzc d k => exact hsim.frzc h1
def agK (P : Program) : K → Code → Bool
 | .skip, .skip => true
 | .reg draw es, .region _ ops draw' => agR P draw draw' es ops
 | .seq a b, .seq a' b' => agK P a a' && agK P b b'
 | .cond x a b, .cond x' a' b' => agO x x' && agK P a a' && agK P b b'
 | .blk id b, .block id' b' => id == id' && agK P b b'
 | .loop b, .loop b' => agK P b b'
 | .ex id, .exit id' => id == id'
 | .ret, .ret => true
 | .h _ k, k' => agK P k k'
 | .hp _ k, k' => agK P k k'
 | _, _ => false
def exOf : Ex → Exit
 | .normal => .normal
 | .exit id => .exit id
 | .ret => .ret
theorem code_sound (hS : Sound c.G P call) (hm : P.follows .mixedOrders = true) {lf : Nat} : ∀ {k : K} {code : Code} {st : St} {q : Ex × St} {a : Act} {w : World} {Q : Exit → Act → World → Prop}, agK P k code = true → runK call lf k st = some q → Sim c st a w → (∀ a' w', Sim c q.2 a' w' → Q (exOf q.1) a' w') → code.wp P Q a w
 | .h hs k, code, st, q, a, w, Q, hag, hrun, hsim, hK => by
  have hag' : agK P k code = true := by cases code <;> simpa only [agK] using hag
  simp only [runK] at hrun
  obtain ⟨q1, h1, h2⟩ := Option.bind_eq_some_iff.1 hrun
  refine code_sound hS hm hag' h1 hsim fun a' w' hs' => ?_
  obtain ⟨e1, s1⟩ := q1
  cases e1 with
  | normal =>
   simp only at h2
   obtain ⟨st', g1, g2⟩ := Option.map_eq_some_iff.1 h2
   subst g2
   exact hK a' w' (Sim.hs g1 hs')
  | exit id => simp only [Option.some.injEq] at h2; subst h2; exact hK a' w' hs'
  | ret => simp only [Option.some.injEq] at h2; subst h2; exact hK a' w' hs'
 | .hp hs k, code, st, q, a, w, Q, hag, hrun, hsim, hK => by
  have hag' : agK P k code = true := by cases code <;> simpa only [agK] using hag
  simp only [runK] at hrun
  obtain ⟨st1, h1, h2⟩ := Option.bind_eq_some_iff.1 hrun
  exact code_sound hS hm hag' h2 (Sim.hs h1 hsim) hK
 | .skip, code, st, q, a, w, Q, hag, hrun, hsim, hK => by
  cases code <;> simp only [agK] at hag <;> try (cases hag; done)
  simp only [runK, Option.some.injEq] at hrun
  subst hrun
  exact wp_skip (hK a w hsim)
 | .reg draw es, code, st, q, a, w, Q, hag, hrun, hsim, hK => by
  cases code <;> simp only [agK] at hag <;> try (cases hag; done)
  simp only [runK] at hrun
  obtain ⟨st', g1, g2⟩ := Option.map_eq_some_iff.1 hrun
  subst g2
  exact region_sound hS hm hag g1 hsim hK
 | .seq x y, code, st, q, a, w, Q, hag, hrun, hsim, hK => by
  cases code <;> simp only [agK] at hag <;> try (cases hag; done)
  simp only [Bool.and_eq_true] at hag
  simp only [runK] at hrun
  obtain ⟨q1, h1, h2⟩ := Option.bind_eq_some_iff.1 hrun
  refine wp_seq (code_sound hS hm hag.1 h1 hsim fun a' w' hs' => ?_)
  obtain ⟨e1, s1⟩ := q1
  cases e1 with
  | normal => exact code_sound hS hm hag.2 h2 hs' hK
  | exit id => simp only [Option.some.injEq] at h2; subst h2; exact hK a' w' hs'
  | ret => simp only [Option.some.injEq] at h2; subst h2; exact hK a' w' hs'
 | .cond x y z, code, st, q, a, w, Q, hag, hrun, hsim, hK => by
  cases code <;> simp only [agK] at hag <;> try (cases hag; done)
  simp only [Bool.and_eq_true] at hag
  obtain ⟨⟨h1, h2⟩, h3⟩ := hag
  obtain ⟨B, ρ, Sf, hI, hs, hz, hl, hd⟩ := hsim
  have hx := hs.eval h1
  simp only [runK] at hrun
  split at hrun
  ·rename_i he
   rw [he] at hx
   exact wp_cond_true (rep_t hx).1 (code_sound hS hm h2 hrun ⟨B, ρ, Sf, hI, hs, hz, hl, hd⟩ hK)
  ·rename_i he
   rw [he] at hx
   exact wp_cond_false (rep_t hx).1 (code_sound hS hm h3 hrun ⟨B, ρ, Sf, hI, hs, hz, hl, hd⟩ hK)
  ·cases hrun
 | .blk id b, code, st, q, a, w, Q, hag, hrun, hsim, hK => by
  cases code <;> simp only [agK] at hag <;> try (cases hag; done)
  simp only [Bool.and_eq_true, beq_iff_eq] at hag
  obtain ⟨rfl, hag⟩ := hag
  simp only [runK] at hrun
  obtain ⟨q1, h1, h2⟩ := Option.map_eq_some_iff.1 hrun
  refine wp_block (code_sound hS hm hag h1 hsim fun a' w' hs' => ?_)
  obtain ⟨e1, s1⟩ := q1
  cases e1 with
  | normal => simp only at h2; subst h2; exact hK a' w' hs'
  | exit j =>
   simp only at h2
   simp only [exOf, Exit.inBlock]
   by_cases hj : j = id
   ·rw [if_pos hj] at h2 ⊢; subst h2; exact hK a' w' hs'
   ·rw [if_neg hj] at h2 ⊢; subst h2; exact hK a' w' hs'
  | ret => simp only at h2; subst h2; exact hK a' w' hs'
 | .loop b, code, st, q, a, w, Q, hag, hrun, hsim, hK => by
  cases code <;> simp only [agK] at hag <;> try (cases hag; done)
  rename_i cb
  simp only [runK] at hrun
  refine wp_loop_rounds lf ?_
  have key : ∀ (n : Nat) {st : St} {a : Act} {w : World}, iter (fun st => runK call lf b st) n st = some q → Sim c st a w → Code.rounds P cb Q n a w := by
   intro n
   induction n with
   | zero => intro st a w h _; simp [iter] at h
   | succ n ih =>
    intro st a w h hs
    simp only [iter] at h
    obtain ⟨q1, h1, h2⟩ := Option.bind_eq_some_iff.1 h
    rw [rounds_succ]
    refine code_sound hS hm hag h1 hs fun a' w' hs' => ?_
    obtain ⟨e1, s1⟩ := q1
    cases e1 with
    | normal => exact ih h2 hs'
    | exit id => simp only [Option.some.injEq] at h2; subst h2; exact hK a' w' hs'
    | ret => simp only [Option.some.injEq] at h2; subst h2; exact hK a' w' hs'
  exact key lf hrun hsim
 | .ex id, code, st, q, a, w, Q, hag, hrun, hsim, hK => by
  cases code <;> simp only [agK] at hag <;> try (cases hag; done)
  simp only [beq_iff_eq] at hag
  subst hag
  simp only [runK, Option.some.injEq] at hrun
  subst hrun
  exact wp_exit (hK a w hsim)
 | .ret, code, st, q, a, w, Q, hag, hrun, hsim, hK => by
  cases code <;> simp only [agK] at hag <;> try (cases hag; done)
  simp only [runK, Option.some.injEq] at hrun
  subst hrun
  exact wp_ret (hK a w hsim)
end
end TT
