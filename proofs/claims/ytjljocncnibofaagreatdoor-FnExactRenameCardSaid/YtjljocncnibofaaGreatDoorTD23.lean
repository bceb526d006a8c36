import Derived.Test.YtjljocncnibofaaGreatDoorTD22
import Derived.Orders
import Derived.Test.YtjljocncnibofaaGreatDoorTD13
import Derived.LoopN
set_option linter.unusedVariables false
set_option linter.unusedSimpArgs false
namespace TT
open Go
section
variable {P : Program} {c : Ctx} {w w' : World} {B B' B2 : Nat → Prop} {ρ ρ' : Id → Loc} {Sf : Id → Nat → Prop} {X : Nat → Prop} {r r' r0 : R} {a : Act} {o : Oper} {ops : Array Oper} {Q : Exit → Act → World → Prop}
theorem guard_ok {s : List V} (hs : Slots w B ρ r s a) {g : Option (Nat × Bool)} (hg : agG ops g o.guard = true) {b : Bool} (h : guardV s g = some b) : Region.wanted o (yielded ops a.tmps) = b := by
 unfold Region.wanted
 cases g with
 | none =>
  cases ho : o.guard with
  | none => simp only [guardV, Option.some.injEq] at h; exact h
  | some q => rw [ho] at hg; simp [agG] at hg
 | some q =>
  obtain ⟨t, want⟩ := q
  cases ho : o.guard with
  | none => rw [ho] at hg; simp [agG] at hg
  | some q' =>
   obtain ⟨j, want'⟩ := q'
   rw [ho] at hg
   simp only [agG, Bool.and_eq_true, beq_iff_eq] at hg
   obtain ⟨rfl, hg⟩ := hg
   cases hd : (ops[j]?).bind (·.dst) with
   | none => rw [hd] at hg; cases hg
   | some t' =>
    rw [hd] at hg
    have : t = t' := by simpa using hg
    subst this
    have hy : yielded ops a.tmps j = (match a.tmps.getD t undef with | .bool b => some b | _ => none) := by
     unfold yielded
     rw [hd, Option.bind_some]
     cases hh : a.tmps[t]? with
     | none => simp [Array.getD, Array.getElem?_eq_none_iff.1 hh, undef]; have := Array.getElem?_eq_none_iff.1 hh; simp [Nat.not_lt.2 this]
     | some u => simp [Array.getD_eq_getD_getElem?, hh]; cases u <;> rfl
    have hv := hs t
    simp only [guardV] at h
    simp only [hy]
    split at h
    ·rename_i b' he
     rw [he] at hv
     rw [(rep_t hv).1]
     simp only [Option.some.injEq] at h
     rw [← h]
     cases b' <;> cases want <;> rfl
    ·rename_i he
     rw [he] at hv
     simp only [RepV] at hv
     obtain ⟨us, e1, e2⟩ := hv
     rw [e1]
     simp only [Option.some.injEq] at h
     rw [← h]
     rfl
    ·cases h
theorem step_sound {call : CallF} (hS : Sound c.G P call) {i : Nat} {e : OpE} (ho : ops[i]? = some o) (hag : agE P ops e o = true) {draw : Bool} {st st' : St} (h : stepO call draw e st = some st') (hsim : Sim c st a w) {K : Act → World → Prop} (hK : ∀ a' w', Sim c st' a' w' → K a' w') :
  wpOp P ops Q i K a w := by
 obtain ⟨B, ρ, Sf, hI, hs, hz, hl, hd⟩ := hsim
 simp only [agE, Bool.and_eq_true, beq_iff_eq] at hag
 obtain ⟨⟨h1, h2⟩, h3⟩ := hag
 unfold stepO at h
 obtain ⟨b, hb, h⟩ := Option.bind_eq_some_iff.1 h
 have hw := guard_ok (o := o) hs h2 hb
 unfold wpOp
 rw [ho]
 simp only [hw]
 cases b with
 | false =>
  simp only [Bool.false_eq_true, if_false, Option.some.injEq] at h ⊢
  subst h
  refine hK _ _ ?_
  rw [← h1]
  have := Sim.fin (d := e.d) (v := .tup []) (u := undef) hs hz hl hd hI rfl (fun _ _ h => h) (by simp only [RepV]; exact ⟨#[], rfl, by simp [RepVs]⟩)
  exact this
 | true =>
  simp only [if_true] at h ⊢
  obtain ⟨out, h4, h5⟩ := Option.map_eq_some_iff.1 h
  subst h5
  have hrun : (sem st.s (e.d.getD 0) e.o).run call (e.d.getD 0) st.r = some out := by
   cases draw with
   | true => exact runA_run (by simpa using h4)
   | false => simpa using h4
  refine .inl ?_
  have hdo := op_sound hS h3 hrun hI hs
  unfold Oper.wp
  rw [h1] at hK
  rcases hdo with ⟨u, w', hy, B', ρ', Sf', g1, g2, g3, g4⟩ | ⟨w', hy, B', ρ', Sf', g1, g2, g3, g4⟩ | ⟨f, us, hy, hc⟩
  ·unfold Yes at hy
   rw [hy, Oper.upon_value]
   exact hK _ _ (Sim.fin hs hz hl hd g1 g2 g3 g4)
  ·unfold Skips at hy
   rw [hy, Oper.upon_skip]
   exact hK _ _ (Sim.fin hs hz hl hd g1 g2 g3 g4)
  ·rw [hy, Oper.upon_enter]
   refine Calls.mono hc fun ee w' hp => ?_
   cases ee with
   | returned v =>
    obtain ⟨B', ρ', Sf', g1, g2, g3, g4⟩ := hp
    exact hK _ _ (Sim.fin hs hz hl hd g1 g2 g3 g4)
   | panicked ch => exact hp.elim
   | outgrown => exact hp.elim
def agV (P : Program) (e : OpE) (o : Oper) : Bool := match e.o, e.d, e.g, o.dst, o.guard, o.op with
 | .vst n (.s k) y, some k', none, none, none, .store t x' y' => k == k' && stB P t n && agO (.s k) x' && agO y y'
 | _, _, _, _, _, _ => false
theorem set_self {l : Array Value} {k : Nat} : l.setIfInBounds k (l.getD k undef) = l := by
 apply Array.ext_getElem?
 intro i
 rw [Array.getElem?_setIfInBounds]
 split
 ·rename_i e
  subst e
  split
  ·rename_i h; simp [Array.getD, h]
  ·rename_i h; exact (Array.getElem?_eq_none_iff.2 (Nat.le_of_not_lt h)).symm
 ·rfl
theorem put_self {a : Act} {k : Nat} : a.put (some k) (a.tmps.getD k undef) = a := by
 show ({ a with tmps := a.tmps.setIfInBounds k (a.tmps.getD k undef) } : Act) = a
 rw [set_self]
theorem stepV_sound {call : CallF} {i : Nat} {e : OpE} (ho : ops[i]? = some o) (hag : agV P e o = true) {st st' : St} (h : stepO call false e st = some st') (hsim : Sim c st a w) {K : Act → World → Prop} (hK : ∀ a' w', Sim c st' a' w' → K a' w') :
  wpOp P ops Q i K a w := by
 obtain ⟨B, ρ, Sf, hI, hs, hz, hl, hd⟩ := hsim
 unfold agV at hag
 split at hag
 ·rename_i n k y k' t x' y' e1 e2 e3 e4 e5 e6
  simp only [Bool.and_eq_true, beq_iff_eq] at hag
  obtain ⟨⟨⟨rfl, h1⟩, h2⟩, h3⟩ := hag
  have hx := hs.eval h2
  have hy := hs.eval h3
  unfold stepO at h
  rw [e1, e2, e3] at h
  simp only [guardV, Option.bind_some, if_true, Bool.false_eq_true, if_false] at h
  obtain ⟨out, h4, h5⟩ := Option.map_eq_some_iff.1 h
  subst h5
  have hw : Region.wanted o (yielded ops a.tmps) = true := by unfold Region.wanted; rw [e5]
  unfold wpOp
  rw [ho]
  simp only [hw]
  simp only [sem] at h4
  split at h4
  ·rename_i id cs g1 g2
   rw [g2] at hy
   split at h4
   ·rename_i hc
    simp only [M.run] at h4
    split at h4
    ·rename_i row stt fx hg
     split at h4
     ·rename_i hrow
      simp only [M.run, Option.some.injEq] at h4
      subst h4
      obtain ⟨w', Sf', k1, k2, k3, k4⟩ := vst_ok hI e6 h1 hy g1 hx hc.1 hc.2 hg hrow
      refine .inl ?_
      unfold Oper.wp
      unfold Skips at k1
      rw [k1, Oper.upon_skip, e4]
      have := Sim.fin (d := some k) (v := .vb id 0 (stt + 1) cs) (u := a.tmps.getD k undef) hs hz hl hd k2 (by rw [length_setE]) k3 (by
       have hev : a.eval x' = a.tmps.getD k undef := by
        cases x' <;> simp only [agO, beq_iff_eq] at h2 <;> first | (subst h2; rfl) | cases h2
       rw [← hev]
       exact k4)
      rw [put_self] at this
      exact hK _ _ this
     ·simp [M.run] at h4
    ·simp [M.run] at h4
   ·simp [M.run] at h4
  ·simp [M.run] at h4
 ·cases hag
theorem steps_soundV {call : CallF} (hS : Sound c.G P call) : ∀ (es : List OpE) (k : Nat) {st st' : St} {a : Act} {w : World}, (∀ (j : Nat) e, es[j]? = some e → ∃ o, ops[k + j]? = some o ∧ (agE P ops e o || agV P e o) = true) →
  stepsO call false es st = some st' → Sim c st a w → (∀ a' w', Sim c st' a' w' → Q .normal a' w') → wpOps P ops Q (List.range' k es.length) a w
 | [], k, st, st', a, w, _, h, hsim, hK => by
  simp only [stepsO, Option.some.injEq] at h
  subst h
  exact hK _ _ hsim
 | e :: es, k, st, st', a, w, hag, h, hsim, hK => by
  simp only [stepsO] at h
  obtain ⟨st1, h1, h2⟩ := Option.bind_eq_some_iff.1 h
  obtain ⟨o, ho, hago⟩ := hag 0 e rfl
  rw [List.length_cons, List.range'_succ, wpOps_cons]
  have rest : ∀ a' w', Sim c st1 a' w' → wpOps P ops Q (List.range' (k + 1) es.length) a' w' := fun a' w' hs' => steps_soundV hS es (k + 1) (fun j e' hj => by
   obtain ⟨o', e1, e2⟩ := hag (j + 1) e' (by simpa using hj)
   exact ⟨o', by rw [show k + 1 + j = k + (j + 1) by omega]; exact e1, e2⟩) h2 hs' hK
  rw [Bool.or_eq_true] at hago
  rcases hago with hago | hago
  ·exact step_sound hS (by simpa using ho) hago h1 hsim rest
  ·exact stepV_sound (by simpa using ho) hago h1 hsim rest
theorem steps_sound {call : CallF} (hS : Sound c.G P call) {draw : Bool} : ∀ (es : List OpE) (k : Nat) {st st' : St} {a : Act} {w : World}, (∀ (j : Nat) e, es[j]? = some e → ∃ o, ops[k + j]? = some o ∧ agE P ops e o = true) →
  stepsO call draw es st = some st' → Sim c st a w → (∀ a' w', Sim c st' a' w' → Q .normal a' w') → wpOps P ops Q (List.range' k es.length) a w
 | [], k, st, st', a, w, _, h, hsim, hK => by
  simp only [stepsO, Option.some.injEq] at h
  subst h
  exact hK _ _ hsim
 | e :: es, k, st, st', a, w, hag, h, hsim, hK => by
  simp only [stepsO] at h
  obtain ⟨st1, h1, h2⟩ := Option.bind_eq_some_iff.1 h
  obtain ⟨o, ho, hago⟩ := hag 0 e rfl
  rw [List.length_cons, List.range'_succ, wpOps_cons]
  exact step_sound hS (by simpa using ho) hago h1 hsim fun a' w' hs' => steps_sound hS es (k + 1) (fun j e' hj => by
   obtain ⟨o', e1, e2⟩ := hag (j + 1) e' (by simpa using hj)
   exact ⟨o', by rw [show k + 1 + j = k + (j + 1) by omega]; exact e1, e2⟩) h2 hs' hK
end
def opdT : Opd → List Nat
 | .s t => [t]
 | _ => []
def opdTs : List Opd → List Nat
 | [] => []
 | x :: xs => opdT x ++ opdTs xs
def optT : Option Opd → List Nat
 | none => []
 | some x => opdT x
def partsT : List (Nat × Nat × Opd) → List Nat
 | [] => []
 | x :: xs => opdT x.2.2 ++ partsT xs
def looks : O → List Nat
 | .mv x => opdT x
 | .pick c a b => opdT c ++ opdT a ++ opdT b
 | .alloc _ => []
 | .box x => opdT x
 | .vbox x => opdT x
 | .vst _ x y => opdT x ++ opdT y
 | .build _ ps => partsT ps
 | .bsl _ ps => opdTs ps
 | .ld _ _ x => opdT x
 | .st _ x y => opdT x ++ opdT y
 | .nilc x => opdT x
 | .bin _ x y => opdT x ++ opdT y
 | .eqs _ _ x y => opdT x ++ opdT y
 | .beq _ x y => opdT x ++ opdT y
 | .eqn _ x => opdT x
 | .eqi _ x => opdT x
 | .un _ x => opdT x
 | .conv _ x => opdT x
 | .mks _ _ x => opdT x
 | .slc _ x lo hi => opdT x ++ optT lo ++ optT hi
 | .fa _ x => opdT x
 | .fld _ _ _ x => opdT x
 | .ia _ x i => opdT x ++ opdT i
 | .ix x i => opdT x ++ opdT i
 | .ixa _ _ _ x i => opdT x ++ opdT i
 | .call _ _ _ as => opdTs as
 | .callv x _ _ as => opdT x ++ opdTs as
 | .app _ _ s x => opdT s ++ opdT x
 | .len _ x => opdT x
 | .mm _ x y => opdT x ++ opdT y
 | .ext x _ => opdT x
 | .mkf _ caps => opdTs caps
def looksE (e : OpE) : List Nat := looks e.o ++ (match e.g with | some (t, _) => [t] | none => [])
theorem evalO_congr {s s' : List V} {x : Opd} (h : ∀ t ∈ opdT x, s'.getD t .dead = s.getD t .dead) : evalO s' x = evalO s x := by
 cases x with
 | s t => exact h t (by simp [opdT])
 | _ => rfl
theorem evalOs_congr {s s' : List V} : ∀ {xs : List Opd}, (∀ t ∈ opdTs xs, s'.getD t .dead = s.getD t .dead) → xs.map (evalO s') = xs.map (evalO s)
 | [], h => rfl
 | x :: xs, h => by
  simp only [opdTs, List.mem_append] at h
  simp only [List.map_cons]
  rw [evalO_congr fun t ht => h t (.inl ht), evalOs_congr fun t ht => h t (.inr ht)]
theorem bld_congr {s s' : List V} : ∀ {xs : List (Nat × Nat × Opd)} {z : List V}, (∀ t ∈ partsT xs, s'.getD t .dead = s.getD t .dead) → bld s' z xs = bld s z xs
 | [], z, h => rfl
 | x :: xs, z, h => by
  simp only [partsT, List.mem_append] at h
  simp only [bld]
  rw [evalO_congr fun t ht => h t (.inl ht)]
  split
  ·exact bld_congr fun t ht => h t (.inr ht)
  ·rfl
theorem sem_congr {s s' : List V} {d : Nat} {x : O} (h : ∀ t ∈ looks x, s'.getD t .dead = s.getD t .dead) : sem s' d x = sem s d x := by
 cases x <;> simp only [looks, List.mem_append] at h
 case mv x => simp only [sem]; rw [evalO_congr h]
 case pick p q t => simp only [sem]; rw [evalO_congr fun t ht => h t (.inl (.inl ht)), evalO_congr fun t ht => h t (.inl (.inr ht)), evalO_congr fun t ht => h t (.inr ht)]
 case alloc => simp only [sem]
 case box x => simp only [sem]; rw [evalO_congr h]
 case vbox x => simp only [sem]; rw [evalO_congr h]
 case vst n x y => simp only [sem]; rw [evalO_congr fun t ht => h t (.inl ht), evalO_congr fun t ht => h t (.inr ht)]
 case build z ps => simp only [sem]; rw [bld_congr h]
 case bsl sz ps =>
  simp only [sem]
  have := evalOs_congr h
  have h2 : ps.map (fun q => cellsOf (evalO s' q)) = ps.map (fun q => cellsOf (evalO s q)) := by
   have := congrArg (List.map cellsOf) this
   simpa using this
  rw [h2]
 case ld n ag x => simp only [sem]; rw [evalO_congr h]
 case st n x y => simp only [sem]; rw [evalO_congr fun t ht => h t (.inl ht), evalO_congr fun t ht => h t (.inr ht)]
 case nilc x => simp only [sem]; rw [evalO_congr h]
 case bin op x y => simp only [sem]; rw [evalO_congr fun t ht => h t (.inl ht), evalO_congr fun t ht => h t (.inr ht)]
 case eqs op ks x y => simp only [sem]; rw [evalO_congr fun t ht => h t (.inl ht), evalO_congr fun t ht => h t (.inr ht)]
 case beq op x y => simp only [sem]; rw [evalO_congr fun t ht => h t (.inl ht), evalO_congr fun t ht => h t (.inr ht)]
 case eqn ne x => simp only [sem]; rw [evalO_congr h]
 case eqi ne x => simp only [sem]; rw [evalO_congr h]
 case un op x => simp only [sem]; rw [evalO_congr h]
 case conv cv x => simp only [sem]; rw [evalO_congr h]
 case mks z b x => simp only [sem]; rw [evalO_congr h]
 case slc sz x lo hi =>
  have e1 := evalO_congr (x := x) fun t ht => h t (.inl (.inl ht))
  have e2 : ∀ y, lo = some y → evalO s' y = evalO s y := fun y hy => evalO_congr fun t ht => h t (.inl (.inr (by rw [hy]; exact ht)))
  have e3 : ∀ y, hi = some y → evalO s' y = evalO s y := fun y hy => evalO_congr fun t ht => h t (.inr (by rw [hy]; exact ht))
  cases lo <;> cases hi <;> simp only [sem, e1] <;> first | rfl | (simp only [e2 _ rfl, e3 _ rfl]) | (simp only [e2 _ rfl]) | (simp only [e3 _ rfl])
 case fa off x => simp only [sem]; rw [evalO_congr h]
 case fld off n ag x => simp only [sem]; rw [evalO_congr h]
 case ia sz x i => simp only [sem]; rw [evalO_congr fun t ht => h t (.inl ht), evalO_congr fun t ht => h t (.inr ht)]
 case ix x i => simp only [sem]; rw [evalO_congr fun t ht => h t (.inl ht), evalO_congr fun t ht => h t (.inr ht)]
 case ixa sz len ag x i => simp only [sem]; rw [evalO_congr fun t ht => h t (.inl ht), evalO_congr fun t ht => h t (.inr ht)]
 case call f md own as => simp only [sem]; rw [evalOs_congr h]
 case callv x md own as => simp only [sem]; rw [evalO_congr fun t ht => h t (.inl ht), evalOs_congr fun t ht => h t (.inr ht)]
 case app sz b x y => simp only [sem]; rw [evalO_congr fun t ht => h t (.inl ht), evalO_congr fun t ht => h t (.inr ht)]
 case len str x => simp only [sem]; rw [evalO_congr h]
 case mm mx x y => simp only [sem]; rw [evalO_congr fun t ht => h t (.inl ht), evalO_congr fun t ht => h t (.inr ht)]
 case ext x i => simp only [sem]; rw [evalO_congr h]
 case mkf f caps => simp only [sem]; rw [evalOs_congr h]
theorem setE_getD_ne {r : R} {id : Id} {e : Ent} {t : Nat} (h : t ≠ id.1) : (setE r id e).getD t [] = r.getD t [] := by rw [setE_getD, if_neg h]
theorem set_getD {r : R} {d t : Nat} {es : List Ent} (hd : d < r.length) : (r.set d es).getD t [] = if t = d then es else r.getD t [] := by
 simp only [List.getD, List.getElem?_set]
 by_cases h : d = t
 ·subst h; simp [hd]
 ·rw [if_neg h, if_neg (fun e => h e.symm)]
theorem runA_frame {α : Type} {call : CallF} {d : Nat} {rd wr : List Nat} : ∀ {m : M α} {r r2 : R} {v : α} {r' : R}, m.runA call d rd wr r = some (v, r') → r2.length = r.length → (∀ t, t ∈ rd ∨ t ∈ wr → r2.getD t [] = r.getD t []) →
  ∃ r2', m.runA call d rd wr r2 = some (v, r2') ∧ r2'.length = r2.length ∧ r'.length = r.length ∧ (∀ t, t ∈ rd ∨ t ∈ wr → r2'.getD t [] = r'.getD t []) ∧ (∀ t, t ∉ wr → r2'.getD t [] = r2.getD t []) ∧ (∀ t, t ∉ wr → r'.getD t [] = r.getD t [])
 | .ret x, r, r2, v, r', h, hl, ha => by
  simp only [M.runA, Option.some.injEq, Prod.mk.injEq] at h ⊢
  obtain ⟨rfl, rfl⟩ := h
  exact ⟨r2, ⟨rfl, rfl⟩, rfl, rfl, ha, fun _ _ => rfl, fun _ _ => rfl⟩
 | .fail, r, r2, v, r', h, hl, ha => by simp [M.runA] at h
 | .get id k, r, r2, v, r', h, hl, ha => by
  simp only [M.runA] at h ⊢
  split at h
  ·rename_i hc
   have hm : id.1 ∈ rd ∨ id.1 ∈ wr := by simpa using hc
   have he : getE r2 id = getE r id := by simp only [getE, ha _ hm]
   rw [if_pos hc, he]
   exact runA_frame h hl ha
  ·cases h
 | .set id e m, r, r2, v, r', h, hl, ha => by
  simp only [M.runA] at h ⊢
  split at h
  ·rename_i hc
   rw [if_pos hc]
   have hm : id.1 ∈ wr := by simpa using hc
   obtain ⟨r2', g1, g2, g3, g4, g5, g6⟩ := runA_frame (r2 := setE r2 id e) h (by simp only [length_setE, hl]) (fun t ht => by
    rw [setE_getD, setE_getD]
    split
    ·rename_i e1; rw [ha t ht]
    ·exact ha t ht)
   refine ⟨r2', g1, by rw [g2, length_setE], by rw [g3, length_setE], g4, fun t ht => ?_, fun t ht => ?_⟩
   ·rw [g5 t ht, setE_getD_ne (fun e1 : t = id.1 => ht (e1 ▸ hm))]
   ·rw [g6 t ht, setE_getD_ne (fun e1 : t = id.1 => ht (e1 ▸ hm))]
  ·cases h
 | .new es m, r, r2, v, r', h, hl, ha => by
  simp only [M.runA] at h ⊢
  split at h
  ·rename_i hc
   have hc' := hc
   simp only [Bool.and_eq_true, decide_eq_true_eq] at hc
   obtain ⟨h1, h2, h3⟩ := hc
   have hm : d ∈ wr := by simpa using h1
   have h2' : d < r2.length := by omega
   rw [if_pos (by
    simp only [Bool.and_eq_true, decide_eq_true_eq]
    exact ⟨h1, h2', by rw [ha d (.inr hm)]; exact h3⟩)]
   obtain ⟨r2', g1, g2, g3, g4, g5, g6⟩ := runA_frame (r2 := r2.set d es) h (by simp only [List.length_set, hl]) (fun t ht => by
    rw [set_getD h2', set_getD h2]
    split
    ·rfl
    ·exact ha t ht)
   refine ⟨r2', g1, by rw [g2, List.length_set], by rw [g3, List.length_set], g4, fun t ht => ?_, fun t ht => ?_⟩
   ·rw [g5 t ht, set_getD h2', if_neg (fun e1 : t = d => ht (e1 ▸ hm))]
   ·rw [g6 t ht, set_getD h2, if_neg (fun e1 : t = d => ht (e1 ▸ hm))]
  ·cases h
 | .call f args k, r, r2, v, r', h, hl, ha => by
  simp only [M.runA] at h ⊢
  obtain ⟨res, h1, h2⟩ := Option.bind_eq_some_iff.1 h
  rw [h1, Option.bind_some]
  exact runA_frame h2 hl ha
def apartL (a b : List Nat) : Bool := a.all fun x => !b.contains x
theorem apartL_spec {a b : List Nat} (h : apartL a b = true) : ∀ x ∈ a, x ∉ b := by
 intro x hx
 simp only [apartL, List.all_eq_true, Bool.not_eq_true'] at h
 have := h x hx
 simpa using this
def commB (x y : OpE) : Bool :=
 (match x.d with | some d => !(looksE y).contains d && y.d != some d | none => true) && (match y.d with | some d => !(looksE x).contains d | none => true) && apartL x.wr (y.rd ++ y.wr) && apartL y.wr x.rd
theorem commB_spec {x y : OpE} (h : commB x y = true) : (∀ d, x.d = some d → d ∉ looksE y) ∧ (∀ d, x.d = some d → y.d ≠ some d) ∧ (∀ d, y.d = some d → d ∉ looksE x) ∧ (∀ t ∈ x.wr, t ∉ y.rd ∧ t ∉ y.wr) ∧ (∀ t ∈ y.wr, t ∉ x.rd) := by
 simp only [commB, Bool.and_eq_true] at h
 obtain ⟨⟨⟨h1, h2⟩, h3⟩, h4⟩ := h
 refine ⟨fun d hd => ?_, fun d hd => ?_, fun d hd => ?_, fun t ht => ?_, apartL_spec h4⟩
 ·rw [hd] at h1; simp only [Bool.and_eq_true, Bool.not_eq_true'] at h1; simpa using h1.1
 ·rw [hd] at h1; simp only [Bool.and_eq_true, bne_iff_ne] at h1; exact h1.2
 ·rw [hd] at h2; simpa using h2
 ·have := apartL_spec h3 t ht; rw [List.mem_append, not_or] at this; exact this
theorem put_getD {st : St} {d : Option Nat} {v : V} {t : Nat} (h : d ≠ some t) : ((st.put d v).s).getD t .dead = st.s.getD t .dead := by
 cases d with
 | none => rfl
 | some d =>
  have : d ≠ t := fun e => h (by rw [e])
  simp only [St.put, List.getD, List.getElem?_set]
  rw [if_neg this]
theorem put_r {st : St} {d : Option Nat} {v : V} : (st.put d v).r = st.r := by cases d <;> rfl
theorem put_s {st : St} {d : Option Nat} {v : V} {r : R} : (({ st with r := r } : St).put d v) = { (st.put d v) with r := r } := by cases d <;> rfl
theorem guard_congr {s s' : List V} {g : Option (Nat × Bool)} (h : ∀ t w, g = some (t, w) → s'.getD t .dead = s.getD t .dead) : guardV s' g = guardV s g := by
 cases g with
 | none => rfl
 | some q => obtain ⟨t, w⟩ := q; simp only [guardV]; rw [h t w rfl]
theorem stepO_iff {call : CallF} {e : OpE} {st st' : St} : stepO call true e st = some st' ↔ (∃ v r', guardV st.s e.g = some true ∧ (sem st.s (e.d.getD 0) e.o).runA call (e.d.getD 0) e.rd e.wr st.r = some (v, r') ∧ st' = ({ st with r := r' } : St).put e.d v) ∨
  (guardV st.s e.g = some false ∧ st' = st.put e.d (.tup [])) := by
 unfold stepO
 constructor
 ·intro h
  obtain ⟨b, hb, h⟩ := Option.bind_eq_some_iff.1 h
  cases b with
  | true =>
   simp only [if_true] at h
   obtain ⟨q, h1, h2⟩ := Option.map_eq_some_iff.1 h
   exact .inl ⟨q.1, q.2, hb, h1, h2.symm⟩
  | false =>
   simp only [Bool.false_eq_true, if_false, Option.some.injEq] at h
   exact .inr ⟨hb, h.symm⟩
 ·rintro (⟨v, r', hb, h1, h2⟩ | ⟨hb, h2⟩)
  ·rw [hb, Option.bind_some]
   simp only [if_true, h1, Option.map_some, h2]
  ·rw [hb, Option.bind_some]
   simp [h2]
theorem r_ext {r r' : R} (hl : r.length = r'.length) (h : ∀ t, r.getD t [] = r'.getD t []) : r = r' := by
 apply List.ext_getElem hl
 intro i h1 h2
 have := h i
 simpa [List.getD, h1, h2] using this
theorem put_comm {s : List V} {d1 d2 : Option Nat} {v1 v2 : V} {r : R} (h : ∀ d, d1 = some d → d2 ≠ some d) : ((⟨s, r⟩ : St).put d1 v1).put d2 v2 = ((⟨s, r⟩ : St).put d2 v2).put d1 v1 := by
 cases d1 with
 | none => rfl
 | some d => cases d2 with
  | none => rfl
  | some d' =>
   have : d ≠ d' := fun e => h d rfl (by rw [e])
   simp only [St.put, St.mk.injEq, and_true]
   exact List.set_comm _ _ this
theorem comm_step {call : CallF} {x y : OpE} (hc : commB x y = true) {st s1 s2 : St} (h1 : stepO call true x st = some s1) (h2 : stepO call true y s1 = some s2) : ∃ s1', stepO call true y st = some s1' ∧ stepO call true x s1' = some s2 := by
 obtain ⟨c1, c2, c3, c4, c5⟩ := commB_spec hc
 have hgx : ∀ {st : St} {v : V}, guardV ((st.put y.d v).s) x.g = guardV st.s x.g := fun {st v} => guard_congr fun t w e => put_getD (fun e' => c3 t e' (by simp [looksE, e]))
 have hgy : ∀ {st : St} {v : V}, guardV ((st.put x.d v).s) y.g = guardV st.s y.g := fun {st v} => guard_congr fun t w e => put_getD (fun e' => c1 t e' (by simp [looksE, e]))
 have hsx : ∀ {st : St} {v : V} {d : Nat}, sem ((st.put y.d v).s) d x.o = sem st.s d x.o := fun {st v d} => sem_congr fun t ht => put_getD (fun e' => c3 t e' (by simp [looksE, ht]))
 have hsy : ∀ {st : St} {v : V} {d : Nat}, sem ((st.put x.d v).s) d y.o = sem st.s d y.o := fun {st v d} => sem_congr fun t ht => put_getD (fun e' => c1 t e' (by simp [looksE, ht]))
 obtain ⟨s, r⟩ := st
 rcases stepO_iff.1 h1 with ⟨v1, r1, g1, m1, e1⟩ | ⟨g1, e1⟩ <;> rcases stepO_iff.1 h2 with ⟨v2, r2, g2, m2, e2⟩ | ⟨g2, e2⟩
 ·subst e1
  rw [hgy] at g2
  rw [hsy, put_r] at m2
  obtain ⟨ry, n1, n2, n3, n4, n5, n6⟩ := runA_frame (r2 := r) m2 (by
   obtain ⟨_, _, _, f3, _⟩ := runA_frame (r2 := r) m1 rfl (fun _ _ => rfl)
   exact f3.symm) (fun t ht => by
   obtain ⟨_, _, _, _, _, _, f6⟩ := runA_frame (r2 := r) m1 rfl (fun _ _ => rfl)
   refine (f6 t fun hx => ?_).symm
   have := c4 t hx
   rcases ht with ht | ht
   ·exact this.1 ht
   ·exact this.2 ht)
  obtain ⟨rx, k1, k2, k3, k4, k5, k6⟩ := runA_frame (r2 := ry) m1 n2 (fun t ht => n5 t fun hy => by
   rcases ht with ht | ht
   ·exact c5 t hy ht
   ·exact (c4 t ht).2 hy)
  have hr : rx = r2 := by
   refine r_ext (by rw [k2, n2, n3, k3]) fun t => ?_
   by_cases hx : t ∈ x.wr
   ·rw [k4 t (.inr hx), n6 t fun hy => (c4 t hx).2 hy]
   ·rw [k5 t hx]
    by_cases hy : t ∈ y.wr
    ·exact n4 t (.inr hy)
    ·rw [n5 t hy, n6 t hy, k6 t hx]
  subst hr
  refine ⟨({ s := s, r := ry } : St).put y.d v2, stepO_iff.2 (.inl ⟨v2, ry, g2, n1, rfl⟩), stepO_iff.2 (.inl ⟨v1, rx, by rw [hgx]; exact g1, by rw [hsx, put_r]; exact k1, ?_⟩)⟩
  rw [e2, put_s, put_s, put_s, put_s]
  have := put_comm (s := s) (v1 := v1) (v2 := v2) (r := rx) c2
  cases hd1 : x.d <;> cases hd2 : y.d <;> simp only [hd1, hd2, St.put] at this ⊢ <;> exact this
 ·subst e1
  rw [hgy] at g2
  refine ⟨({ s := s, r := r } : St).put y.d (.tup []), stepO_iff.2 (.inr ⟨g2, rfl⟩), stepO_iff.2 (.inl ⟨v1, r1, by rw [hgx]; exact g1, by rw [hsx, put_r]; exact m1, ?_⟩)⟩
  rw [e2]
  have := put_comm (s := s) (v1 := v1) (v2 := .tup []) (r := r1) c2
  cases hd1 : x.d <;> cases hd2 : y.d <;> simp only [hd1, hd2, St.put] at this ⊢ <;> exact this
 ·subst e1
  rw [hgy] at g2
  rw [hsy, put_r] at m2
  refine ⟨({ s := s, r := r2 } : St).put y.d v2, stepO_iff.2 (.inl ⟨v2, r2, g2, m2, rfl⟩), stepO_iff.2 (.inr ⟨by rw [hgx]; exact g1, ?_⟩)⟩
  rw [e2]
  have := put_comm (s := s) (v1 := .tup []) (v2 := v2) (r := r2) c2
  cases hd1 : x.d <;> cases hd2 : y.d <;> simp only [hd1, hd2, St.put] at this ⊢ <;> exact this
 ·subst e1
  rw [hgy] at g2
  refine ⟨({ s := s, r := r } : St).put y.d (.tup []), stepO_iff.2 (.inr ⟨g2, rfl⟩), stepO_iff.2 (.inr ⟨by rw [hgx]; exact g1, ?_⟩)⟩
  rw [e2]
  exact put_comm c2
end TT
namespace TT
open Go
theorem setCell_comm (w : World) {a b : Addr} (h : a.block ≠ b.block) (u v : Value) : (w.setCell a u).setCell b v = (w.setCell b v).setCell a u := by
 unfold World.setCell
 simp only [World.mk.injEq, and_true]
 apply Array.ext_getElem?
 intro i
 simp only [Array.getElem?_modify]
 by_cases e1 : a.block = i
 ·subst e1
  have e2 : ¬ b.block = a.block := fun e => h e.symm
  simp [e2]
 ·by_cases e2 : b.block = i
  ·subst e2; simp [e1]
  ·simp [e1, e2]
theorem setCell_get {w : World} {a b : Addr} (h : a.block ≠ b.block) (u : Value) : (w.setCell a u).heap[b.block]? = w.heap[b.block]? := by
 simp [World.setCell, Array.getElem?_modify, h]
theorem setCell_cell {w : World} {a b : Addr} (h : a.block ≠ b.block) (u : Value) : (w.setCell a u).cell? b = w.cell? b := by
 unfold World.cell?; rw [setCell_get h]
theorem setCell_frozen {w : World} {a b : Addr} (h : a.block ≠ b.block) (u : Value) : (w.setCell a u).frozen? b = w.frozen? b := by
 unfold World.frozen?; rw [setCell_get h]
section
variable {P : Program}
theorem store_at {a : Addr} {u u0 : Value} (h1 : u.oneCell' = true) {w w1 : World} (hc : w.cell? a = some u0) (h : (store a u).run P w = .ok () w1) : w1 = w.setCell a u ∧ w.frozen? a = false := by
 rw [run_store P w _ u .plain h1, hc] at h
 simp only at h
 split at h
 ·cases h
 ·rename_i hf
  injection h with _ h
  exact ⟨h.symm, by simpa using hf⟩
theorem store_do {a : Addr} {u u0 : Value} (h1 : u.oneCell' = true) {w : World} (hc : w.cell? a = some u0) (hf : w.frozen? a = false) : (store a u).run P w = .ok () (w.setCell a u) := by
 rw [run_store P w _ u .plain h1, hc]
 simp [hf]
theorem stores_swap {b k : Nat} {ad : Addr} (hne : ad.block ≠ b) {v v0 : Value} (hv : v.oneCell' = true) : ∀ (us : List Value) (j : Nat) {w w1 w2 : World} {cur : Array Value} {e : TypeId}, (∀ u ∈ us, u.oneCell' = true) →
  w.heap[b]? = some (.cells cur e (0, 0)) → k + j + us.length ≤ cur.size → (storeCells ⟨b, k, none⟩ us j).run P w = .ok () w1 → w.cell? ad = some v0 → (store ad v).run P w1 = .ok () w2 →
  (store ad v).run P w = .ok () (w.setCell ad v) ∧ (storeCells ⟨b, k, none⟩ us j).run P (w.setCell ad v) = .ok () w2
 | [], j, w, w1, w2, cur, e, hu, hb, hl, hr, hc, hs => by
  have : w1 = w := by
   have hrun' : (pure () : Sem Unit).run P w = .ok () w1 := hr
   simp at hrun'
   exact hrun'.symm
  subst this
  obtain ⟨h1, h2⟩ := store_at hv hc hs
  subst h1
  refine ⟨store_do hv hc h2, ?_⟩
  show (pure () : Sem Unit).run P _ = _
  simp
 | u :: us, j, w, w1, w2, cur, e, hu, hb, hl, hr, hc, hs => by
  have hj : k + j < cur.size := by simp at hl; omega
  have h0 := store_own (P := P) (k := k + j) hb (show cur[k + j]? = some cur[k + j] by simp [hj]) (hu u (List.mem_cons_self ..))
  simp only [storeCells, add_addr] at hr
  rw [Sem.run_bind, h0] at hr
  have hne1 : (⟨b, k + j, none⟩ : Addr).block ≠ ad.block := fun e => hne e.symm
  obtain ⟨g1, g2⟩ := stores_swap (k := k) hne hv us (j + 1) (fun u hu' => hu u (List.mem_cons_of_mem _ hu')) (setCell_heap hb) (by simp at hl ⊢; omega) hr (by rw [setCell_cell hne1]; exact hc) hs
  have hf : w.frozen? ad = false := by
   have := (store_at hv (by rw [setCell_cell hne1]; exact hc) g1).2
   rwa [setCell_frozen hne1] at this
  refine ⟨store_do hv hc hf, ?_⟩
  have hb' : (w.setCell ad v).heap[b]? = some (.cells cur e (0, 0)) := by rw [show b = (⟨b, k, none⟩ : Addr).block from rfl, setCell_get (b := ⟨b, k, none⟩) hne]; exact hb
  have h0' := store_own (P := P) (k := k + j) hb' (show cur[k + j]? = some cur[k + j] by simp [hj]) (hu u (List.mem_cons_self ..))
  simp only [storeCells, add_addr]
  rw [Sem.run_bind, h0']
  show (storeCells ⟨b, k, none⟩ us (j + 1)).run P _ = _
  rw [setCell_comm w (b := ⟨b, k + j, none⟩) hne v u]
  exact g2
end
end TT
namespace TT
open Go
section
variable {P : Program} {c : Ctx} {w w' : World} {a : Act} {o : Oper} {ops : Array Oper} {Q : Exit → Act → World → Prop} {call : CallF} {es : List OpE}
def AnyR (call : CallF) (es : List OpE) (ops : Array Oper) (st' : St) : Nat → Array Bool → St → Prop
 | 0, listed, st => Region.ready .any ops listed = [] ∧ st = st'
 | n + 1, listed, st => (Region.ready .any ops listed = [] → st = st') ∧ ∀ i ∈ Region.ready .any ops listed, ∃ e st1, es[i]? = some e ∧ stepO call true e st = some st1 ∧ AnyR call es ops st' n (listed.setIfInBounds i true) st1
theorem anyR_sound (hS : Sound c.G P call) (hag : ∀ (j : Nat) e, es[j]? = some e → ∃ o, ops[j]? = some o ∧ agE P ops e o = true) {st' : St} (hK : ∀ a' w', Sim c st' a' w' → Q .normal a' w') :
  ∀ (n : Nat) {listed : Array Bool} {st : St} {a : Act} {w : World}, AnyR call es ops st' n listed st → Sim c st a w → wpAny P .any ops Q n listed a w
 | 0, listed, st, a, w, h, hs => ⟨h.1, hK _ _ (h.2 ▸ hs)⟩
 | n + 1, listed, st, a, w, h, hs => by
  refine ⟨fun h0 => hK _ _ (h.1 h0 ▸ hs), fun i hi => ?_⟩
  obtain ⟨e, st1, h1, h2, h3⟩ := h.2 i hi
  obtain ⟨o, g1, g2⟩ := hag i e h1
  exact step_sound hS g1 g2 h2 hs fun a' w' hs' => anyR_sound hS hag hK n h3 hs'
theorem anyR_first {st' : St} {i : Nat} {ei : OpE} (hi : es[i]? = some ei) : ∀ (n : Nat) {listed : Array Bool} {st s1 : St},
  (∀ j ej oj, es[j]? = some ej → ops[j]? = some oj → j ≠ i → listed.getD j true = false → (∀ e ∈ oj.after, Region.binds .any e = true → e.on ≠ i) → commB ei ej = true) →
  i ∈ Region.ready .any ops listed → stepO call true ei st = some s1 → AnyR call es ops st' n (listed.setIfInBounds i true) s1 → AnyR call es ops st' (n + 1) listed st := by
 intro n
 induction n with
 | zero =>
  intro listed st s1 _ hr h1 H
  refine ⟨fun h => (by rw [h] at hr; cases hr), fun j hj => ?_⟩
  by_cases hji : j = i
  ·subst hji; exact ⟨ei, s1, hi, h1, H⟩
  ·have := ready_mono hj hji
   rw [H.1] at this
   cases this
 | succ n ih =>
  intro listed st s1 hfree hr h1 H
  refine ⟨fun h => (by rw [h] at hr; cases hr), fun j hj => ?_⟩
  by_cases hji : j = i
  ·subst hji; exact ⟨ei, s1, hi, h1, H⟩
  ·obtain ⟨ej, s2, g1, g2, g3⟩ := H.2 j (ready_mono hj hji)
   obtain ⟨hjun, oj, hoj, hall⟩ := mem_ready.1 hj
   have hnot : ∀ e ∈ oj.after, Region.binds .any e = true → e.on ≠ i := fun e he hb heq => by
    have h1 := hall e he hb
    have h0 := (mem_ready.1 hr).1
    rw [heq] at h1
    rcases Nat.lt_or_ge i listed.size with h' | h'
    ·simp [h'] at h0 h1; rw [h0] at h1; cases h1
    ·simp [Array.getElem?_eq_none h'] at h1
   obtain ⟨s1', k1, k2⟩ := comm_step (hfree j ej oj g1 hoj hji hjun hnot) h1 g2
   refine ⟨ej, s1', g1, k1, ?_⟩
   refine ih (fun k ek ok hek hk hki hun hno => ?_) (ready_mono hr (Ne.symm hji)) k2 (by rw [Array.setIfInBounds_comm _ _ hji]; exact g3)
   refine hfree k ek ok hek hk hki ?_ hno
   by_cases hjk : j = k
   ·subst hjk; exact hjun
   ·rw [getD_set_ne true hjk] at hun; exact hun
theorem anyR_firstD {st' : St} {i : Nat} {ei : OpE} {dep : Nat → Bool} (hi : es[i]? = some ei) (hd : ∀ j oj, ops[j]? = some oj → dep j = true → ∃ e ∈ oj.after, Region.binds .any e = true ∧ (e.on = i ∨ dep e.on = true)) : ∀ (n : Nat) {listed : Array Bool} {st s1 : St},
  (∀ m, listed.getD m false = true → dep m = false) → (∀ j ej oj, es[j]? = some ej → ops[j]? = some oj → j ≠ i → listed.getD j true = false → dep j = false → commB ei ej = true) →
  i ∈ Region.ready .any ops listed → stepO call true ei st = some s1 → AnyR call es ops st' n (listed.setIfInBounds i true) s1 → AnyR call es ops st' (n + 1) listed st := by
 intro n
 induction n with
 | zero =>
  intro listed st s1 _ _ hr h1 H
  refine ⟨fun h => (by rw [h] at hr; cases hr), fun j hj => ?_⟩
  by_cases hji : j = i
  ·subst hji; exact ⟨ei, s1, hi, h1, H⟩
  ·have := ready_mono hj hji
   rw [H.1] at this
   cases this
 | succ n ih =>
  intro listed st s1 hl hfree hr h1 H
  refine ⟨fun h => (by rw [h] at hr; cases hr), fun j hj => ?_⟩
  by_cases hji : j = i
  ·subst hji; exact ⟨ei, s1, hi, h1, H⟩
  ·obtain ⟨ej, s2, g1, g2, g3⟩ := H.2 j (ready_mono hj hji)
   obtain ⟨hjun, oj, hoj, hall⟩ := mem_ready.1 hj
   have hdj : dep j = false := by
    cases hdj : dep j with
    | false => rfl
    | true =>
     obtain ⟨e, he, hb, hor⟩ := hd j oj hoj hdj
     have h1 := hall e he hb
     rcases hor with heq | hor
     ·have h0 := (mem_ready.1 hr).1
      rw [heq] at h1
      rcases Nat.lt_or_ge i listed.size with h' | h'
      ·simp [h'] at h0 h1; rw [h0] at h1; cases h1
      ·simp [Array.getElem?_eq_none h'] at h1
     ·have := hl e.on (by
       rcases Nat.lt_or_ge e.on listed.size with h' | h'
       ·simpa [h'] using h1
       ·simp [Array.getElem?_eq_none h'] at h1)
      rw [hor] at this
      cases this
   obtain ⟨s1', k1, k2⟩ := comm_step (hfree j ej oj g1 hoj hji hjun hdj) h1 g2
   refine ⟨ej, s1', g1, k1, ?_⟩
   refine ih (fun m hm => ?_) (fun k ek ok hek hk hki hun hno => ?_) (ready_mono hr (Ne.symm hji)) k2 (by rw [Array.setIfInBounds_comm _ _ hji]; exact g3)
   ·by_cases hjm : j = m
    ·subst hjm; exact hdj
    ·rw [getD_set_ne false hjm] at hm; exact hl m hm
   ·refine hfree k ek ok hek hk hki ?_ hno
    by_cases hjk : j = k
    ·subst hjk; exact hjun
    ·rw [getD_set_ne true hjk] at hun; exact hun
def depA (ops : Array Oper) (i : Nat) : Array Bool := (List.range ops.size).foldl (fun dep j => dep.push (match ops[j]? with | some oj => oj.after.any (fun e => Region.binds .any e && (e.on == i || dep.getD e.on false)) | none => false)) #[]
def depOk (ops : Array Oper) (listed : Array Bool) (i : Nat) (dep : Array Bool) : Bool := (List.range ops.size).all fun j => !dep.getD j false || (!listed.getD j false && (match ops[j]? with | some oj => oj.after.any (fun e => Region.binds .any e && (e.on == i || dep.getD e.on false)) | none => false))
def freeE (es : List OpE) (ops : Array Oper) (listed : Array Bool) (i : Nat) (dep : Array Bool) : Bool := match es[i]? with
 | none => false
 | some ei => depOk ops listed i dep && dep.size == ops.size && (List.range ops.size).all fun j => j == i || listed.getD j true || dep.getD j false || (match es[j]? with | some ej => commB ei ej | none => true)
def freeD (es : List OpE) (ops : Array Oper) (listed : Array Bool) (i : Nat) : Bool := freeE es ops listed i (depA ops i)
theorem freeE_spec {i : Nat} {ei : OpE} {listed dep : Array Bool} (hi : es[i]? = some ei) (h : freeE es ops listed i dep = true) :
  (∀ j oj, ops[j]? = some oj → dep.getD j false = true → ∃ e ∈ oj.after, Region.binds .any e = true ∧ (e.on = i ∨ dep.getD e.on false = true)) ∧ (∀ m, listed.getD m false = true → dep.getD m false = false) ∧
  (∀ j ej oj, es[j]? = some ej → ops[j]? = some oj → j ≠ i → listed.getD j true = false → dep.getD j false = false → commB ei ej = true) := by
 simp only [freeE, hi, depOk, Bool.and_eq_true, List.all_eq_true, List.mem_range, beq_iff_eq] at h
 obtain ⟨⟨h1, h2⟩, h3⟩ := h
 refine ⟨fun j oj hoj hd => ?_, fun m hm => ?_, fun j ej oj hej hoj hne hun hd => ?_⟩
 ·have := h1 j (Array.getElem?_eq_some_iff.1 hoj).1
  rw [hd, hoj] at this
  simp only [Bool.not_true, Bool.false_or, Bool.and_eq_true] at this
  obtain ⟨e, he, hb⟩ := Array.any_eq_true'.1 this.2
  simp only [Bool.and_eq_true, Bool.or_eq_true, beq_iff_eq] at hb
  exact ⟨e, he, hb.1, hb.2⟩
 ·cases hd : dep.getD m false with
  | false => rfl
  | true =>
   rcases Nat.lt_or_ge m ops.size with h' | h'
   ·have := h1 m h'
    rw [hd, hm] at this
    simp at this
   ·rw [← h2] at h'
    simp [Array.getD, Nat.not_lt.2 h'] at hd
 ·have := h3 j (Array.getElem?_eq_some_iff.1 hoj).1
  simpa [hej, hne, hun, hd] using this
def freeC (es : List OpE) (ops : Array Oper) (listed : Array Bool) (i : Nat) : Bool :=
 match es[i]? with
 | none => false
 | some ei => (List.range ops.size).all fun j => j == i || listed.getD j true || (match ops[j]? with | some oj => oj.after.any (fun e => Region.binds .any e && e.on == i) | none => true) || (match es[j]? with | some ej => commB ei ej | none => true)
def lexC (es : List OpE) (ops : Array Oper) : Nat → Nat → Array Bool → Bool
 | 0, _, listed => (Region.ready .any ops listed).isEmpty
 | n + 1, k, listed => (Region.ready .any ops listed).contains k && (freeC es ops listed k || freeD es ops listed k) && lexC es ops n (k + 1) (listed.setIfInBounds k true)
theorem freeC_spec {i : Nat} {ei : OpE} {listed : Array Bool} (hi : es[i]? = some ei) (h : freeC es ops listed i = true) (j : Nat) (ej : OpE) (oj : Oper) (hej : es[j]? = some ej) (hoj : ops[j]? = some oj) (hne : j ≠ i) (hun : listed.getD j true = false) (hno : ∀ e ∈ oj.after, Region.binds .any e = true → e.on ≠ i) : commB ei ej = true := by
 simp only [freeC, hi, List.all_eq_true, List.mem_range] at h
 have h1 := h j (Array.getElem?_eq_some_iff.1 hoj).1
 simp only [hoj, hej, Bool.or_eq_true, beq_iff_eq, hne, false_or, hun, Bool.false_eq_true] at h1
 rcases h1 with h1 | h1
 ·obtain ⟨e, he, hb⟩ := Array.any_eq_true'.1 h1
  simp only [Bool.and_eq_true, beq_iff_eq] at hb
  exact absurd hb.2 (hno e he hb.1)
 ·exact h1
theorem anyR_lex {st' : St} : ∀ (l : List OpE) (k : Nat) {listed : Array Bool} {st : St}, (∀ j, l[j]? = es[k + j]?) → lexC es ops l.length k listed = true → stepsO call true l st = some st' → AnyR call es ops st' l.length listed st
 | [], k, listed, st, hl, hB, h => by
  simp only [stepsO, Option.some.injEq] at h
  exact ⟨by simpa [lexC] using hB, h⟩
 | e :: l, k, listed, st, hl, hB, h => by
  have h0 : es[k]? = some e := by simpa using (hl 0).symm
  simp only [List.length_cons, lexC, Bool.and_eq_true] at hB
  obtain ⟨⟨hr, hf⟩, hB'⟩ := hB
  simp only [stepsO] at h
  obtain ⟨st1, h1, h2⟩ := Option.bind_eq_some_iff.1 h
  have hrest := (anyR_lex l (k + 1) (fun j => by have := hl (j + 1); simpa [Nat.add_assoc, Nat.add_comm 1 j] using this) hB' h2)
  rw [Bool.or_eq_true] at hf
  rcases hf with hf | hf
  ·exact anyR_first h0 l.length (freeC_spec h0 hf) (by simpa using hr) h1 hrest
  ·obtain ⟨f1, f2, f3⟩ := freeE_spec h0 hf
   exact anyR_firstD (dep := fun j => (depA ops k).getD j false) h0 f1 l.length f2 f3 (by simpa using hr) h1 hrest
def agEs (P : Program) (ops : Array Oper) : List OpE → List Oper → Bool
 | [], [] => true
 | e :: es, o :: os => agE P ops e o && agEs P ops es os
 | _, _ => false
theorem agEs_spec : ∀ {es : List OpE} {os : List Oper}, agEs P ops es os = true → es.length = os.length ∧ ∀ (j : Nat) e, es[j]? = some e → ∃ o, os[j]? = some o ∧ agE P ops e o = true
 | [], [], h => ⟨rfl, fun j e h => by simp at h⟩
 | [], o :: os, h => by simp [agEs] at h
 | e :: es, [], h => by simp [agEs] at h
 | e :: es, o :: os, h => by
  simp only [agEs, Bool.and_eq_true] at h
  obtain ⟨h1, h2⟩ := agEs_spec h.2
  refine ⟨by simp [h1], fun j e' hj => ?_⟩
  cases j with
  | zero => simp at hj; subst hj; exact ⟨o, by simp, h.1⟩
  | succ j => obtain ⟨o', g1, g2⟩ := h2 j e' (by simpa using hj); exact ⟨o', by simpa using g1, g2⟩
end
end TT
namespace TT
open Go
section
variable {P : Program} {c : Ctx} {w w' : World} {a : Act} {o : Oper} {ops : Array Oper} {Q : Exit → Act → World → Prop} {call : CallF} {es : List OpE}
def AnyF (call : CallF) (es : List OpE) (ops : Array Oper) (Fin : Array Bool → St → Prop) : Nat → Array Bool → St → Prop
 | 0, listed, st => Fin listed st
 | n + 1, listed, st => Region.ready .any ops listed ≠ [] ∧ ∀ i ∈ Region.ready .any ops listed, ∃ e st1, es[i]? = some e ∧ stepO call true e st = some st1 ∧ AnyF call es ops Fin n (listed.setIfInBounds i true) st1
theorem anyF_sound (hS : Sound c.G P call) (hag : ∀ (j : Nat) e, es[j]? = some e → ∃ o, ops[j]? = some o ∧ agE P ops e o = true) {Fin : Array Bool → St → Prop} {m : Nat} (hFin : ∀ listed st a w, Fin listed st → Sim c st a w → wpAny P .any ops Q m listed a w) :
  ∀ (n : Nat) {listed : Array Bool} {st : St} {a : Act} {w : World}, AnyF call es ops Fin n listed st → Sim c st a w → wpAny P .any ops Q (n + m) listed a w
 | 0, listed, st, a, w, h, hs => by rw [Nat.zero_add]; exact hFin _ _ _ _ h hs
 | n + 1, listed, st, a, w, h, hs => by
  rw [show n + 1 + m = (n + m) + 1 by omega]
  refine ⟨fun h0 => absurd h0 h.1, fun i hi => ?_⟩
  obtain ⟨e, st1, h1, h2, h3⟩ := h.2 i hi
  obtain ⟨o, g1, g2⟩ := hag i e h1
  exact step_sound hS g1 g2 h2 hs fun a' w' hs' => anyF_sound hS hag hFin n h3 hs'
theorem anyF_last {Fin : Array Bool → St → Prop} {i : Nat} {ei : OpE} (hi : es[i]? = some ei) {listed : Array Bool} {st s1 : St} (hr : Region.ready .any ops listed = [i]) (h1 : stepO call true ei st = some s1) {n : Nat} (H : AnyF call es ops Fin n (listed.setIfInBounds i true) s1) : AnyF call es ops Fin (n + 1) listed st := by
 refine ⟨by rw [hr]; simp, fun j hj => ?_⟩
 rw [hr, List.mem_singleton] at hj
 subst hj
 exact ⟨ei, s1, hi, h1, H⟩
theorem anyF_first {Fin : Array Bool → St → Prop} {i : Nat} {ei : OpE} {dep : Nat → Bool} (hi : es[i]? = some ei) (hd : ∀ j oj, ops[j]? = some oj → dep j = true → ∃ e ∈ oj.after, Region.binds .any e = true ∧ (e.on = i ∨ dep e.on = true)) : ∀ (n : Nat) {listed : Array Bool} {st s1 : St},
  (∀ m, listed.getD m false = true → dep m = false) → (∀ j ej oj, es[j]? = some ej → ops[j]? = some oj → j ≠ i → listed.getD j true = false → dep j = false → commB ei ej = true) →
  (∀ l s, AnyF call es ops Fin 0 l s → Region.ready .any ops l ≠ [] → ∀ j ∈ Region.ready .any ops l, dep j = true) →
  i ∈ Region.ready .any ops listed → stepO call true ei st = some s1 → AnyF call es ops Fin n (listed.setIfInBounds i true) s1 → AnyF call es ops Fin (n + 1) listed st := by
 intro n
 induction n with
 | zero =>
  intro listed st s1 hl hfree hz hr h1 H
  refine ⟨fun h => (by rw [h] at hr; cases hr), fun j hj => ?_⟩
  by_cases hji : j = i
  ·subst hji; exact ⟨ei, s1, hi, h1, H⟩
  ·have hm := ready_mono hj hji
   have hdj := hz _ _ H (fun e => by rw [e] at hm; cases hm) j hm
   obtain ⟨hjun, oj, hoj, hall⟩ := mem_ready.1 hj
   obtain ⟨e, he, hb, hor⟩ := hd j oj hoj hdj
   have h2 := hall e he hb
   rcases hor with heq | hor
   ·have h0 := (mem_ready.1 hr).1
    rw [heq] at h2
    rcases Nat.lt_or_ge i listed.size with h' | h'
    ·simp [h'] at h0 h2; rw [h0] at h2; cases h2
    ·simp [Array.getElem?_eq_none h'] at h2
   ·have := hl e.on (by
     rcases Nat.lt_or_ge e.on listed.size with h' | h'
     ·simpa [h'] using h2
     ·simp [Array.getElem?_eq_none h'] at h2)
    rw [hor] at this
    cases this
 | succ n ih =>
  intro listed st s1 hl hfree hz hr h1 H
  refine ⟨fun h => (by rw [h] at hr; cases hr), fun j hj => ?_⟩
  by_cases hji : j = i
  ·subst hji; exact ⟨ei, s1, hi, h1, H⟩
  ·obtain ⟨ej, s2, g1, g2, g3⟩ := H.2 j (ready_mono hj hji)
   obtain ⟨hjun, oj, hoj, hall⟩ := mem_ready.1 hj
   have hdj : dep j = false := by
    cases hdj : dep j with
    | false => rfl
    | true =>
     obtain ⟨e, he, hb, hor⟩ := hd j oj hoj hdj
     have h1 := hall e he hb
     rcases hor with heq | hor
     ·have h0 := (mem_ready.1 hr).1
      rw [heq] at h1
      rcases Nat.lt_or_ge i listed.size with h' | h'
      ·simp [h'] at h0 h1; rw [h0] at h1; cases h1
      ·simp [Array.getElem?_eq_none h'] at h1
     ·have := hl e.on (by
       rcases Nat.lt_or_ge e.on listed.size with h' | h'
       ·simpa [h'] using h1
       ·simp [Array.getElem?_eq_none h'] at h1)
      rw [hor] at this
      cases this
   obtain ⟨s1', k1, k2⟩ := comm_step (hfree j ej oj g1 hoj hji hjun hdj) h1 g2
   refine ⟨ej, s1', g1, k1, ?_⟩
   refine ih (fun m hm => ?_) (fun k ek ok hek hk hki hun hno => ?_) hz (ready_mono hr (Ne.symm hji)) k2 (by rw [Array.setIfInBounds_comm _ _ hji]; exact g3)
   ·by_cases hjm : j = m
    ·subst hjm; exact hdj
    ·rw [getD_set_ne false hjm] at hm; exact hl m hm
   ·refine hfree k ek ok hek hk hki ?_ hno
    by_cases hjk : j = k
    ·subst hjk; exact hjun
    ·rw [getD_set_ne true hjk] at hun; exact hun
def setN : Nat → Nat → Array Bool → Array Bool
 | 0, _, l => l
 | n + 1, k, l => setN n (k + 1) (l.setIfInBounds k true)
def lexF (es : List OpE) (ops : Array Oper) (L : Array Bool) : Nat → Nat → Array Bool → Bool
 | 0, _, _ => true
 | n + 1, k, listed => (Region.ready .any ops listed).contains k && freeD es ops listed k && ((Region.ready .any ops L).all fun j => (depA ops k).getD j false) && lexF es ops L n (k + 1) (listed.setIfInBounds k true)
theorem anyF_lex {Fin : Array Bool → St → Prop} {L : Array Bool} (hL : ∀ l s, Fin l s → l = L) {st' : St} : ∀ (l : List OpE) (k : Nat) {listed : Array Bool} {st : St}, (∀ j, j < l.length → l[j]? = es[k + j]?) → lexF es ops L l.length k listed = true → stepsO call true l st = some st' → Fin (setN l.length k listed) st' → AnyF call es ops Fin l.length listed st
 | [], k, listed, st, hl, hB, h, hF => by
  simp only [stepsO, Option.some.injEq] at h
  subst h
  exact hF
 | e :: l, k, listed, st, hl, hB, h, hF => by
  have h0 : es[k]? = some e := by simpa using (hl 0 (by simp)).symm
  simp only [List.length_cons, lexF, Bool.and_eq_true] at hB
  obtain ⟨⟨⟨hr, hf⟩, ht⟩, hB'⟩ := hB
  simp only [stepsO] at h
  obtain ⟨st1, h1, h2⟩ := Option.bind_eq_some_iff.1 h
  have hrest := anyF_lex hL l (k + 1) (fun j hj => by have := hl (j + 1) (by simp; omega); simpa [Nat.add_assoc, Nat.add_comm 1 j] using this) hB' h2 hF
  obtain ⟨f1, f2, f3⟩ := freeE_spec h0 hf
  refine anyF_first (dep := fun j => (depA ops k).getD j false) h0 f1 l.length f2 f3 (fun l' s hF' _ j hj => ?_) (by simpa using hr) h1 hrest
  have e := hL _ _ hF'
  subst e
  exact List.all_eq_true.1 ht j hj
end
end TT
