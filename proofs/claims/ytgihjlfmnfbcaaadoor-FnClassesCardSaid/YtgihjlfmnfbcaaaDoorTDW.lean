import Derived.Test.YtgihjlfmnfbcaaaDoorTDX
import Derived.Orders
import Derived.LoopN
set_option linter.unusedVariables false
set_option linter.unusedSimpArgs false
namespace TT
open Go
section
variable {P : Program} {c : Gc} {w w' : World} {B : Nat → Prop} {ρ : Id → CD} {Sf : Id → Nat → Prop} {X : Nat → Prop} {r : R} {a : Act} {o : Oper} {id0 : Id}
theorem YG (hI : Az c w B ρ Sf (fun _ => False) r) {t : TypeId} {y z : Operand} (h : o.op = .store t y z) (hb : stB P t 1 = true) {id2 : Id} {n2 : Nat} (hv : A0 w B ρ r (.ref id2 n2) (a.eval z)) {id : Id} {p : AE} {i off m st : Nat}
  (hp : A0 w B ρ r (.ptr id p i off m st) (a.eval y)) {call : AC} {d : Nat} {x : V × R}
  (hrun : (Bv [.ref id2 n2] fun ts => .get id fun
     | .mem rows stt fx => (match BG rows stt p i m st with
      | some row => if ts.length = 1 ∧ off + 1 ≤ row.length then
        .set id (.mem (Cl rows p i off ts) (stt + 1) fx) (.ret (Mc id p i off (stt + 1) ts)) else .fail
      | none => .fail)
     | _ => .fail).run call d r = some x) :
  ∃ w' Sf', IL P o a w w' ∧ Az c w' B ρ Sf' (fun _ => False) x.2 ∧ x.2.length = r.length ∧ (∀ v u, A0 w B ρ r v u → A0 w' B ρ x.2 v u) ∧ A0 w' B ρ x.2 x.1 (a.eval z) := by
 obtain ⟨ts, S, Sf1, r1, g1, g2, g3, g4, g5, g6, g7⟩ := FF (us := (a.eval z).cells.toList) hrun hI (Ee hv (by intro e; cases e))
 simp only [M.run] at g1
 cases h0 : A9 r1 id with
 | dead => rw [h0] at g1; simp [M.run] at g1
 | mem rows stt fx =>
  rw [h0] at g1
  simp only at g1
  cases hpr : BG rows stt p i m st with
  | none => rw [hpr] at g1; simp [M.run] at g1
  | some row =>
   rw [hpr] at g1
   simp only at g1
   split at g1
   ·rename_i hc
    simp only [M.run, Option.some.injEq] at g1
    subst g1
    obtain ⟨b, k, us, e1, _, _, _, hloc⟩ := HE g3 h0 (g5.claims _ _ hp) hpr (Nat.lt_succ_self 0) hc.2
    obtain ⟨r1', r2', r3'⟩ := Ho hpr
    obtain ⟨ho, hfx⟩ := g3.mem h0
    have hlt : off < row.length := by omega
    have hgc : AX rows p i off = some row[off] := by rw [DR r1']; simp [hlt]
    obtain ⟨b', k', cur, e, u0, S1, S2, l1, l2, l3, l4, l5, l6, l7, l8⟩ := C7.lens p ho hgc
    obtain ⟨rfl, rfl⟩ := AM.unique p l1 hloc
    have hSb : Sf1 id b' := l6.right l7
    obtain ⟨w2, m1, m2, m3, m4, m5, m6, S', m7, m8⟩ := GB (P := P) ts (k := k') (j := 0) ho r1' (by omega) (fun _ => hloc) g2 (fun x hx hx' => g3.xd id x (.inr hx) hx') (fun x hx => g3.nb id x hx) (fun x hx => g3.xb x (.inr hx))
    obtain ⟨Sf2, n1, n2⟩ := g3.turn (w' := w2) (ρ' := ρ) (rows' := Cl rows p i off ts) (stt' := stt + 1) (fx' := fx) h0 (fun x hx hX hS => m3 x (fun e => hS (e ▸ hSb))) (by omega) m4 m5 m6 (fun _ _ => rfl) m7 (fun x hx => by
      rcases m8 x hx with h | h
      ·exact .inr (.inr h)
      ·exact .inr (.inl (.inr h))) (fun hf => ⟨(hfx hf).1, by rw [Dc]; exact (hfx hf).2⟩)
     (fun hk hB v u hh => DQ h0 (Dc ..) (fun i row' hr => Hq ts i row' hr) (Nat.lt_succ_self _) (fun _ h => h) hB hk hh)
    have hsz : (a.eval z).cells.size = 1 := by
     have := AY.length g2
     rw [← hc.1, ← this]; simp
    refine ⟨w2, Sf2, Gj h hb e1 hsz m1, n1, by rw [AQ, g5.size], fun v u hh => n2 v u (g5.claims v u hh), ?_⟩
    have hp2 := n2 _ _ (g5.claims _ _ hp)
    match ts, hc with
    | [t1], hc =>
     simp only [AY] at g2
     obtain ⟨u, us', T1, T2, hus, hu1, hu2, hu3, hsp⟩ := g2
     rw [hu3.1] at hus
     match t1, hu2 with
     | .v _, _ => simp only [Mc, A0]
     | .hole, _ => simp only [Mc, A0]
     | .sl false _, _ => simp only [Mc, A0]
     | .sl true rs, hu2 =>
      obtain ⟨q1, cap1, hq1, hos⟩ := Bf.1 hu2
      have hz : a.eval z = u := by
       have hv' := hv
       simp only [A0] at hv'
       obtain ⟨_, ⟨q0, c0, e0, _⟩, _⟩ := hv'
       rw [e0] at hus ⊢
       simpa [Value.cells] using hus
      have hcap : rs.length ≤ cap1 := by
       rcases hos with ⟨_, _, hh, _⟩ | ⟨_, _, _, _, _, _, _, hh, _⟩
       ·rw [hh]; exact Nat.zero_le _
       ·exact hh.1
      rw [hus] at m1
      simp only [storeCells, B6, Nat.add_zero] at m1
      rw [Sem.run_bind, Iv (P := P) l2 l3 hu1] at m1
      simp only [Result.andThen_ok] at m1
      have hw2 : w2 = w.setCell ⟨b', k', none⟩ u := by
       have : (pure () : Sem Unit).run P (w.setCell ⟨b', k', none⟩ u) = .ok () w2 := m1
       simp at this
       exact this.symm
      have hcell : w2.cell? ⟨b', k', none⟩ = some u := by
       rw [hw2, (Fq.set l2).cell _]
       simp [(Array.getElem?_eq_some_iff.1 l3).1]
      have hput := (AM.put p (t' := .sl true rs) (w' := w2) ho hgc hloc (fun x o' hne => by
       rw [hw2]
       by_cases e : x = b'
       ·subst e
        rw [(Fq.set l2).cell _, l2.cell _, Array.getElem?_setIfInBounds_ne (fun e => hne ⟨rfl, e.symm⟩)]
       ·exact BW (GQ e) o')).1
      simp only [A0] at hp2
      rw [hz]
      simp only [Mc, A0]
      refine ⟨hp2.1, ⟨q1, cap1, hq1, hcap⟩, fun rows' stt' fx' hg => ?_⟩
      rw [A5 (g5.claims _ _ hp |> fun hh => by simp only [A0] at hh; exact hh.1)] at hg
      simp only [BO.mem.injEq] at hg
      obtain ⟨rfl, rfl, rfl⟩ := hg
      exact ⟨Nat.le_refl _, fun _ => ⟨Nk (show AX (AO rows p i off (.sl true rs)) p i off = some (.sl true rs) from Dd hgc), fun rs' _ _ => ⟨b', k', hput, hcell⟩⟩⟩
    | [], hc => simp at hc
    | _ :: _ :: _, hc => simp at hc
   ·simp [M.run] at g1
end
end TT
namespace TT
open Go
section
variable {P : Program} {c : Gc} {w w' : World} {B B' B2 : Nat → Prop} {ρ ρ' : Id → CD} {Sf : Id → Nat → Prop} {X : Nat → Prop} {r r' r0 : R} {a : Act} {o : Oper} {BJ : Array Oper} {Q : Exit → Act → World → Prop}
theorem T0 {s : List V} (hs : Bw w B ρ r s a) {g : Option (Nat × Bool)} (hg : agG BJ g o.guard = true) {b : Bool} (h : CI s g = some b) : Region.wanted o (yielded BJ a.tmps) = b := by
 unfold Region.wanted
 cases g with
 | none =>
  cases ho : o.guard with
  | none => simp only [CI, Option.some.injEq] at h; exact h
  | some q => rw [ho] at hg; simp [agG] at hg
 | some q =>
  obtain ⟨t, want⟩ := q
  cases ho : o.guard with
  | none => rw [ho] at hg; simp [agG] at hg
  | some q' =>
   obtain ⟨j, want'⟩ := q'
   rw [ho] at hg
   simp only [agG, Bool.and_eq_true, beq_iff_eq] at hg
   obtain ⟨rfl, hg⟩ := hg
   cases hd : (BJ[j]?).bind (·.dst) with
   | none => rw [hd] at hg; cases hg
   | some t' =>
    rw [hd] at hg
    have : t = t' := by simpa using hg
    subst this
    have hy : yielded BJ a.tmps j = (match a.tmps.getD t undef with | .bool b => some b | _ => none) := by
     unfold yielded
     rw [hd, Option.bind_some]
     cases hh : a.tmps[t]? with
     | none => simp [Array.getD, Array.getElem?_eq_none_iff.1 hh, undef]; have := Array.getElem?_eq_none_iff.1 hh; simp [Nat.not_lt.2 this]
     | some u => simp [Array.getD_eq_getD_getElem?, hh]; cases u <;> rfl
    have hv := hs t
    simp only [CI] at h
    simp only [hy]
    split at h
    ·rename_i b' he
     rw [he] at hv
     rw [(Aq hv).1]
     simp only [Option.some.injEq] at h
     rw [← h]
     cases b' <;> cases want <;> rfl
    ·rename_i he
     rw [he] at hv
     simp only [A0] at hv
     obtain ⟨us, e1, e2⟩ := hv
     rw [e1]
     simp only [Option.some.injEq] at h
     rw [← h]
     rfl
    ·cases h
theorem Co {call : AC} (hS : By c.G P call) {i : Nat} {e : Da} (ho : BJ[i]? = some o) (hag : Sy P BJ e o = true) {draw : Bool} {st st' : St} (h : B9 call draw e st = some st') (hsim : Cu c st a w) {K : Act → World → Prop} (hK : ∀ a' w', Cu c st' a' w' → K a' w') :
  wpOp P BJ Q i K a w := by
 obtain ⟨B, ρ, Sf, hI, hs, hz, hl, hd⟩ := hsim
 simp only [Sy, Bool.and_eq_true, beq_iff_eq] at hag
 obtain ⟨⟨h1, h2⟩, h3⟩ := hag
 unfold B9 at h
 obtain ⟨b, hb, h⟩ := Option.bind_eq_some_iff.1 h
 have hw := T0 (o := o) hs h2 hb
 unfold wpOp
 rw [ho]
 simp only [hw]
 cases b with
 | false =>
  simp only [Bool.false_eq_true, if_false, Option.some.injEq] at h ⊢
  subst h
  refine hK _ _ ?_
  rw [← h1]
  have := Cu.fin (d := e.d) (v := .tup []) (u := undef) hs hz hl hd hI rfl (fun _ _ h => h) (by simp only [A0]; exact ⟨#[], rfl, by simp [A4]⟩)
  exact this
 | true =>
  simp only [if_true] at h ⊢
  obtain ⟨out, h4, h5⟩ := Option.map_eq_some_iff.1 h
  subst h5
  have hrun : (AL st.s (e.d.getD 0) e.o).run call (e.d.getD 0) st.r = some out := by
   cases draw with
   | true => exact FM (by simpa using h4)
   | false => simpa using h4
  refine .inl ?_
  have hdo := Sz hS h3 hrun hI hs
  unfold Oper.wp
  rw [h1] at hK
  rcases hdo with ⟨u, w', hy, B', ρ', Sf', g1, g2, g3, g4⟩ | ⟨w', hy, B', ρ', Sf', g1, g2, g3, g4⟩ | ⟨f, us, hy, hc⟩
  ·unfold E7 at hy
   rw [hy, Oper.upon_value]
   exact hK _ _ (Cu.fin hs hz hl hd g1 g2 g3 g4)
  ·unfold IL at hy
   rw [hy, Oper.upon_skip]
   exact hK _ _ (Cu.fin hs hz hl hd g1 g2 g3 g4)
  ·rw [hy, Oper.upon_enter]
   refine Calls.mono hc fun ee w' hp => ?_
   cases ee with
   | returned v =>
    obtain ⟨B', ρ', Sf', g1, g2, g3, g4⟩ := hp
    exact hK _ _ (Cu.fin hs hz hl hd g1 g2 g3 g4)
   | panicked ch => exact hp.elim
   | outgrown => exact hp.elim
def agV (P : Program) (e : Da) (o : Oper) : Bool := match e.o, e.d, e.g, o.dst, o.guard, o.op with
 | .vst n (.s k) y, some k', none, none, none, .store t x' y' => k == k' && stB P t n && CV (.s k) x' && CV y y'
 | .stk x (.s k), some k', none, none, none, .store t x' y' => k == k' && stB P t 1 && CV x x' && CV (.s k) y'
 | _, _, _, _, _, _ => false
theorem T3 {l : Array Value} {k : Nat} : l.setIfInBounds k (l.getD k undef) = l := by
 apply Array.ext_getElem?
 intro i
 rw [Array.getElem?_setIfInBounds]
 split
 ·rename_i e
  subst e
  split
  ·rename_i h; simp [Array.getD, h]
  ·rename_i h; exact (Array.getElem?_eq_none_iff.2 (Nat.le_of_not_lt h)).symm
 ·rfl
theorem O8 {a : Act} {k : Nat} : a.put (some k) (a.tmps.getD k undef) = a := by
 show ({ a with tmps := a.tmps.setIfInBounds k (a.tmps.getD k undef) } : Act) = a
 rw [T3]
theorem JT {call : AC} {i : Nat} {e : Da} (ho : BJ[i]? = some o) (hag : agV P e o = true) {draw : Bool} {st st' : St} (h : B9 call draw e st = some st') (hsim : Cu c st a w) {K : Act → World → Prop} (hK : ∀ a' w', Cu c st' a' w' → K a' w') :
  wpOp P BJ Q i K a w := by
 obtain ⟨B, ρ, Sf, hI, hs, hz, hl, hd⟩ := hsim
 unfold agV at hag
 split at hag
 ·rename_i n k y k' t x' y' e1 e2 e3 e4 e5 e6
  simp only [Bool.and_eq_true, beq_iff_eq] at hag
  obtain ⟨⟨⟨rfl, h1⟩, h2⟩, h3⟩ := hag
  have hx := hs.eval h2
  have hy := hs.eval h3
  unfold B9 at h
  rw [e1, e2, e3] at h
  simp only [CI, Option.bind_some, if_true] at h
  obtain ⟨out, h4', h5⟩ := Option.map_eq_some_iff.1 h
  subst h5
  have h4 : (AL st.s ((some k).getD 0) (.vst n (.s k) y)).run call ((some k).getD 0) st.r = some out := by
   cases draw with
   | true => exact FM (by simpa using h4')
   | false => simpa using h4'
  have hw : Region.wanted o (yielded BJ a.tmps) = true := by unfold Region.wanted; rw [e5]
  unfold wpOp
  rw [ho]
  simp only [hw]
  simp only [AL] at h4
  split at h4
  ·rename_i id cs g1 g2
   rw [g2] at hy
   split at h4
   ·rename_i hc
    simp only [M.run] at h4
    split at h4
    ·rename_i row stt fx hg
     split at h4
     ·rename_i hrow
      simp only [M.run, Option.some.injEq] at h4
      subst h4
      obtain ⟨w', Sf', k1, k2, k3, k4⟩ := Y7 hI e6 h1 hy g1 hx hc.1 hc.2 hg hrow
      refine .inl ?_
      unfold Oper.wp
      unfold IL at k1
      rw [k1, Oper.upon_skip, e4]
      have := Cu.fin (d := some k) (v := .vb id 0 (stt + 1) cs) (u := a.tmps.getD k undef) hs hz hl hd k2 (by rw [AQ]) k3 (by
       have hev : a.eval x' = a.tmps.getD k undef := by
        cases x' <;> simp only [CV, beq_iff_eq] at h2 <;> first | (subst h2; rfl) | cases h2
       rw [← hev]
       exact k4)
      rw [O8] at this
      exact hK _ _ this
     ·simp [M.run] at h4
    ·simp [M.run] at h4
   ·simp [M.run] at h4
  ·simp [M.run] at h4
 ·rename_i x k k' t x' y' e1 e2 e3 e4 e5 e6
  simp only [Bool.and_eq_true, beq_iff_eq] at hag
  obtain ⟨⟨⟨rfl, h1⟩, h2⟩, h3⟩ := hag
  have hx := hs.eval h2
  have hy := hs.eval h3
  unfold B9 at h
  rw [e1, e2, e3] at h
  simp only [CI, Option.bind_some, if_true] at h
  obtain ⟨out, h4', h5⟩ := Option.map_eq_some_iff.1 h
  subst h5
  have h4 : (AL st.s ((some k).getD 0) (.stk x (.s k))).run call ((some k).getD 0) st.r = some out := by
   cases draw with
   | true => exact FM (by simpa using h4')
   | false => simpa using h4'
  have hw : Region.wanted o (yielded BJ a.tmps) = true := by unfold Region.wanted; rw [e5]
  unfold wpOp
  rw [ho]
  simp only [hw]
  simp only [AL] at h4
  split at h4
  ·rename_i id p i off m st0 id2 n2 g1 g2
   rw [g1] at hx
   rw [g2] at hy
   obtain ⟨w', Sf', k1, k2, k3, k4, k5⟩ := YG hI e6 h1 hy hx h4
   refine .inl ?_
   unfold Oper.wp
   unfold IL at k1
   rw [k1, Oper.upon_skip, e4]
   have := Cu.fin (d := some k) (v := out.1) (u := a.tmps.getD k undef) hs hz hl hd k2 k3 k4 (by
    have hev : a.eval y' = a.tmps.getD k undef := by
     cases y' <;> simp only [CV, beq_iff_eq] at h3 <;> first | (subst h3; rfl) | cases h3
    rw [← hev]
    exact k5)
   rw [O8] at this
   exact hK _ _ this
  ·simp [M.run] at h4
 ·cases hag
theorem IV {call : AC} (hS : By c.G P call) : ∀ (es : List Da) (k : Nat) {st st' : St} {a : Act} {w : World}, (∀ (j : Nat) e, es[j]? = some e → ∃ o, BJ[k + j]? = some o ∧ (Sy P BJ e o || agV P e o) = true) →
  BZ call false es st = some st' → Cu c st a w → (∀ a' w', Cu c st' a' w' → Q .normal a' w') → wpOps P BJ Q (List.range' k es.length) a w
 | [], k, st, st', a, w, _, h, hsim, hK => by
  simp only [BZ, Option.some.injEq] at h
  subst h
  exact hK _ _ hsim
 | e :: es, k, st, st', a, w, hag, h, hsim, hK => by
  simp only [BZ] at h
  obtain ⟨st1, h1, h2⟩ := Option.bind_eq_some_iff.1 h
  obtain ⟨o, ho, hago⟩ := hag 0 e rfl
  rw [List.length_cons, List.range'_succ, wpOps_cons]
  have rest : ∀ a' w', Cu c st1 a' w' → wpOps P BJ Q (List.range' (k + 1) es.length) a' w' := fun a' w' hs' => IV hS es (k + 1) (fun j e' hj => by
   obtain ⟨o', e1, e2⟩ := hag (j + 1) e' (by simpa using hj)
   exact ⟨o', by rw [show k + 1 + j = k + (j + 1) by omega]; exact e1, e2⟩) h2 hs' hK
  rw [Bool.or_eq_true] at hago
  rcases hago with hago | hago
  ·exact Co hS (by simpa using ho) hago h1 hsim rest
  ·exact JT (by simpa using ho) hago h1 hsim rest
end
def BM : An → List Nat
 | .s t => [t]
 | _ => []
def JU : List An → List Nat
 | [] => []
 | x :: xs => BM x ++ JU xs
def Ve : Option An → List Nat
 | none => []
 | some x => BM x
def Mo : List (Nat × Nat × An) → List Nat
 | [] => []
 | x :: xs => BM x.2.2 ++ Mo xs
def looks : O → List Nat
 | .mv x => BM x
 | .pick c a b => BM c ++ BM a ++ BM b
 | .alloc _ => []
 | .box x => BM x
 | .vbox x => BM x
 | .vst _ x y => BM x ++ BM y
 | .build _ ps => Mo ps
 | .bsl _ ps => JU ps
 | .bslz _ ps => JU ps
 | .ld _ _ x => BM x
 | .st _ x y => BM x ++ BM y
 | .stk x y => BM x ++ BM y
 | .ldr x => BM x
 | .appn _ _ _ s x => BM s ++ BM x
 | .nilc x => BM x
 | .bin _ x y => BM x ++ BM y
 | .eqs _ _ x y => BM x ++ BM y
 | .beq _ x y => BM x ++ BM y
 | .eqn _ x => BM x
 | .eqi _ x => BM x
 | .un _ x => BM x
 | .conv _ x => BM x
 | .mks _ _ x => BM x
 | .slc _ x lo hi => BM x ++ Ve lo ++ Ve hi
 | .vws x lo hi => BM x ++ Ve lo ++ Ve hi
 | .cut x y => BM x ++ BM y
 | .cvo x => BM x
 | .aps _ s x => BM s ++ BM x
 | .fa _ x => BM x
 | .fld _ _ _ x => BM x
 | .ia _ x i => BM x ++ BM i
 | .ix x i => BM x ++ BM i
 | .ixa _ _ _ x i => BM x ++ BM i
 | .call _ _ _ as => JU as
 | .callv x _ _ as => BM x ++ JU as
 | .app _ _ s x => BM s ++ BM x
 | .len _ x => BM x
 | .mm _ x y => BM x ++ BM y
 | .ext x _ => BM x
 | .mkf _ caps => JU caps
def De (e : Da) : List Nat := looks e.o ++ (match e.g with | some (t, _) => [t] | none => [])
theorem A3 {s s' : List V} {x : An} (h : ∀ t ∈ BM x, s'.getD t .dead = s.getD t .dead) : A1 s' x = A1 s x := by
 cases x with
 | s t => exact h t (by simp [BM])
 | _ => rfl
theorem Cy {s s' : List V} : ∀ {xs : List An}, (∀ t ∈ JU xs, s'.getD t .dead = s.getD t .dead) → xs.map (A1 s') = xs.map (A1 s)
 | [], h => rfl
 | x :: xs, h => by
  simp only [JU, List.mem_append] at h
  simp only [List.map_cons]
  rw [A3 fun t ht => h t (.inl ht), Cy fun t ht => h t (.inr ht)]
theorem M9 {s s' : List V} : ∀ {xs : List (Nat × Nat × An)} {z : List V}, (∀ t ∈ Mo xs, s'.getD t .dead = s.getD t .dead) → Qm s' z xs = Qm s z xs
 | [], z, h => rfl
 | x :: xs, z, h => by
  simp only [Mo, List.mem_append] at h
  simp only [Qm]
  rw [A3 fun t ht => h t (.inl ht)]
  split
  ·exact M9 fun t ht => h t (.inr ht)
  ·rfl
theorem HI {s s' : List V} {d : Nat} {x : O} (h : ∀ t ∈ looks x, s'.getD t .dead = s.getD t .dead) : AL s' d x = AL s d x := by
 cases x <;> simp only [looks, List.mem_append] at h
 case mv x => simp only [AL]; rw [A3 h]
 case pick p q t => simp only [AL]; rw [A3 fun t ht => h t (.inl (.inl ht)), A3 fun t ht => h t (.inl (.inr ht)), A3 fun t ht => h t (.inr ht)]
 case alloc => simp only [AL]
 case box x => simp only [AL]; rw [A3 h]
 case vbox x => simp only [AL]; rw [A3 h]
 case vst n x y => simp only [AL]; rw [A3 fun t ht => h t (.inl ht), A3 fun t ht => h t (.inr ht)]
 case build z ps => simp only [AL]; rw [M9 h]
 case bsl sz ps =>
  simp only [AL]
  have := Cy h
  have h2 : ps.map (fun q => cellsOf (A1 s' q)) = ps.map (fun q => cellsOf (A1 s q)) := by
   have := congrArg (List.map cellsOf) this
   simpa using this
  rw [h2]
 case bslz sz ps =>
  simp only [AL]
  have := Cy h
  have h2 : ps.map (fun q => cellsOf (A1 s' q)) = ps.map (fun q => cellsOf (A1 s q)) := by
   have := congrArg (List.map cellsOf) this
   simpa using this
  rw [h2]
 case ld n ag x => simp only [AL]; rw [A3 h]
 case st n x y => simp only [AL]; rw [A3 fun t ht => h t (.inl ht), A3 fun t ht => h t (.inr ht)]
 case stk x y => simp only [AL]; rw [A3 fun t ht => h t (.inl ht), A3 fun t ht => h t (.inr ht)]
 case ldr x => simp only [AL]; rw [A3 h]
 case appn q sz b x y => simp only [AL]; rw [A3 fun t ht => h t (.inl ht), A3 fun t ht => h t (.inr ht)]
 case nilc x => simp only [AL]; rw [A3 h]
 case bin op x y => simp only [AL]; rw [A3 fun t ht => h t (.inl ht), A3 fun t ht => h t (.inr ht)]
 case eqs op ks x y => simp only [AL]; rw [A3 fun t ht => h t (.inl ht), A3 fun t ht => h t (.inr ht)]
 case beq op x y => simp only [AL]; rw [A3 fun t ht => h t (.inl ht), A3 fun t ht => h t (.inr ht)]
 case eqn ne x => simp only [AL]; rw [A3 h]
 case eqi ne x => simp only [AL]; rw [A3 h]
 case un op x => simp only [AL]; rw [A3 h]
 case conv cv x => simp only [AL]; rw [A3 h]
 case mks z b x => simp only [AL]; rw [A3 h]
 case slc sz x lo hi =>
  have e1 := A3 (x := x) fun t ht => h t (.inl (.inl ht))
  have e2 : ∀ y, lo = some y → A1 s' y = A1 s y := fun y hy => A3 fun t ht => h t (.inl (.inr (by rw [hy]; exact ht)))
  have e3 : ∀ y, hi = some y → A1 s' y = A1 s y := fun y hy => A3 fun t ht => h t (.inr (by rw [hy]; exact ht))
  cases lo <;> cases hi <;> simp only [AL, e1] <;> first | rfl | (simp only [e2 _ rfl, e3 _ rfl]) | (simp only [e2 _ rfl]) | (simp only [e3 _ rfl])
 case vws x lo hi =>
  have e1 := A3 (x := x) fun t ht => h t (.inl (.inl ht))
  have e2 : ∀ y, lo = some y → A1 s' y = A1 s y := fun y hy => A3 fun t ht => h t (.inl (.inr (by rw [hy]; exact ht)))
  have e3 : ∀ y, hi = some y → A1 s' y = A1 s y := fun y hy => A3 fun t ht => h t (.inr (by rw [hy]; exact ht))
  cases lo <;> cases hi <;> simp only [AL, e1] <;> first | rfl | (simp only [e2 _ rfl, e3 _ rfl]) | (simp only [e2 _ rfl]) | (simp only [e3 _ rfl])
 case cut x y => simp only [AL]; rw [A3 fun t ht => h t (.inl ht), A3 fun t ht => h t (.inr ht)]
 case cvo x => simp only [AL]; rw [A3 h]
 case aps b x y => simp only [AL]; rw [A3 fun t ht => h t (.inl ht), A3 fun t ht => h t (.inr ht)]
 case fa off x => simp only [AL]; rw [A3 h]
 case fld off n ag x => simp only [AL]; rw [A3 h]
 case ia sz x i => simp only [AL]; rw [A3 fun t ht => h t (.inl ht), A3 fun t ht => h t (.inr ht)]
 case ix x i => simp only [AL]; rw [A3 fun t ht => h t (.inl ht), A3 fun t ht => h t (.inr ht)]
 case ixa sz len ag x i => simp only [AL]; rw [A3 fun t ht => h t (.inl ht), A3 fun t ht => h t (.inr ht)]
 case call f md own as => simp only [AL]; rw [Cy h]
 case callv x md own as => simp only [AL]; rw [A3 fun t ht => h t (.inl ht), Cy fun t ht => h t (.inr ht)]
 case app sz b x y => simp only [AL]; rw [A3 fun t ht => h t (.inl ht), A3 fun t ht => h t (.inr ht)]
 case len str x => simp only [AL]; rw [A3 h]
 case mm mx x y => simp only [AL]; rw [A3 fun t ht => h t (.inl ht), A3 fun t ht => h t (.inr ht)]
 case ext x i => simp only [AL]; rw [A3 h]
 case mkf f caps => simp only [AL]; rw [Cy h]
theorem GD {r : R} {id : Id} {e : BO} {t : Nat} (h : t ≠ id.1) : (AS r id e).getD t [] = r.getD t [] := by rw [EA, if_neg h]
theorem IW {r : R} {d t : Nat} {es : List BO} (hd : d < r.length) : (r.set d es).getD t [] = if t = d then es else r.getD t [] := by
 simp only [List.getD, List.getElem?_set]
 by_cases h : d = t
 ·subst h; simp [hd]
 ·rw [if_neg h, if_neg (fun e => h e.symm)]
theorem Cp {α : Type} {call : AC} {d : Nat} {rd wr : List Nat} : ∀ {m : M α} {r r2 : R} {v : α} {r' : R}, m.runA call d rd wr r = some (v, r') → r2.length = r.length → (∀ t, t ∈ rd ∨ t ∈ wr → r2.getD t [] = r.getD t []) →
  ∃ r2', m.runA call d rd wr r2 = some (v, r2') ∧ r2'.length = r2.length ∧ r'.length = r.length ∧ (∀ t, t ∈ rd ∨ t ∈ wr → r2'.getD t [] = r'.getD t []) ∧ (∀ t, t ∉ wr → r2'.getD t [] = r2.getD t []) ∧ (∀ t, t ∉ wr → r'.getD t [] = r.getD t [])
 | .ret x, r, r2, v, r', h, hl, ha => by
  simp only [M.runA, Option.some.injEq, Prod.mk.injEq] at h ⊢
  obtain ⟨rfl, rfl⟩ := h
  exact ⟨r2, ⟨rfl, rfl⟩, rfl, rfl, ha, fun _ _ => rfl, fun _ _ => rfl⟩
 | .fail, r, r2, v, r', h, hl, ha => by simp [M.runA] at h
 | .get id k, r, r2, v, r', h, hl, ha => by
  simp only [M.runA] at h ⊢
  split at h
  ·rename_i hc
   have hm : id.1 ∈ rd ∨ id.1 ∈ wr := by simpa using hc
   have he : A9 r2 id = A9 r id := by simp only [A9, ha _ hm]
   rw [if_pos hc, he]
   exact Cp h hl ha
  ·cases h
 | .set id e m, r, r2, v, r', h, hl, ha => by
  simp only [M.runA] at h ⊢
  split at h
  ·rename_i hc
   rw [if_pos hc]
   have hm : id.1 ∈ wr := by simpa using hc
   obtain ⟨r2', g1, g2, g3, g4, g5, g6⟩ := Cp (r2 := AS r2 id e) h (by simp only [AQ, hl]) (fun t ht => by
    rw [EA, EA]
    split
    ·rename_i e1; rw [ha t ht]
    ·exact ha t ht)
   refine ⟨r2', g1, by rw [g2, AQ], by rw [g3, AQ], g4, fun t ht => ?_, fun t ht => ?_⟩
   ·rw [g5 t ht, GD (fun e1 : t = id.1 => ht (e1 ▸ hm))]
   ·rw [g6 t ht, GD (fun e1 : t = id.1 => ht (e1 ▸ hm))]
  ·cases h
 | .new es m, r, r2, v, r', h, hl, ha => by
  simp only [M.runA] at h ⊢
  split at h
  ·rename_i hc
   have hc' := hc
   simp only [Bool.and_eq_true, decide_eq_true_eq] at hc
   obtain ⟨h1, h2, h3⟩ := hc
   have hm : d ∈ wr := by simpa using h1
   have h2' : d < r2.length := by omega
   rw [if_pos (by
    simp only [Bool.and_eq_true, decide_eq_true_eq]
    exact ⟨h1, h2', by rw [ha d (.inr hm)]; exact h3⟩)]
   obtain ⟨r2', g1, g2, g3, g4, g5, g6⟩ := Cp (r2 := r2.set d es) h (by simp only [List.length_set, hl]) (fun t ht => by
    rw [IW h2', IW h2]
    split
    ·rfl
    ·exact ha t ht)
   refine ⟨r2', g1, by rw [g2, List.length_set], by rw [g3, List.length_set], g4, fun t ht => ?_, fun t ht => ?_⟩
   ·rw [g5 t ht, IW h2', if_neg (fun e1 : t = d => ht (e1 ▸ hm))]
   ·rw [g6 t ht, IW h2, if_neg (fun e1 : t = d => ht (e1 ▸ hm))]
  ·cases h
 | .call f args k, r, r2, v, r', h, hl, ha => by
  simp only [M.runA] at h ⊢
  obtain ⟨res, h1, h2⟩ := Option.bind_eq_some_iff.1 h
  rw [h1, Option.bind_some]
  exact Cp h2 hl ha
def Mp (a b : List Nat) : Bool := a.all fun x => !b.contains x
theorem JV {a b : List Nat} (h : Mp a b = true) : ∀ x ∈ a, x ∉ b := by
 intro x hx
 simp only [Mp, List.all_eq_true, Bool.not_eq_true'] at h
 have := h x hx
 simpa using this
def T4 (x y : Da) : Bool := match x.o, y.o, x.d, y.d with
 | .ldr _, .appn q _ _ _ _, some dx, some dy => x.rd == [q] && x.wr.isEmpty && x.g.isNone && y.g.isNone && dx != dy && dy != q && !(De y).contains dx && !(De x).contains dy
 | _, _, _, _ => false
def Mq (x y : Da) : Bool :=
 (match x.d with | some d => !(De y).contains d && y.d != some d | none => true) && (match y.d with | some d => !(De x).contains d | none => true) && Mp x.wr (y.rd ++ y.wr) && Mp y.wr x.rd
def JW (x y : Da) : Bool := Mq x y || T4 x y
theorem PO {x y : Da} (h : Mq x y = true) : (∀ d, x.d = some d → d ∉ De y) ∧ (∀ d, x.d = some d → y.d ≠ some d) ∧ (∀ d, y.d = some d → d ∉ De x) ∧ (∀ t ∈ x.wr, t ∉ y.rd ∧ t ∉ y.wr) ∧ (∀ t ∈ y.wr, t ∉ x.rd) := by
 simp only [Mq, Bool.and_eq_true] at h
 obtain ⟨⟨⟨h1, h2⟩, h3⟩, h4⟩ := h
 refine ⟨fun d hd => ?_, fun d hd => ?_, fun d hd => ?_, fun t ht => ?_, JV h4⟩
 ·rw [hd] at h1; simp only [Bool.and_eq_true, Bool.not_eq_true'] at h1; simpa using h1.1
 ·rw [hd] at h1; simp only [Bool.and_eq_true, bne_iff_ne] at h1; exact h1.2
 ·rw [hd] at h2; simpa using h2
 ·have := JV h3 t ht; rw [List.mem_append, not_or] at this; exact this
theorem Fz {st : St} {d : Option Nat} {v : V} {t : Nat} (h : d ≠ some t) : ((st.put d v).s).getD t .dead = st.s.getD t .dead := by
 cases d with
 | none => rfl
 | some d =>
  have : d ≠ t := fun e => h (by rw [e])
  simp only [St.put, List.getD, List.getElem?_set]
  rw [if_neg this]
theorem MA {st : St} {d : Option Nat} {v : V} : (st.put d v).r = st.r := by cases d <;> rfl
theorem Qx {st : St} {d : Option Nat} {v : V} {r : R} : (({ st with r := r } : St).put d v) = { (st.put d v) with r := r } := by cases d <;> rfl
theorem JX {s s' : List V} {g : Option (Nat × Bool)} (h : ∀ t w, g = some (t, w) → s'.getD t .dead = s.getD t .dead) : CI s' g = CI s g := by
 cases g with
 | none => rfl
 | some q => obtain ⟨t, w⟩ := q; simp only [CI]; rw [h t w rfl]
theorem CK {call : AC} {e : Da} {st st' : St} : B9 call true e st = some st' ↔ (∃ v r', CI st.s e.g = some true ∧ (AL st.s (e.d.getD 0) e.o).runA call (e.d.getD 0) e.rd e.wr st.r = some (v, r') ∧ st' = ({ st with r := r' } : St).put e.d v) ∨
  (CI st.s e.g = some false ∧ st' = st.put e.d (.tup [])) := by
 unfold B9
 constructor
 ·intro h
  obtain ⟨b, hb, h⟩ := Option.bind_eq_some_iff.1 h
  cases b with
  | true =>
   simp only [if_true] at h
   obtain ⟨q, h1, h2⟩ := Option.map_eq_some_iff.1 h
   exact .inl ⟨q.1, q.2, hb, h1, h2.symm⟩
  | false =>
   simp only [Bool.false_eq_true, if_false, Option.some.injEq] at h
   exact .inr ⟨hb, h.symm⟩
 ·rintro (⟨v, r', hb, h1, h2⟩ | ⟨hb, h2⟩)
  ·rw [hb, Option.bind_some]
   simp only [if_true, h1, Option.map_some, h2]
  ·rw [hb, Option.bind_some]
   simp [h2]
theorem Zr {r r' : R} (hl : r.length = r'.length) (h : ∀ t, r.getD t [] = r'.getD t []) : r = r' := by
 apply List.ext_getElem hl
 intro i h1 h2
 have := h i
 simpa [List.getD, h1, h2] using this
theorem Gn {s : List V} {d1 d2 : Option Nat} {v1 v2 : V} {r : R} (h : ∀ d, d1 = some d → d2 ≠ some d) : ((⟨s, r⟩ : St).put d1 v1).put d2 v2 = ((⟨s, r⟩ : St).put d2 v2).put d1 v1 := by
 cases d1 with
 | none => rfl
 | some d => cases d2 with
  | none => rfl
  | some d' =>
   have : d ≠ d' := fun e => h d rfl (by rw [e])
   simp only [St.put, St.mk.injEq, and_true]
   exact List.set_comm _ _ this
theorem PP {call : AC} {x y : Da} (hc : Mq x y = true) {st s1 s2 : St} (h1 : B9 call true x st = some s1) (h2 : B9 call true y s1 = some s2) : ∃ s1', B9 call true y st = some s1' ∧ B9 call true x s1' = some s2 := by
 obtain ⟨c1, c2, c3, c4, c5⟩ := PO hc
 have hgx : ∀ {st : St} {v : V}, CI ((st.put y.d v).s) x.g = CI st.s x.g := fun {st v} => JX fun t w e => Fz (fun e' => c3 t e' (by simp [De, e]))
 have hgy : ∀ {st : St} {v : V}, CI ((st.put x.d v).s) y.g = CI st.s y.g := fun {st v} => JX fun t w e => Fz (fun e' => c1 t e' (by simp [De, e]))
 have hsx : ∀ {st : St} {v : V} {d : Nat}, AL ((st.put y.d v).s) d x.o = AL st.s d x.o := fun {st v d} => HI fun t ht => Fz (fun e' => c3 t e' (by simp [De, ht]))
 have hsy : ∀ {st : St} {v : V} {d : Nat}, AL ((st.put x.d v).s) d y.o = AL st.s d y.o := fun {st v d} => HI fun t ht => Fz (fun e' => c1 t e' (by simp [De, ht]))
 obtain ⟨s, r⟩ := st
 rcases CK.1 h1 with ⟨v1, r1, g1, m1, e1⟩ | ⟨g1, e1⟩ <;> rcases CK.1 h2 with ⟨v2, r2, g2, m2, e2⟩ | ⟨g2, e2⟩
 ·subst e1
  rw [hgy] at g2
  rw [hsy, MA] at m2
  obtain ⟨ry, n1, n2, n3, n4, n5, n6⟩ := Cp (r2 := r) m2 (by
   obtain ⟨_, _, _, f3, _⟩ := Cp (r2 := r) m1 rfl (fun _ _ => rfl)
   exact f3.symm) (fun t ht => by
   obtain ⟨_, _, _, _, _, _, f6⟩ := Cp (r2 := r) m1 rfl (fun _ _ => rfl)
   refine (f6 t fun hx => ?_).symm
   have := c4 t hx
   rcases ht with ht | ht
   ·exact this.1 ht
   ·exact this.2 ht)
  obtain ⟨rx, k1, k2, k3, k4, k5, k6⟩ := Cp (r2 := ry) m1 n2 (fun t ht => n5 t fun hy => by
   rcases ht with ht | ht
   ·exact c5 t hy ht
   ·exact (c4 t ht).2 hy)
  have hr : rx = r2 := by
   refine Zr (by rw [k2, n2, n3, k3]) fun t => ?_
   by_cases hx : t ∈ x.wr
   ·rw [k4 t (.inr hx), n6 t fun hy => (c4 t hx).2 hy]
   ·rw [k5 t hx]
    by_cases hy : t ∈ y.wr
    ·exact n4 t (.inr hy)
    ·rw [n5 t hy, n6 t hy, k6 t hx]
  subst hr
  refine ⟨({ s := s, r := ry } : St).put y.d v2, CK.2 (.inl ⟨v2, ry, g2, n1, rfl⟩), CK.2 (.inl ⟨v1, rx, by rw [hgx]; exact g1, by rw [hsx, MA]; exact k1, ?_⟩)⟩
  rw [e2, Qx, Qx, Qx, Qx]
  have := Gn (s := s) (v1 := v1) (v2 := v2) (r := rx) c2
  cases hd1 : x.d <;> cases hd2 : y.d <;> simp only [hd1, hd2, St.put] at this ⊢ <;> exact this
 ·subst e1
  rw [hgy] at g2
  refine ⟨({ s := s, r := r } : St).put y.d (.tup []), CK.2 (.inr ⟨g2, rfl⟩), CK.2 (.inl ⟨v1, r1, by rw [hgx]; exact g1, by rw [hsx, MA]; exact m1, ?_⟩)⟩
  rw [e2]
  have := Gn (s := s) (v1 := v1) (v2 := .tup []) (r := r1) c2
  cases hd1 : x.d <;> cases hd2 : y.d <;> simp only [hd1, hd2, St.put] at this ⊢ <;> exact this
 ·subst e1
  rw [hgy] at g2
  rw [hsy, MA] at m2
  refine ⟨({ s := s, r := r2 } : St).put y.d v2, CK.2 (.inl ⟨v2, r2, g2, m2, rfl⟩), CK.2 (.inr ⟨by rw [hgx]; exact g1, ?_⟩)⟩
  rw [e2]
  have := Gn (s := s) (v1 := .tup []) (v2 := v2) (r := r2) c2
  cases hd1 : x.d <;> cases hd2 : y.d <;> simp only [hd1, hd2, St.put] at this ⊢ <;> exact this
 ·subst e1
  rw [hgy] at g2
  refine ⟨({ s := s, r := r } : St).put y.d (.tup []), CK.2 (.inr ⟨g2, rfl⟩), CK.2 (.inr ⟨by rw [hgx]; exact g1, ?_⟩)⟩
  rw [e2]
  exact Gn c2
def O9 (q : Nat) (r r2 : R) : Prop := ∀ id : Id, id.1 = q → ∀ rows stt fx, A9 r id = .mem rows stt fx → ∃ rows2, A9 r2 id = .mem rows2 stt fx ∧ rows2.length = rows.length ∧
 ∀ (i c : Nat) row t, rows[i]? = some row → row[c]? = some t → ∃ row2 t2, rows2[i]? = some row2 ∧ row2[c]? = some t2 ∧ (t2 = t ∨ ∃ a b : Rows, t = .sl true a ∧ t2 = .sl true b ∧ a.length = b.length)
theorem O9.refl (q : Nat) (r : R) : O9 q r r := fun id _ rows stt fx h => ⟨rows, h, rfl, fun i c row t h1 h2 => ⟨row, t, h1, h2, .inl rfl⟩⟩
theorem PQ {r : R} {id id' : Id} {e : BO} (h : id.1 ≠ id'.1) : A9 (AS r id e) id' = A9 r id' := by
 simp only [A9, GD (fun e1 : id'.1 = id.1 => h e1.symm)]
theorem PR {id : Id} {p : AE} {i c st : Nat} {t t2 : T} (h : t2 = t ∨ ∃ a b : Rows, t = .sl true a ∧ t2 = .sl true b ∧ a.length = b.length) : EZ id p i c st t2 = EZ id p i c st t := by
 rcases h with h | ⟨a, b, rfl, rfl, h⟩
 ·rw [h]
 ·simp only [EZ, h]
theorem MB {call : AC} {s : List V} {d q : Nat} {x : An} {r r2 r' : R} {v : V} (h : (AL s d (.ldr x)).runA call d [q] [] r = some (v, r')) (hk : O9 q r r2) : r' = r ∧ (AL s d (.ldr x)).runA call d [q] [] r2 = some (v, r2) := by
 simp only [AL] at h ⊢
 split at h
 case h_2 => simp [M.runA] at h
 rename_i id p i off m st he
 split at h
 case isFalse => simp [M.runA] at h
 rename_i hp
 subst hp
 rw [if_pos rfl]
 simp only [M.runA] at h ⊢
 split at h
 case isFalse => cases h
 rename_i hc
 rw [if_pos hc]
 have hid : id.1 = q := by simpa using hc
 cases hg : A9 r id with
 | dead => rw [hg] at h; simp [M.runA] at h
 | mem rows stt fx =>
  obtain ⟨rows2, g1, g2, g3⟩ := hk id hid rows stt fx hg
  rw [hg] at h
  rw [g1]
  simp only [BG] at h ⊢
  rw [g2]
  by_cases hl : rows.length = m
  ·rw [if_pos hl] at h ⊢
   cases hr : rows[i]? with
   | none => rw [hr] at h; simp [M.runA] at h
   | some row =>
    rw [hr] at h
    simp only at h
    cases ht : row[off]? with
    | none => rw [ht] at h; simp [M.runA] at h
    | some t =>
     rw [ht] at h
     simp only [M.runA, Option.some.injEq, Prod.mk.injEq] at h
     obtain ⟨row2, t2, k1, k2, k3⟩ := g3 i off row t hr ht
     refine ⟨h.2.symm, ?_⟩
     rw [k1]
     simp only [k2, M.runA, PR k3, h.1]
  ·rw [if_neg hl] at h; simp [M.runA] at h
theorem T5 {rows : Rows} {i0 c0 : Nat} {p : AE} {i c : Nat} {t : T} : (AO rows ((i0, c0) :: p) i c t).length = rows.length ∧ ∀ (j k : Nat) row u, rows[j]? = some row → row[k]? = some u → ∃ row2 u2, (AO rows ((i0, c0) :: p) i c t)[j]? = some row2 ∧ row2[k]? = some u2 ∧ (u2 = u ∨ ∃ a b : Rows, u = .sl true a ∧ u2 = .sl true b ∧ a.length = b.length) := by
 refine ⟨AJ .., fun j k row u hj hk => ?_⟩
 simp only [AO]
 cases hrc : rows[i0]?.bind (·[c0]?) with
 | none => exact ⟨row, u, hj, hk, .inl rfl⟩
 | some t0 =>
  match t0, hrc with
  | .v _, _ => exact ⟨row, u, hj, hk, .inl rfl⟩
  | .hole, _ => exact ⟨row, u, hj, hk, .inl rfl⟩
  | .sl false _, _ => exact ⟨row, u, hj, hk, .inl rfl⟩
  | .sl true rows1, hrc =>
   obtain ⟨row0, h1, h2⟩ := Option.bind_eq_some_iff.1 hrc
   simp only [CC, h1]
   by_cases e : i0 = j
   ·subst e
    rw [h1] at hj
    cases hj
    have hlt := (List.getElem?_eq_some_iff.1 h1).1
    refine ⟨row.set c0 (.sl true (AO rows1 p i c t)), ?_⟩
    by_cases e2 : c0 = k
    ·subst e2
     rw [h2] at hk
     cases hk
     have hlt2 := (List.getElem?_eq_some_iff.1 h2).1
     exact ⟨.sl true (AO rows1 p i c t), by simp [hlt], by simp [hlt2], .inr ⟨_, _, rfl, rfl, (AJ ..).symm⟩⟩
    ·exact ⟨u, by simp [hlt], by rw [List.getElem?_set_ne e2]; exact hk, .inl rfl⟩
   ·exact ⟨row, u, by rw [List.getElem?_set_ne e]; exact hj, hk, .inl rfl⟩
theorem PS {call : AC} {s : List V} {d q sz byt : Nat} {a x : An} {rd wr : List Nat} {r r' : R} {v : V} (hd : d ≠ q) (h : (AL s d (.appn q sz byt a x)).runA call d rd wr r = some (v, r')) : O9 q r r' := by
 simp only [AL] at h
 split at h
 case h_2 => simp [M.runA] at h
 rename_i id p i c n st id2 n2 h1 h2
 split at h
 case isFalse => simp [M.runA] at h
 rename_i hc
 obtain ⟨hp, hq, hq2⟩ := hc
 simp only [Ce, take, M.runA] at h
 split at h
 case isFalse => cases h
 cases hg2 : A9 r id2 with
 | dead => rw [hg2] at h; simp [M.runA] at h
 | mem rows2 stt2 fx2 =>
  rw [hg2] at h
  simp only at h
  split at h
  case isFalse => simp [M.runA] at h
  simp only [M.runA] at h
  split at h
  case isFalse => cases h
  split at h
  case isFalse => simp [M.runA] at h
  simp only [M.runA] at h
  split at h
  case isFalse => cases h
  have e1 : ∀ id' : Id, id'.1 = q → A9 (AS r id2 .dead) id' = A9 r id' := fun id' hid' => PQ (by rw [hid']; exact hq2)
  rw [e1 id hq] at h
  cases hg : A9 r id with
  | dead => rw [hg] at h; simp [M.runA] at h
  | mem rows stt fx =>
   rw [hg] at h
   simp only at h
   split at h
   case isFalse => simp [M.runA] at h
   split at h
   case h_2 => simp [M.runA] at h
   split at h
   case isFalse => simp [M.runA] at h
   simp only [M.runA] at h
   split at h
   case isFalse => cases h
   split at h
   case isFalse => simp [M.runA] at h
   simp only [M.runA] at h
   split at h
   case isFalse => cases h
   simp only [Option.some.injEq, Prod.mk.injEq] at h
   obtain ⟨_, rfl⟩ := h
   obtain ⟨⟨i0, c0⟩, p', rfl⟩ : ∃ x p', p = x :: p' := by cases p with | nil => exact absurd rfl hp | cons x p' => exact ⟨x, p', rfl⟩
   intro id' hid' rows' stt' fx' hg'
   have hd' : ∀ R' : R, ∀ es, A9 (R'.set d es) id' = A9 R' id' := fun R' es => by
    have : id'.1 ≠ d := fun e => hd (by rw [← e, hid'])
    simp only [A9, List.getD, List.getElem?_set]
    rw [if_neg (fun e => this e.symm)]
   rw [hd']
   by_cases e : id' = id
   ·subst e
    rw [hg] at hg'
    cases hg'
    have hth : AD (AS r id2 .dead) id' := by
     have h3 := e1 id' hid'
     rw [hg] at h3
     unfold AD
     rcases Nat.lt_or_ge id'.2 ((AS r id2 .dead).getD id'.1 []).length with h4 | h4
     ·exact h4
     ·have h5 : A9 (AS r id2 .dead) id' = .dead := by
       show ((AS r id2 .dead).getD id'.1 []).getD id'.2 .dead = .dead
       generalize (AS r id2 .dead).getD id'.1 [] = l at h4
       simp [List.getD, List.getElem?_eq_none h4]
      rw [h5] at h3
      cases h3
    rw [A5 hth]
    obtain ⟨k1, k2⟩ := T5 (rows := rows) (i0 := i0) (c0 := c0) (p := p') (i := i) (c := c) (t := .hole)
    exact ⟨_, rfl, k1, k2⟩
   ·rw [A6 (fun e' => e e'.symm)]
    rw [e1 id' hid', hg']
    exact ⟨rows', rfl, rfl, fun i c row t a1 a2 => ⟨row, t, a1, a2, .inl rfl⟩⟩
theorem PT {call : AC} {x y : Da} (hc : T4 x y = true) {st s1 s2 : St} (h1 : B9 call true x st = some s1) (h2 : B9 call true y s1 = some s2) : ∃ s1', B9 call true y st = some s1' ∧ B9 call true x s1' = some s2 := by
 unfold T4 at hc
 split at hc
 case h_2 => cases hc
 rename_i ox q sz byt a b dx dy ex ey edx edy
 simp only [Bool.and_eq_true, beq_iff_eq, bne_iff_ne, Bool.not_eq_true', ne_eq] at hc
 obtain ⟨⟨⟨⟨⟨⟨⟨c1, c2⟩, c3⟩, c4⟩, c5⟩, c6⟩, c7⟩, c8⟩ := hc
 have c2' : x.wr = [] := by simpa using c2
 have c3' : x.g = none := by simpa using c3
 have c4' : y.g = none := by simpa using c4
 have c7' : dx ∉ De y := by simpa using c7
 have c8' : dy ∉ De x := by simpa using c8
 obtain ⟨s, r⟩ := st
 have gnone : ∀ {e : Da} {st st' : St}, e.g = none → (B9 call true e st = some st' ↔ ∃ v r', (AL st.s (e.d.getD 0) e.o).runA call (e.d.getD 0) e.rd e.wr st.r = some (v, r') ∧ st' = ({ st with r := r' } : St).put e.d v) := by
  intro e st st' hg
  rw [CK, hg]
  simp [CI]
 obtain ⟨v1, r1, m1, e1⟩ := (gnone c3').1 h1
 obtain ⟨v2, r2, m2, e2⟩ := (gnone c4').1 h2
 rw [edx, ex, c1, c2'] at m1
 subst e1
 rw [edx] at m2 e2
 have hsy : AL (({ s := s, r := r1 } : St).put (some dx) v1).s (y.d.getD 0) y.o = AL s (y.d.getD 0) y.o := HI fun t ht => Fz (st := { s := s, r := r1 }) (fun e' => c7' (by have := Option.some.inj e'; subst this; simp [De, ht]))
 rw [hsy, MA] at m2
 have hr1 : r1 = r := (MB m1 (O9.refl q r)).1
 subst hr1
 rw [edy, ey] at m2
 have hk := PS (by simpa using c6) m2
 obtain ⟨_, k2⟩ := MB m1 hk
 refine ⟨({ s := s, r := r2 } : St).put (some dy) v2, (gnone c4').2 ⟨v2, r2, by rw [edy, ey]; exact m2, by rw [edy]⟩, (gnone c3').2 ⟨v1, r2, ?_, ?_⟩⟩
 ·have hsx : AL (({ s := s, r := r2 } : St).put (some dy) v2).s (x.d.getD 0) x.o = AL s (x.d.getD 0) x.o := HI fun t ht => Fz (st := { s := s, r := r2 }) (fun e' => c8' (by have := Option.some.inj e'; subst this; simp [De, ht]))
  rw [hsx, MA, edx, ex, c1, c2']
  exact k2
 ·rw [e2, edy, edx]
  have := Gn (s := s) (d1 := some dx) (d2 := some dy) (v1 := v1) (v2 := v2) (r := r2) (fun d hd' => by simp only [Option.some.injEq] at hd'; subst hd'; simp only [Option.some.injEq, ne_eq]; exact fun e => c5 e.symm)
  simpa [St.put] using this
theorem MC {call : AC} {x y : Da} (hc : JW x y = true) {st s1 s2 : St} (h1 : B9 call true x st = some s1) (h2 : B9 call true y s1 = some s2) : ∃ s1', B9 call true y st = some s1' ∧ B9 call true x s1' = some s2 := by
 rw [JW, Bool.or_eq_true] at hc
 rcases hc with hc | hc
 ·exact PP hc h1 h2
 ·exact PT hc h1 h2
end TT
namespace TT
open Go
section
variable {P : Program} {c : Gc} {w w' : World} {a : Act} {o : Oper} {BJ : Array Oper} {Q : Exit → Act → World → Prop} {call : AC} {es : List Da}
def PU (call : AC) (es : List Da) (BJ : Array Oper) (st' : St) : Nat → Array Bool → St → Prop
 | 0, listed, st => Region.ready .any BJ listed = [] ∧ st = st'
 | n + 1, listed, st => (Region.ready .any BJ listed = [] → st = st') ∧ ∀ i ∈ Region.ready .any BJ listed, ∃ e st1, es[i]? = some e ∧ B9 call true e st = some st1 ∧ PU call es BJ st' n (listed.setIfInBounds i true) st1
theorem Hs (hS : By c.G P call) (hag : ∀ (j : Nat) e, es[j]? = some e → ∃ o, BJ[j]? = some o ∧ (Sy P BJ e o || agV P e o) = true) {st' : St} (hK : ∀ a' w', Cu c st' a' w' → Q .normal a' w') :
  ∀ (n : Nat) {listed : Array Bool} {st : St} {a : Act} {w : World}, PU call es BJ st' n listed st → Cu c st a w → wpAny P .any BJ Q n listed a w
 | 0, listed, st, a, w, h, hs => ⟨h.1, hK _ _ (h.2 ▸ hs)⟩
 | n + 1, listed, st, a, w, h, hs => by
  refine ⟨fun h0 => hK _ _ (h.1 h0 ▸ hs), fun i hi => ?_⟩
  obtain ⟨e, st1, h1, h2, h3⟩ := h.2 i hi
  obtain ⟨o, g1, g2⟩ := hag i e h1
  rw [Bool.or_eq_true] at g2
  rcases g2 with g2 | g2
  ·exact Co hS g1 g2 h2 hs fun a' w' hs' => Hs hS hag hK n h3 hs'
  ·exact JT g1 g2 h2 hs fun a' w' hs' => Hs hS hag hK n h3 hs'
theorem PV {st' : St} {i : Nat} {ei : Da} (hi : es[i]? = some ei) : ∀ (n : Nat) {listed : Array Bool} {st s1 : St},
  (∀ j ej oj, es[j]? = some ej → BJ[j]? = some oj → j ≠ i → listed.getD j true = false → (∀ e ∈ oj.after, Region.binds .any e = true → e.on ≠ i) → JW ei ej = true) →
  i ∈ Region.ready .any BJ listed → B9 call true ei st = some s1 → PU call es BJ st' n (listed.setIfInBounds i true) s1 → PU call es BJ st' (n + 1) listed st := by
 intro n
 induction n with
 | zero =>
  intro listed st s1 _ hr h1 H
  refine ⟨fun h => (by rw [h] at hr; cases hr), fun j hj => ?_⟩
  by_cases hji : j = i
  ·subst hji; exact ⟨ei, s1, hi, h1, H⟩
  ·have := ready_mono hj hji
   rw [H.1] at this
   cases this
 | succ n ih =>
  intro listed st s1 hfree hr h1 H
  refine ⟨fun h => (by rw [h] at hr; cases hr), fun j hj => ?_⟩
  by_cases hji : j = i
  ·subst hji; exact ⟨ei, s1, hi, h1, H⟩
  ·obtain ⟨ej, s2, g1, g2, g3⟩ := H.2 j (ready_mono hj hji)
   obtain ⟨hjun, oj, hoj, hall⟩ := mem_ready.1 hj
   have hnot : ∀ e ∈ oj.after, Region.binds .any e = true → e.on ≠ i := fun e he hb heq => by
    have h1 := hall e he hb
    have h0 := (mem_ready.1 hr).1
    rw [heq] at h1
    rcases Nat.lt_or_ge i listed.size with h' | h'
    ·simp [h'] at h0 h1; rw [h0] at h1; cases h1
    ·simp [Array.getElem?_eq_none h'] at h1
   obtain ⟨s1', k1, k2⟩ := MC (hfree j ej oj g1 hoj hji hjun hnot) h1 g2
   refine ⟨ej, s1', g1, k1, ?_⟩
   refine ih (fun k ek ok hek hk hki hun hno => ?_) (ready_mono hr (Ne.symm hji)) k2 (by rw [Array.setIfInBounds_comm _ _ hji]; exact g3)
   refine hfree k ek ok hek hk hki ?_ hno
   by_cases hjk : j = k
   ·subst hjk; exact hjun
   ·rw [getD_set_ne true hjk] at hun; exact hun
theorem OA {st' : St} {i : Nat} {ei : Da} {dep : Nat → Bool} (hi : es[i]? = some ei) (hd : ∀ j oj, BJ[j]? = some oj → dep j = true → ∃ e ∈ oj.after, Region.binds .any e = true ∧ (e.on = i ∨ dep e.on = true)) : ∀ (n : Nat) {listed : Array Bool} {st s1 : St},
  (∀ m, listed.getD m false = true → dep m = false) → (∀ j ej oj, es[j]? = some ej → BJ[j]? = some oj → j ≠ i → listed.getD j true = false → dep j = false → JW ei ej = true) →
  i ∈ Region.ready .any BJ listed → B9 call true ei st = some s1 → PU call es BJ st' n (listed.setIfInBounds i true) s1 → PU call es BJ st' (n + 1) listed st := by
 intro n
 induction n with
 | zero =>
  intro listed st s1 _ _ hr h1 H
  refine ⟨fun h => (by rw [h] at hr; cases hr), fun j hj => ?_⟩
  by_cases hji : j = i
  ·subst hji; exact ⟨ei, s1, hi, h1, H⟩
  ·have := ready_mono hj hji
   rw [H.1] at this
   cases this
 | succ n ih =>
  intro listed st s1 hl hfree hr h1 H
  refine ⟨fun h => (by rw [h] at hr; cases hr), fun j hj => ?_⟩
  by_cases hji : j = i
  ·subst hji; exact ⟨ei, s1, hi, h1, H⟩
  ·obtain ⟨ej, s2, g1, g2, g3⟩ := H.2 j (ready_mono hj hji)
   obtain ⟨hjun, oj, hoj, hall⟩ := mem_ready.1 hj
   have hdj : dep j = false := by
    cases hdj : dep j with
    | false => rfl
    | true =>
     obtain ⟨e, he, hb, hor⟩ := hd j oj hoj hdj
     have h1 := hall e he hb
     rcases hor with heq | hor
     ·have h0 := (mem_ready.1 hr).1
      rw [heq] at h1
      rcases Nat.lt_or_ge i listed.size with h' | h'
      ·simp [h'] at h0 h1; rw [h0] at h1; cases h1
      ·simp [Array.getElem?_eq_none h'] at h1
     ·have := hl e.on (by
       rcases Nat.lt_or_ge e.on listed.size with h' | h'
       ·simpa [h'] using h1
       ·simp [Array.getElem?_eq_none h'] at h1)
      rw [hor] at this
      cases this
   obtain ⟨s1', k1, k2⟩ := MC (hfree j ej oj g1 hoj hji hjun hdj) h1 g2
   refine ⟨ej, s1', g1, k1, ?_⟩
   refine ih (fun m hm => ?_) (fun k ek ok hek hk hki hun hno => ?_) (ready_mono hr (Ne.symm hji)) k2 (by rw [Array.setIfInBounds_comm _ _ hji]; exact g3)
   ·by_cases hjm : j = m
    ·subst hjm; exact hdj
    ·rw [getD_set_ne false hjm] at hm; exact hl m hm
   ·refine hfree k ek ok hek hk hki ?_ hno
    by_cases hjk : j = k
    ·subst hjk; exact hjun
    ·rw [getD_set_ne true hjk] at hun; exact hun
def Zs (BJ : Array Oper) (i : Nat) : Array Bool := (List.range BJ.size).foldl (fun dep j => dep.push (match BJ[j]? with | some oj => oj.after.any (fun e => Region.binds .any e && (e.on == i || dep.getD e.on false)) | none => false)) #[]
def Xl (BJ : Array Oper) (listed : Array Bool) (i : Nat) (dep : Array Bool) : Bool := (List.range BJ.size).all fun j => !dep.getD j false || (!listed.getD j false && (match BJ[j]? with | some oj => oj.after.any (fun e => Region.binds .any e && (e.on == i || dep.getD e.on false)) | none => false))
def T6 (es : List Da) (BJ : Array Oper) (listed : Array Bool) (i : Nat) (dep : Array Bool) : Bool := match es[i]? with
 | none => false
 | some ei => Xl BJ listed i dep && dep.size == BJ.size && (List.range BJ.size).all fun j => j == i || listed.getD j true || dep.getD j false || (match es[j]? with | some ej => JW ei ej | none => true)
def Zt (es : List Da) (BJ : Array Oper) (listed : Array Bool) (i : Nat) : Bool := T6 es BJ listed i (Zs BJ i)
theorem PW {i : Nat} {ei : Da} {listed dep : Array Bool} (hi : es[i]? = some ei) (h : T6 es BJ listed i dep = true) :
  (∀ j oj, BJ[j]? = some oj → dep.getD j false = true → ∃ e ∈ oj.after, Region.binds .any e = true ∧ (e.on = i ∨ dep.getD e.on false = true)) ∧ (∀ m, listed.getD m false = true → dep.getD m false = false) ∧
  (∀ j ej oj, es[j]? = some ej → BJ[j]? = some oj → j ≠ i → listed.getD j true = false → dep.getD j false = false → JW ei ej = true) := by
 simp only [T6, hi, Xl, Bool.and_eq_true, List.all_eq_true, List.mem_range, beq_iff_eq] at h
 obtain ⟨⟨h1, h2⟩, h3⟩ := h
 refine ⟨fun j oj hoj hd => ?_, fun m hm => ?_, fun j ej oj hej hoj hne hun hd => ?_⟩
 ·have := h1 j (Array.getElem?_eq_some_iff.1 hoj).1
  rw [hd, hoj] at this
  simp only [Bool.not_true, Bool.false_or, Bool.and_eq_true] at this
  obtain ⟨e, he, hb⟩ := Array.any_eq_true'.1 this.2
  simp only [Bool.and_eq_true, Bool.or_eq_true, beq_iff_eq] at hb
  exact ⟨e, he, hb.1, hb.2⟩
 ·cases hd : dep.getD m false with
  | false => rfl
  | true =>
   rcases Nat.lt_or_ge m BJ.size with h' | h'
   ·have := h1 m h'
    rw [hd, hm] at this
    simp at this
   ·rw [← h2] at h'
    simp [Array.getD, Nat.not_lt.2 h'] at hd
 ·have := h3 j (Array.getElem?_eq_some_iff.1 hoj).1
  simpa [hej, hne, hun, hd] using this
def T7 (es : List Da) (BJ : Array Oper) (listed : Array Bool) (i : Nat) : Bool :=
 match es[i]? with
 | none => false
 | some ei => (List.range BJ.size).all fun j => j == i || listed.getD j true || (match BJ[j]? with | some oj => oj.after.any (fun e => Region.binds .any e && e.on == i) | none => true) || (match es[j]? with | some ej => JW ei ej | none => true)
def T8 (es : List Da) (BJ : Array Oper) : Nat → Nat → Array Bool → Bool
 | 0, _, listed => (Region.ready .any BJ listed).isEmpty
 | n + 1, k, listed => (Region.ready .any BJ listed).contains k && (T7 es BJ listed k || Zt es BJ listed k) && T8 es BJ n (k + 1) (listed.setIfInBounds k true)
theorem PX {i : Nat} {ei : Da} {listed : Array Bool} (hi : es[i]? = some ei) (h : T7 es BJ listed i = true) (j : Nat) (ej : Da) (oj : Oper) (hej : es[j]? = some ej) (hoj : BJ[j]? = some oj) (hne : j ≠ i) (hun : listed.getD j true = false) (hno : ∀ e ∈ oj.after, Region.binds .any e = true → e.on ≠ i) : JW ei ej = true := by
 simp only [T7, hi, List.all_eq_true, List.mem_range] at h
 have h1 := h j (Array.getElem?_eq_some_iff.1 hoj).1
 simp only [hoj, hej, Bool.or_eq_true, beq_iff_eq, hne, false_or, hun, Bool.false_eq_true] at h1
 rcases h1 with h1 | h1
 ·obtain ⟨e, he, hb⟩ := Array.any_eq_true'.1 h1
  simp only [Bool.and_eq_true, beq_iff_eq] at hb
  exact absurd hb.2 (hno e he hb.1)
 ·exact h1
theorem OB {st' : St} : ∀ (l : List Da) (k : Nat) {listed : Array Bool} {st : St}, (∀ j, l[j]? = es[k + j]?) → T8 es BJ l.length k listed = true → BZ call true l st = some st' → PU call es BJ st' l.length listed st
 | [], k, listed, st, hl, hB, h => by
  simp only [BZ, Option.some.injEq] at h
  exact ⟨by simpa [T8] using hB, h⟩
 | e :: l, k, listed, st, hl, hB, h => by
  have h0 : es[k]? = some e := by simpa using (hl 0).symm
  simp only [List.length_cons, T8, Bool.and_eq_true] at hB
  obtain ⟨⟨hr, hf⟩, hB'⟩ := hB
  simp only [BZ] at h
  obtain ⟨st1, h1, h2⟩ := Option.bind_eq_some_iff.1 h
  have hrest := (OB l (k + 1) (fun j => by have := hl (j + 1); simpa [Nat.add_assoc, Nat.add_comm 1 j] using this) hB' h2)
  rw [Bool.or_eq_true] at hf
  rcases hf with hf | hf
  ·exact PV h0 l.length (PX h0 hf) (by simpa using hr) h1 hrest
  ·obtain ⟨f1, f2, f3⟩ := PW h0 hf
   exact OA (dep := fun j => (Zs BJ k).getD j false) h0 f1 l.length f2 f3 (by simpa using hr) h1 hrest
end
end TT
