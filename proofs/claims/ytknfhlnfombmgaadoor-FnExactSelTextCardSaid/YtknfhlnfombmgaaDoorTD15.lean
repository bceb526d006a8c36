import Derived.Test.YtknfhlnfombmgaaDoorTD14
set_option linter.unusedVariables false
set_option linter.unusedSimpArgs false
namespace TT
open Go

section
variable {P : Program} {c : Ctx} {w w' : World} {B : Nat → Prop} {ρ : Id → Loc} {Sf : Id → Nat → Prop} {X : Nat → Prop} {r : R} {a : Act} {o : Oper} {id0 : Id}

/-- The rows of a slice that go elsewhere. -/
theorem takeSl_run {α : Type} {call : CallF} {d : Nat} {v : V} {u : Value} {k : Rows → M α} {x : α × R} (hrun : (takeSl v k).run call d r = some x) (hI : Inv c w B ρ Sf X r) (hv : RepV w B ρ r v u) :
    ∃ (rows : Rows) (S S0 : Nat → Prop) (Sf' : Id → Nat → Prop) (r' : R) (uss : List (List Value)) (sz : Nat), (k rows).run call d r' = some x ∧ OwVss w B sz rows uss S ∧ Src w u uss ∧ (∀ b, S b → S0 b) ∧ Inv c w B ρ Sf' (fun b => X b ∨ S0 b) r' ∧ (∀ b, S0 b → ¬ X b) ∧ Step w B ρ r r' := by
  have own : ∀ {v : V} {F : T → M α}, RepV w B ρ r v u → (take v F).run call d r = some x → (∀ rows, F (.sl true rows) = k rows) → (∀ t : T, t.isOwn = false → F t = .fail) →
      ∃ (rows : Rows) (S S0 : Nat → Prop) (Sf' : Id → Nat → Prop) (r' : R) (uss : List (List Value)) (sz : Nat), (k rows).run call d r' = some x ∧ OwVss w B sz rows uss S ∧ Src w u uss ∧ (∀ b, S b → S0 b) ∧ Inv c w B ρ Sf' (fun b => X b ∨ S0 b) r' ∧ (∀ b, S0 b → ¬ X b) ∧ Step w B ρ r r' := by
    intro v F hv hrun hF1 hF2
    obtain ⟨t, S, Sf1, r1, g1, g2, g3, g4, g5, g6, g7⟩ := take_run hrun hI hv
    cases t with
    | v x => rw [hF2 _ rfl] at g1; simp [M.run] at g1
    | hole => rw [hF2 _ rfl] at g1; simp [M.run] at g1
    | sl ow rows => cases ow with
      | false => rw [hF2 _ rfl] at g1; simp [M.run] at g1
      | true =>
        rw [hF1] at g1
        obtain ⟨q, cap, rfl, ho⟩ := OwC_sl.1 g2
        rcases ho with ⟨rfl, rfl, rfl, he⟩ | ⟨b, sz, e, cur, S', rfl, h4, h5, h6, h7, h8, h9, h10⟩
        · exact ⟨[], fun _ => False, S, Sf1, r1, [], 0, g1, by simp only [OwVss]; exact ⟨trivial, fun _ h => h⟩, .inl ⟨rfl, _, _, rfl⟩, fun _ h => h.elim, g4, g5, g6⟩
        · obtain ⟨uss, m1, m2⟩ := h10.values
          exact ⟨rows, S', S, Sf1, r1, uss, sz, g1, m1, .inr ⟨b, 0, cap, by rw [(OwVss.sizes m1).1], m2⟩, fun b hb => h9.right hb, g4, g5, g6⟩
  cases v with
  | t t =>
    cases t with
    | v y =>
      by_cases hy : ∃ q c, y = .slice q 0 c
      · obtain ⟨q, c, rfl⟩ := hy
        simp only [takeSl] at hrun
        simp only [RepV, ShC] at hv
        exact ⟨[], fun _ => False, fun _ => False, Sf, r, [], 0, hrun, by simp only [OwVss]; exact ⟨trivial, fun _ h => h⟩, .inl ⟨rfl, q, c, hv.1⟩, fun _ h => h, hI.congrX (fun b => by simp), fun _ h => h.elim, Step.refl ..⟩
      · have e : takeSl (.t (.v y)) k = take (.t (.v y)) fun | .sl true rows => k rows | _ => .fail := by
          cases y <;> try rfl
          rename_i q n c
          cases n with
          | zero => exact absurd ⟨q, c, rfl⟩ hy
          | succ n => rfl
        rw [e] at hrun
        exact own hv hrun (fun _ => rfl) (fun t ht => by cases t with | v x => rfl | hole => rfl | sl ow rows => cases ow with | false => rfl | true => cases ht)
    | hole => simp only [takeSl] at hrun; exact own hv hrun (fun _ => rfl) (fun t ht => by cases t with | v x => rfl | hole => rfl | sl ow rows => cases ow with | false => rfl | true => cases ht)
    | sl ow rows =>
      simp only [takeSl] at hrun
      simp only [RepV] at hv
      cases ow with
      | true => have := hv.1; simp only [ShC] at this
      | false =>
        have h1 := hv.1
        simp only [ShC] at h1
        obtain ⟨q, cap, rfl, h2, h3, h4⟩ := h1
        rcases h4 with rfl | ⟨b, k', sz, rfl, h5, h6, h7⟩
        · exact ⟨[], fun _ => False, fun _ => False, Sf, r, [], 0, hrun, by simp only [OwVss]; exact ⟨trivial, fun _ h => h⟩, .inl ⟨rfl, _, _, rfl⟩, fun _ h => h, hI.congrX (fun b => by simp), fun _ h => h.elim, Step.refl ..⟩
        · obtain ⟨uss, m1, m2⟩ := h7.values
          exact ⟨rows, fun _ => False, fun _ => False, Sf, r, uss, sz, hrun, m1, .inr ⟨b, k', cap, by rw [(OwVss.sizes m1).1], m2⟩, fun _ h => h, hI.congrX (fun b => by simp), fun _ h => h.elim, Step.refl ..⟩
  | _ => simp only [takeSl] at hrun; exact own hv hrun (fun _ => rfl) (fun t ht => by cases t with | v x => rfl | hole => rfl | sl ow rows => cases ow with | false => rfl | true => cases ht)

def appB (P : Program) (t : TypeId) (sz byt : Nat) : Bool := match P.underlying t with
  | some (.slice e) => (match P.info? e with | some i => i.size == sz && i.bytes == byt && decide (0 < sz) && (match i.zero with | some z => z.cells.size == sz | none => false) | none => false)
  | _ => false

theorem appB_spec {t : TypeId} {sz byt : Nat} (h : appB P t sz byt = true) : ∃ e i z, P.underlying t = some (.slice e) ∧ P.info? e = some i ∧ i.zero = some z ∧ z.cells.size = i.size ∧ i.size = sz ∧ i.bytes = byt ∧ 0 < sz := by
  unfold appB at h
  cases hd : P.underlying t with
  | none => rw [hd] at h; cases h
  | some d =>
    rw [hd] at h
    cases d <;> simp only [] at h <;> try (cases h; done)
    rename_i e
    cases hi : P.info? e with
    | none => rw [hi] at h; cases h
    | some i =>
      rw [hi] at h
      cases hz : i.zero with
      | none => simp [hz] at h
      | some z =>
        simp only [hz, Bool.and_eq_true, beq_iff_eq, decide_eq_true_eq] at h
        obtain ⟨⟨⟨h1, h2⟩, h3⟩, h4⟩ := h
        exact ⟨e, i, z, rfl, hi, hz, by rw [h4, h1], h1, h2, h3⟩

theorem app_yes {t : TypeId} {s x : Operand} {u : Value} (h : o.op = .call { callee := .builtin .append, args := #[s, x], argTypes := #[t, t] }) (hr : (Builtin.append_ #[t, t] o.type #[a.eval s, a.eval x]).run P w = .ok u w') : Yes P o a w u w' := by
  unfold Yes execOp
  rw [h]
  simp [resolve, invoke, builtin, hr]

def updL (ρ : Id → Loc) (id : Id) (l : Loc) : Id → Loc := fun j => if j = id then l else ρ j
theorem updL_same (id : Id) (l : Loc) : updL ρ id l id = l := if_pos rfl
theorem updL_other {id j : Id} (l : Loc) (h : j ≠ id) : updL ρ id l j = ρ j := if_neg h

theorem app_ok (hI : Inv c w B ρ Sf (fun _ => False) r) {t : TypeId} {s y : Operand} {sz byt : Nat} (h : o.op = .call { callee := .builtin .append, args := #[s, y], argTypes := #[t, t] }) (hb : appB P t sz byt = true)
    {va vx : V} (hva : RepV w B ρ r va (a.eval s)) (hvx : RepV w B ρ r vx (a.eval y)) {call : CallF} {d : Nat} {x : V × R}
    (hrun : (takeSl vx fun new => if new.all fun r => r.length == sz then (match va with
        | .nil => if new.length * byt ≤ LIM ∧ 0 < byt then .new [.mem new 0 false] (.ret (.ref (d, 0) new.length)) else .fail
        | .ref id n => .get id fun
            | .mem rows st _ => if rows.length = n ∧ (n + new.length) * byt ≤ LIM ∧ 0 < byt ∧ (rows.all fun r => r.length == sz) then .set id (.mem (rows ++ new) st false) (.ret (.ref id (n + new.length))) else .fail
            | _ => .fail
        | .sub id p i c n st => take (.sub id p i c n st) fun
            | .sl true rows => if (rows.length + new.length) * byt ≤ LIM ∧ 0 < byt ∧ (rows.all fun r => r.length == sz) then .new [.mem (rows ++ new) 0 false] (.ret (.ref (d, 0) (rows.length + new.length))) else .fail
            | _ => .fail
        | _ => .fail) else .fail).run call d r = some x) :
    ∃ w' u ρ' Sf', Yes P o a w u w' ∧ Inv c w' B ρ' Sf' (fun _ => False) x.2 ∧ x.2.length = r.length ∧ (∀ v u, RepV w B ρ r v u → RepV w' B ρ' x.2 v u) ∧ RepV w' B ρ' x.2 x.1 u := by
  obtain ⟨e, i, z, ht, hi, hz, hzs, hsz, hbyt, h0⟩ := appB_spec hb
  have hM : maxLen = 9223372036854775807 := rfl
  have hLIM : LIM = 140737488351232 := rfl
  have hmax : ∀ n, n * byt ≤ LIM → 0 < byt → n ≤ maxLen := fun n h h' => by
    have := Nat.le_mul_of_pos_right n h'
    omega
  obtain ⟨new, S, S0, Sf1, r1, ussN, sz0, g1, g2, g3, g4, g5, g6, g7⟩ := takeSl_run hrun hI hvx
  have hva1 := g7.claims _ _ hva
  split at g1
  · rename_i hall
    have hn : OwVss w B i.size new ussN S := g2.resz (by rw [hsz]; simpa using hall)
    have hSh : ∀ b, S b → b < w.heap.size := fun b hb => g5.inX b (.inr (g4 b hb))
    cases va with
    | nil =>
      simp only at g1
      split at g1
      · rename_i hc
        obtain ⟨hd, hr, g1⟩ := new_run g1
        simp only [M.run, Option.some.injEq] at g1
        subst g1
        simp only [RepV] at hva1
        obtain ⟨q', cap', w2, m1, m2⟩ := append_world (P := P) (ty := o.type) (q := none) (cap := 0) (rows := []) (S := fun _ => False) ht hi hz hzs (by omega) (.inl ⟨rfl, rfl, rfl, fun _ h => h⟩) (by simp) hn g3 (fun _ h => h.elim) (fun _ h => h.elim) hI.inB hSh (by rw [hbyt]; simpa using hc.1) (by simpa using hmax _ hc.1 hc.2)
        obtain ⟨S', n1, n2⟩ := m2.own
        obtain ⟨ρ', Sf', k1, k2, k3⟩ := g5.root (w' := w2) (fun b hb _ => m2.heap b hb (by simp)) m2.size m2.os m2.tape m2.output hd hr n1 (fun b hb => by
          rcases n2 b hb with h | h | h
          · exact h.elim
          · exact .inr (.inr (g4 b h))
          · exact .inl h)
        refine ⟨w2, _, ρ', Sf', app_yes h (by rw [hva1]; simpa using m1), k1, by rw [List.length_set, g7.size], fun v u hh => k2 v u (g7.claims v u hh), ?_⟩
        have := new_ref (w' := w2) (B' := B) (rows := [] ++ new) hd hr k3 (by simpa using m2.le)
        simpa using this
      · simp [M.run] at g1
    | ref id n =>
      simp only [M.run] at g1
      cases he : getE r1 id with
      | dead => rw [he] at g1; simp [M.run] at g1
      | mem rows st fx =>
        rw [he] at g1
        simp only at g1
        split at g1
        · rename_i hc
          obtain ⟨hl, hfit, hb0, hra⟩ := hc
          simp only [M.run, Option.some.injEq] at g1
          subst g1
          have hra' : ∀ t ∈ rows, t.length = i.size := by rw [hsz]; simpa using hra
          simp only [RepV] at hva1
          obtain ⟨hth, _, href⟩ := hva1
          have hu := (href rows st fx he).2 hl
          obtain ⟨hm, _⟩ := g5.mem he
          obtain ⟨q', cap', w2, m1, m2⟩ := append_world (P := P) (ty := o.type) ht hi hz hzs (by omega) hm hra' hn g3 (fun b hb hb' => g5.xd id b (.inr (g4 b hb')) hb) (fun b hb => g5.nb id b hb) hI.inB hSh (by rw [hbyt, hl]; exact hfit) (by rw [hl]; exact hmax _ hfit hb0)
          obtain ⟨S', n1, n2⟩ := m2.own
          have hq' : ∀ id', id' ≠ id → updL ρ id (q', cap') id' = ρ id' := fun id' h => updL_other _ h
          have hqq : updL ρ id (q', cap') id = (q', cap') := updL_same _ _
          have hout : ∀ b, (ρ id).1 = some ⟨b, 0, none⟩ → Sf1 id b := by
            intro b hb
            rcases hm with ⟨e1, _⟩ | ⟨b', _, _, _, _, e1, _, _, _, _, _, e2, _⟩
            · rw [e1] at hb; cases hb
            · rw [e1] at hb
              simp only [Option.some.injEq, Addr.mk.injEq, and_true] at hb
              subst hb
              exact e2.left rfl
          obtain ⟨Sf2, k1, k2⟩ := g5.turn (w' := w2) (ρ' := updL ρ id (q', cap')) (rows' := rows ++ new) (stt' := st) (fx' := false) he (fun b hb hX hS => m2.heap b hb (fun e => hS (hout b e))) m2.size m2.os m2.tape m2.output hq' (by rw [hqq]; exact n1) (fun b hb => by
              rcases n2 b hb with h | h | h
              · exact .inr (.inr h)
              · exact .inr (.inl (.inr (g4 b h)))
              · exact .inl h) (fun h => by cases h)
            (fun hk hB v u hh => claims_grow (q' := q') (cap' := cap') he hq' (fun hnil => by rw [hqq]; obtain ⟨e1, e2⟩ := m2.nil hnil; rw [e1, e2])
              (fun i' row' c' hrow hlt b hb => by
                obtain ⟨b', e1, e2⟩ := m2.cells b hb
                refine ⟨b', by rw [hqq]; exact e1, e2 _ ?_⟩
                have hrl := hra' row' (List.mem_of_getElem? hrow)
                rw [hrl] at hlt ⊢
                have hil := (List.getElem?_eq_some_iff.1 hrow).1
                calc i' * i.size + c' < i' * i.size + i.size := by omega
                  _ = (i' + 1) * i.size := by rw [Nat.succ_mul]
                  _ ≤ rows.length * i.size := Nat.mul_le_mul_right _ hil)
              (fun _ h => h) hB hk
              (fun i' c' rows1 hg => by
                obtain ⟨b', k', cur, e', u', S1, S2, l1, l2, l3, l4, l5, l6, l7, _⟩ := OwS.lens [] hm hg
                obtain ⟨q1, cap1, hu1, hs1⟩ := OwC_sl.1 l5
                refine ⟨q1, cap1, S1, b', k', l1, by rw [cell_row l2, l3, hu1], hs1, fun b hb => m2.heap b (OwS.inHeap hs1 b hb) (fun e => ?_)⟩
                rw [l1.1] at e
                simp only [Option.some.injEq, Addr.mk.injEq, and_true] at e
                subst e
                exact l6.2 b' hb l7) hh)
          refine ⟨w2, _, _, Sf2, app_yes h (by rw [hu]; rw [← hl]; exact m1), k1, by rw [length_setE, g7.size], fun v u hh => k2 v u (g7.claims v u hh), ?_⟩
          simp only [RepV]
          refine ⟨(there_setE _).2 hth, ⟨q', cap', by rw [hl], by have := m2.le; omega⟩, ?_⟩
          intro rows' stt' fx' hg
          rw [getE_setE_same hth] at hg
          simp only [Ent.mem.injEq] at hg
          obtain ⟨rfl, rfl, rfl⟩ := hg
          exact ⟨by simp; omega, fun _ => by rw [hqq, hl]⟩
        · simp [M.run] at g1
    | sub id p j k n st =>
      simp only at g1
      obtain ⟨t2, S2, Sf2, r2, f1, f2, f3, f4, f5, f6, f7⟩ := take_run g1 g5 hva1
      cases t2 with
      | v x => simp [M.run] at f1
      | hole => simp [M.run] at f1
      | sl ow rows => cases ow with
        | false => simp [M.run] at f1
        | true =>
          simp only at f1
          split at f1
          · rename_i hc
            obtain ⟨hfit, hb0, hra⟩ := hc
            obtain ⟨hd, hr, f1⟩ := new_run f1
            simp only [M.run, Option.some.injEq] at f1
            subst f1
            have hra' : ∀ t ∈ rows, t.length = i.size := by rw [hsz]; simpa using hra
            obtain ⟨q, cap, hu, ho⟩ := OwC_sl.1 f2
            obtain ⟨q', cap', w2, m1, m2⟩ := append_world (P := P) (ty := o.type) ht hi hz hzs (by omega) ho hra' hn g3 (fun b hb hb' => f5 b hb (.inr (g4 b hb'))) (fun b hb => f4.xb b (.inr hb)) hI.inB hSh (by rw [hbyt]; exact hfit) (hmax _ hfit hb0)
            obtain ⟨S', n1, n2⟩ := m2.own
            have hout : ∀ b, q = some ⟨b, 0, none⟩ → S2 b := by
              intro b hb
              rcases ho with ⟨e1, _⟩ | ⟨b', _, _, _, _, e1, _, _, _, _, _, e2, _⟩
              · rw [e1] at hb; cases hb
              · rw [e1] at hb
                simp only [Option.some.injEq, Addr.mk.injEq, and_true] at hb
                subst hb
                exact e2.left rfl
            obtain ⟨ρ', Sf', k1, k2, k3⟩ := f4.root (w' := w2) (fun b hb hX => m2.heap b hb (fun e => hX (.inr (hout b e)))) m2.size m2.os m2.tape m2.output hd hr n1 (fun b hb => by
              rcases n2 b hb with h | h | h
              · exact .inr (.inr h)
              · exact .inr (.inl (.inr (g4 b h)))
              · exact .inl h)
            refine ⟨w2, _, ρ', Sf', app_yes h (by rw [hu]; exact m1), k1, by rw [List.length_set, f6.size, g7.size], fun v u hh => k2 v u (f6.claims v u (g7.claims v u hh)), ?_⟩
            have := new_ref (w' := w2) (B' := B) (rows := rows ++ new) hd hr k3 (by simpa using m2.le)
            simpa using this
          · simp [M.run] at f1
    | _ => simp [M.run] at g1
  · simp [M.run] at g1

end
end TT
