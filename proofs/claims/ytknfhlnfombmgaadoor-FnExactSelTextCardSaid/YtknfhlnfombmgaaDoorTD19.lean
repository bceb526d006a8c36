import Derived.Test.YtknfhlnfombmgaaDoorTD18
set_option linter.unusedVariables false
set_option linter.unusedSimpArgs false
namespace TT
open Go

section
variable {P : Program} {c : Ctx} {w w' : World} {B B' B2 : Nat → Prop} {ρ ρ' : Id → Loc} {Sf : Id → Nat → Prop} {X : Nat → Prop} {r r' r0 : R} {a : Act} {o : Oper} {id0 : Id}

/-! ### Reading what is not lent -/

theorem borrow1_run {α : Type} {call : CallF} {d : Nat} {x : α × R} {v : V} {u : Value} {k : T → M α} (hrun : (borrow1 v k).run call d r = some x) (hI : Inv c w B ρ Sf X r) (hv : RepV w B ρ r v u) (hB : ∀ b, B b → B2 b) (hR : v.isOwned = true → ∀ id b, Sf id b → B2 b) :
    ∃ t, (k t).run call d r = some x ∧ ShC w B2 t u ∧ u.oneCell' = true := by
  cases v with
  | t c => simp only [borrow1] at hrun; simp only [RepV] at hv; exact ⟨c, hrun, ShC.mono hB hv.1, hv.2⟩
  | nil =>
    simp only [borrow1] at hrun
    simp only [RepV] at hv
    subst hv
    exact ⟨_, hrun, by simp only [ShC]; exact ⟨none, 0, rfl, Nat.le_refl _, by simp, .inl trivial⟩, rfl⟩
  | ref id n =>
    simp only [borrow1, rowsOf, M.run] at hrun
    simp only [RepV] at hv
    cases he : getE r id with
    | dead => rw [he] at hrun; simp [M.run] at hrun
    | mem rows stt fx =>
      rw [he] at hrun
      simp only at hrun
      split at hrun
      · rename_i hl
        have hu := (hv.2.2 rows stt fx he).2 hl
        have hf := OwC.frz (B := B) (B' := B2) hB (t := .sl true rows) (u := u) (S := Sf id) (hR rfl id) (OwC_sl.2 ⟨_, _, by rw [hl]; exact hu, (hI.mem he).1⟩)
        simp only [TT.frz] at hf
        exact ⟨_, hrun, hf, by rw [hu]; rfl⟩
      · simp [M.run] at hrun
  | sub id p i k' n st =>
    simp only [borrow1, rowsOf, M.run] at hrun
    simp only [RepV] at hv
    cases he : getE r id with
    | dead => rw [he] at hrun; simp [M.run] at hrun
    | mem rows stt fx =>
      rw [he] at hrun
      simp only at hrun
      split at hrun
      · rename_i hs
        cases hg : getC rows p i k' with
        | none => rw [hg] at hrun; simp [M.run] at hrun
        | some t =>
          rw [hg] at hrun
          cases t with
          | v y => simp [M.run] at hrun
          | hole => simp [M.run] at hrun
          | sl ow rs => cases ow with
            | false => simp [M.run] at hrun
            | true =>
              simp only at hrun
              split at hrun
              · rename_i hlen
                obtain ⟨b', o', m1, m2⟩ := ((hv.2.2 rows stt fx he).2 hs).2 rs hg hlen
                obtain ⟨b, o, cur, e, u', S1, S2, l1, l2, l3, l4, l5, l6, l7, _⟩ := OwS.lens p (hI.mem he).1 hg
                obtain ⟨rfl, rfl⟩ := LocAt.unique p l1 m1
                rw [cell_row l2, l3] at m2
                simp only [Option.some.injEq] at m2
                subst m2
                have hf := OwC.frz (B := B) (B' := B2) hB (t := .sl true rs) (u := u') (S := S1) (fun b hb => hR rfl id b (l6.left hb)) l5
                simp only [TT.frz] at hf
                exact ⟨_, hrun, hf, l4⟩
              · simp [M.run] at hrun
      · simp [M.run] at hrun
  | _ => simp [borrow1, rowsOf, M.run] at hrun

theorem borrow1s_run {α : Type} {call : CallF} {d : Nat} {x : α × R} : ∀ {vs : List V} {us : List Value} {k : List T → M α}, (borrow1s vs k).run call d r = some x → Inv c w B ρ Sf X r → RepVs w B ρ r vs us → (∀ b, B b → B2 b) → (vs.any V.isOwned = true → ∀ id b, Sf id b → B2 b) →
    ∃ ts, (k ts).run call d r = some x ∧ ArgReps w B2 (ts.map Arg.t) us (fun _ => False) []
  | [], us, k, hrun, hI, hv, hB, hR => by
    simp only [RepVs] at hv
    exact ⟨[], hrun, by simp only [List.map_nil, ArgReps]; exact ⟨hv, fun _ h => h, trivial⟩⟩
  | v :: vs, us, k, hrun, hI, hv, hB, hR => by
    simp only [borrow1s] at hrun
    simp only [RepVs] at hv
    obtain ⟨u, us', rfl, h1, h2⟩ := hv
    obtain ⟨t, g1, g2, g3⟩ := borrow1_run hrun hI h1 hB (fun h => hR (by simp [h]))
    obtain ⟨ts, g4, g5⟩ := borrow1s_run g1 hI h2 hB (fun h => hR (by simp only [List.any_cons, h, Bool.or_true]))
    refine ⟨t :: ts, g4, ?_⟩
    simp only [List.map_cons, ArgReps]
    exact ⟨u, us', fun _ => False, fun _ => False, [], [], rfl, by simp only [ArgRep]; exact ⟨g2, g3, fun _ h => h, trivial⟩, g5, ⟨fun b => by simp, fun b (h : False) => h.elim⟩, rfl⟩

theorem borrow_run {α : Type} {call : CallF} {d : Nat} {x : α × R} {pa : PA} {u : Value} {S : Nat → Prop} {ls : List Lent} {k : Arg → M α} (hrun : (borrow pa k).run call d r = some x) (hI : Inv c w B ρ Sf X r) (hp : PARep w B ρ r pa u S ls) (hB : ∀ b, B b → B2 b) (hR : pa.reads = true → ∀ id b, Sf id b → B2 b) :
    ∃ a, (k a).run call d r = some x ∧ ArgRep w B2 a u S ls := by
  cases pa with
  | a a => exact ⟨a, hrun, ArgRep.mono hB hp⟩
  | v v =>
    obtain ⟨hv, hS, rfl⟩ := hp
    have one : (borrow1 v fun t => k (.t t)).run call d r = some x → (v.isOwned = true → ∀ id b, Sf id b → B2 b) → ∃ a, (k a).run call d r = some x ∧ ArgRep w B2 a u S [] := by
      intro hrun hR
      obtain ⟨t, g1, g2, g3⟩ := borrow1_run hrun hI hv hB hR
      exact ⟨_, g1, by simp only [ArgRep]; exact ⟨g2, g3, hS, trivial⟩⟩
    cases v with
    | agg cs =>
      simp only [borrow] at hrun
      simp only [RepV] at hv
      obtain ⟨us, rfl, hv⟩ := hv
      obtain ⟨ts, g1, g2⟩ := borrow1s_run hrun hI hv hB (fun h => hR (by simpa [PA.reads] using h))
      have : S = fun _ => False := funext fun b => propext ⟨fun h => hS b h, fun h => h.elim⟩
      exact ⟨_, g1, by simp only [ArgRep]; rw [this]; exact ⟨us, rfl, g2⟩⟩
    | _ => exact one (by simpa only [borrow] using hrun) (fun h => hR (by simpa [PA.reads] using h))

theorem borrows_run {α : Type} {call : CallF} {d : Nat} {x : α × R} : ∀ {pas : List PA} {us : List Value} {S : Nat → Prop} {ls : List Lent} {k : List Arg → M α}, (borrows pas k).run call d r = some x → Inv c w B ρ Sf X r → PAReps w B ρ r pas us S ls → (∀ b, B b → B2 b) → (pas.any PA.reads = true → ∀ id b, Sf id b → B2 b) →
    ∃ as, (k as).run call d r = some x ∧ ArgReps w B2 as us S ls
  | [], us, S, ls, k, hrun, hI, hv, hB, hR => ⟨[], hrun, by simpa only [PAReps, ArgReps] using hv⟩
  | v :: vs, us, S, ls, k, hrun, hI, hv, hB, hR => by
    simp only [borrows] at hrun
    simp only [PAReps] at hv
    obtain ⟨u, us', S1, S2, l1, l2, h1, h2, h3, h4, h5⟩ := hv
    obtain ⟨a, g1, g2⟩ := borrow_run hrun hI h2 hB (fun h => hR (by simp [h]))
    obtain ⟨as, g4, g5⟩ := borrows_run g1 hI h3 hB (fun h => hR (by simp only [List.any_cons, h, Bool.or_true]))
    refine ⟨a :: as, g4, ?_⟩
    simp only [ArgReps]
    exact ⟨u, us', S1, S2, l1, l2, h1, g2, g5, h4, h5⟩

/-! ### Coming back -/

theorem BackOK.world (hI : Inv c w B ρ Sf X r) (hs : ∀ id, Same (Sf id) w w') {b : Back} {l : Lent} (h : BackOK c w ρ r0 r b l) : BackOK c w' ρ r0 r b l := by
  cases b with
  | root id st fx rows0 => exact h
  | none => trivial
  | cell id p i k =>
    refine ⟨h.1, fun rows stt fx hg => ?_⟩
    obtain ⟨h1, b, o, h2, h3⟩ := h.2 rows stt fx hg
    have hm := (hI.mem hg).1
    obtain ⟨b', o', cur, e, u', S1, S2, l1, l2, l3, l4, l5, l6, l7, _⟩ := OwS.lens p hm h1
    obtain ⟨rfl, rfl⟩ := LocAt.unique p l1 h2
    exact ⟨h1, b', o', LocAt.same (S := Sf id) p hm (hs id) l1, by rw [cell_same (hs id b' (l6.right l7))]; exact h3⟩
theorem BacksOK.world (hI : Inv c w B ρ Sf X r) (hs : ∀ id, Same (Sf id) w w') : ∀ {bs : List Back} {ls : List Lent}, BacksOK c w ρ r0 r bs ls → BacksOK c w' ρ r0 r bs ls
  | [], ls, h => h
  | b :: bs, ls, h => by
    simp only [BacksOK] at h ⊢
    obtain ⟨l, ls', h1, h2, h3⟩ := h
    exact ⟨l, ls', h1, h2.world hI hs, h3.world hI hs⟩

theorem chg_root {ids : List Id} {id : Id} {rows : Rows} {st : Nat} {fx : Bool} (h : Chg ids r0 r) (ht : There r id) {rows1 : Rows} {stt1 : Nat} {fx1 : Bool} (h1 : getE r0 id = .mem rows1 stt1 fx1) (hl : rows.map (·.length) = rows1.map (·.length)) (hs : stt1 < st) : Chg ids r0 (setE r id (.mem rows st fx)) := by
  intro id' rows2 stt2 fx2 hg ht0
  by_cases e : id = id'
  · subst e
    rw [getE_setE_same ht] at hg
    cases hg
    exact ⟨rows1, stt1, fx1, h1, hl, .inl hs⟩
  · rw [getE_setE_other e] at hg
    exact h id' rows2 stt2 fx2 hg ht0

theorem putBack_run {α : Type} {call : CallF} {d : Nat} {x : α × R} {m : M α} {Y : Nat → Prop} {ids : List Id} : ∀ {bs : List Back} {ls : List Lent} {os : List (Option Rows)} {Sf : Id → Nat → Prop} {Sa : Nat → Prop} {r : R}, (putBack bs os m).run call d r = some x → Inv c w B ρ Sf (fun b => Y b ∨ Sa b) r → AfterRep w B ls os Sa →
    BacksOK c w ρ r0 r bs ls → nodupIds (backIds bs) = true → (∀ b, Y b → ¬ Sa b) → Chg ids r0 r → (∀ t, (r.getD t []).length = (r0.getD t []).length) → r.length = r0.length →
    ∃ Sf' r', m.run call d r' = some x ∧ Inv c w B ρ Sf' Y r' ∧ Chg ids r0 r' ∧ (∀ t, (r'.getD t []).length = (r0.getD t []).length) ∧ r'.length = r0.length
  | [], ls, os, Sf, Sa, r, hrun, hI, ha, hb, hn, hd, hc, hl, hz => by
    simp only [BacksOK] at hb
    subst hb
    simp only [AfterRep] at ha
    obtain ⟨rfl, he⟩ := ha
    simp only [putBack] at hrun
    exact ⟨Sf, r, hrun, hI.congrX (fun b => ⟨fun h => h.resolve_right (he b), .inl⟩), hc, hl, hz⟩
  | bk :: bs, ls0, os0, Sf, Sa, r, hrun, hI, ha, hb, hn, hd, hc, hl, hz => by
    simp only [BacksOK] at hb
    obtain ⟨l, ls, rfl, hb1, hb2⟩ := hb
    simp only [AfterRep] at ha
    obtain ⟨ov, os, S1, S2, rfl, ha1, ha2, hsp⟩ := ha
    -- nothing comes back
    have skip : Emp S1 → nodupIds (backIds bs) = true → (putBack bs os m).run call d r = some x → ∃ Sf' r', m.run call d r' = some x ∧ Inv c w B ρ Sf' Y r' ∧ Chg ids r0 r' ∧ (∀ t, (r'.getD t []).length = (r0.getD t []).length) ∧ r'.length = r0.length := by
      intro he hn' hrun
      exact putBack_run hrun (hI.congrX (fun b => ⟨fun h => h.imp (fun h => h) (fun h => ((hsp.1 b).1 h).resolve_left (he b)), fun h => h.imp (fun h => h) (fun h => hsp.right h)⟩)) ha2 hb2 hn' (fun b hy h => hd b hy (hsp.right h)) hc hl hz
    cases bk with
    | none =>
      simp only [putBack] at hrun
      have hI' := hI
      cases ov with
      | none => exact skip ha1 hn hrun
      | some rows =>
        refine putBack_run (Sf := Sf) hrun ?_ ha2 hb2 hn (fun b hy h => hd b hy (hsp.right h)) hc hl hz
        exact hI.world (fun _ _ _ => rfl) (Nat.le_refl _) rfl rfl rfl (fun _ h => h) (fun _ h => .inl h) hI.inB (fun b h => .inl (h.imp (fun h => h) (fun h => hsp.right h))) (fun b h => hI.inX b (h.imp (fun h => h) (fun h => hsp.right h))) (fun b h => hI.xb b (h.imp (fun h => h) (fun h => hsp.right h)))
    | root id st fx rows0 =>
      have hn2 : nodupIds (backIds bs) = true ∧ id ∉ backIds bs := by
        simp only [backIds, nodupIds, Bool.and_eq_true, Bool.not_eq_true'] at hn
        exact ⟨hn.2, by simpa using hn.1⟩
      obtain ⟨hl1, ht0, ⟨rows1, stt1, fx1, e1, e2, e3⟩, hfx⟩ := hb1
      have hth : There r id := by unfold There; rw [hl]; exact ht0
      simp only [putBack, M.run] at hrun
      split at hrun
      · rename_i he
        cases ov with
        | none => exact skip ha1 hn2.1 hrun
        | some rows =>
          simp only at hrun
          split at hrun
          · rename_i hlen
            simp only [M.run] at hrun
            obtain ⟨ha3, ha4⟩ := ha1
            rw [hl1] at ha3 ha4
            have hput := hI.put (id0 := id) hth (rows' := rows) (stt' := st + 1) (fx' := fx) (S' := S1) (X' := fun b => Y b ∨ S2 b) ha3 (fun b hb => .inl (.inr (hsp.left hb))) (fun b hb => hb.imp (fun h => h) (fun h => hsp.right h))
              (fun b hb hb' => by
                rcases hb with h | h
                · exact hd b h (hsp.left hb')
                · exact hsp.2 b hb' h) (fun h => ⟨(hfx h).1, by rw [rows_len hlen]; exact (hfx h).2⟩)
            refine putBack_run hrun hput ha2 (hb2.keep fun j hj => .inl (getE_setE_other (fun e : id = j => hn2.2 (e ▸ hj)) _)) hn2.1 (fun b hy h => hd b hy (hsp.right h)) (chg_root hc hth e1 (by rw [hlen, e2]) (by omega)) (fun t => by rw [len_setE]; exact hl t) (by rw [length_setE]; exact hz)
          · simp [M.run] at hrun
      · simp [M.run] at hrun
    | cell id p i k =>
      have hn2 : nodupIds (backIds bs) = true ∧ id ∉ backIds bs := by
        simp only [backIds, nodupIds, Bool.and_eq_true, Bool.not_eq_true'] at hn
        exact ⟨hn.2, by simpa using hn.1⟩
      obtain ⟨ht0, hb3⟩ := hb1
      have hth : There r id := by unfold There; rw [hl]; exact ht0
      simp only [putBack, M.run] at hrun
      split at hrun
      · rename_i rows stt fx he
        cases ov with
        | none => exact skip ha1 hn2.1 hrun
        | some rs =>
          simp only [M.run] at hrun
          obtain ⟨ha3, ha4⟩ := ha1
          obtain ⟨g1, b, o', g2, g3⟩ := hb3 rows stt fx he
          obtain ⟨hm, hfx⟩ := hI.mem he
          obtain ⟨b', k', cur, e, u, T1, T2, l1, l2, l3, l4, l5, l6, l7, l8⟩ := OwS.lens p hm g1
          obtain ⟨rfl, rfl⟩ := LocAt.unique p l1 g2
          rw [cell_row l2, l3] at g3
          simp only [Option.some.injEq] at g3
          have hown := l8 w B (.sl true rs) u S1 (fun _ h => h) (fun _ _ => rfl) (fun _ _ _ => rfl) (by rw [set_same l3]; exact l2) l4 (OwC_sl.2 ⟨_, _, by rw [ha4]; exact g3, ha3⟩) (fun b hb hb' => hI.xd id b (.inr (hsp.left hb)) (l6.right hb'))
          have hput := hI.put (id0 := id) hth (rows' := setC rows p i k (.sl true rs)) (stt' := stt + 1) (fx' := fx) (X' := fun b => Y b ∨ S2 b) hown (fun b hb => hb.imp (fun h => .inr (hsp.left h)) (fun h => l6.right h)) (fun b hb => hb.imp (fun h => h) (fun h => hsp.right h))
            (fun b hb hb' => by
              rcases hb' with h' | h'
              · rcases hb with h | h
                · exact hd b h (hsp.left h')
                · exact hsp.2 b h' h
              · exact hI.xd id b (hb.imp (fun h => h) (fun h => hsp.right h)) (l6.right h')) (fun h => ⟨(hfx h).1, by rw [setC_length]; exact (hfx h).2⟩)
          exact putBack_run hrun hput ha2 (hb2.keep fun j hj => .inl (getE_setE_other (fun e : id = j => hn2.2 (e ▸ hj)) _)) hn2.1 (fun b hy h => hd b hy (hsp.right h)) (by have := chg_set (extra := []) (fx' := fx) (by simp) hc he (setC_lens rows p i k (.sl true rs)) (Nat.lt_succ_self stt); rwa [List.append_nil] at this) (fun t => by rw [len_setE]; exact hl t) (by rw [length_setE]; exact hz)
      · simp [M.run] at hrun

end
end TT
