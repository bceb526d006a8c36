import Derived.Test.YtknfhlnfombmgaaDoorTD17
set_option linter.unusedVariables false
set_option linter.unusedSimpArgs false
namespace TT
open Go

theorem setE_setE {r : R} {id : Id} (e e' : Ent) : setE (setE r id e) id e' = setE r id e' := by
  unfold setE
  by_cases h : id.1 < r.length
  · simp [List.getD, h]
  · rw [List.set_eq_of_length_le (by simp; omega), List.set_eq_of_length_le (by omega), List.set_eq_of_length_le (by omega)]

theorem getC_setC_same {rows : Rows} {p : Path} {i k : Nat} {t t' : T} (h : getC rows p i k = some t) : getC (setC rows p i k t') p i k = some t' := by
  simp only [getC] at h
  obtain ⟨rs, h1, h2⟩ := Option.bind_eq_some_iff.1 h
  obtain ⟨row, h3, h4⟩ := Option.bind_eq_some_iff.1 h2
  have hr : (getP rows p).bind (·[i]?) = some row := by rw [h1]; exact h3
  rw [getC_of_row (row_setC p hr)]
  have := (List.getElem?_eq_some_iff.1 h4).1
  simp [this]

section
variable {P : Program} {c : Ctx} {w w' : World} {B B' : Nat → Prop} {ρ ρ' : Id → Loc} {Sf : Id → Nat → Prop} {X : Nat → Prop} {r r' r0 : R} {a : Act} {o : Oper} {id0 : Id}

theorem Inv.stamp (hI : Inv c w B ρ Sf X r) {id : Id} {rows : Rows} {stt : Nat} {fx : Bool} (h0 : getE r id = .mem rows stt fx) (stt' : Nat) : Inv c w B ρ Sf X (setE r id (.mem rows stt' fx)) := by
  have hth : There r id := getE_there (by rw [h0]; simp)
  refine { hI with ents := fun j => ?_ }
  by_cases e : id = j
  · subst e
    rw [getE_setE_same hth]
    have := hI.ents id
    rw [h0] at this
    exact this
  · rw [getE_setE_other e]; exact hI.ents j

theorem kept_refl (hI : Inv c w B ρ Sf X r) (id : Id) : Kept w w B ρ r id := fun rows stt fx hg => ⟨Sf id, (hI.mem hg).1, fun _ _ => rfl⟩

theorem lend_cell (hI : Inv c w B ρ Sf X r) {id : Id} {rows rs : Rows} {stt : Nat} {fx : Bool} (h0 : getE r id = .mem rows stt fx) {p : Path} {i k : Nat} (hg : getC rows p i k = some (.sl true rs)) :
    ∃ Sf1 S b o q cap, LendRes c w ρ r0 B Sf X r B Sf1 S (setE r id (.mem (setC rows p i k .hole) (stt + 1) fx)) [id] ∧ LocAt w (ρ id).1 rows p i k b o ∧ w.cell? ⟨b, o, none⟩ = some (.slice q rs.length cap) ∧ OwS w B q cap rs S ∧
      (There r0 id → BackOK c w ρ r0 (setE r id (.mem (setC rows p i k .hole) (stt + 1) fx)) (.cell id p i k) ((q, cap), rs)) := by
  have hth : There r id := getE_there (by rw [h0]; simp)
  obtain ⟨b, o, u, S1, S2, l1, l2, l3, l4, l5, l6, l7⟩ := hI.hole h0 hg
  obtain ⟨q, cap, rfl, hs⟩ := OwC_sl.1 l4
  have h1 : getE (setE r id (.mem (setC rows p i k .hole) stt fx)) id = .mem (setC rows p i k .hole) stt fx := getE_setE_same hth _
  have h2 := l6.stamp h1 (stt + 1)
  rw [setE_setE] at h2
  refine ⟨_, S1, b, o, q, cap, ⟨h2, fun v u hh => claims_bump h0 (setC_length ..) (fun i row' hr => setC_rows i row' hr) (Nat.lt_succ_self _) (fun _ h => h) (fun _ _ => rfl) (fun j _ => kept_refl hI j) hh,
    fun i0 hc => chg_set (by simp) hc h0 (setC_lens ..) (Nat.lt_succ_self _), len_setE _, length_setE _, ?_, fun _ h => h, fun _ h => .inl h, fun b hb hx => hI.xd id b hx (l5.left hb), fun b hb => ⟨id, by simp, l5.left hb⟩, fun j hj => .inl (getE_setE_other (by simpa [eq_comm] using hj) _)⟩, l1, l2, hs, ?_⟩
  · rintro j b (⟨_, h⟩ | ⟨h, h'⟩)
    · exact h
    · subst h; exact l5.right h'
  · intro ht
    refine ⟨ht, fun rows' stt' fx' hg' => ?_⟩
    rw [getE_setE_same hth] at hg'
    cases hg'
    exact ⟨getC_setC_same hg, b, o, (LocAt.put p (hI.mem h0).1 hg l1 (fun _ _ _ => rfl)).1, l2⟩

theorem PAReps.args : ∀ {as : List PA} {us : List Value} {S : Nat → Prop} {ls : List Lent}, PAReps w B ρ r as us S ls → (∀ a ∈ as, ∃ x, a = PA.a x) → ArgReps w B (as.map PA.arg) us S ls
  | [], us, S, ls, h, _ => by simpa only [List.map_nil, ArgReps, PAReps] using h
  | a :: as, us, S, ls, h, ha => by
    simp only [PAReps] at h
    obtain ⟨u, us', S1, S2, l1, l2, h1, h2, h3, h4, h5⟩ := h
    obtain ⟨x, rfl⟩ := ha a (List.mem_cons_self ..)
    simp only [List.map_cons, ArgReps, PA.arg]
    exact ⟨u, us', S1, S2, l1, l2, h1, h2, PAReps.args h3 (fun b hb => ha b (List.mem_cons_of_mem _ hb)), h4, h5⟩

/-- What lending one value gives. -/
def LendOut {α : Type} (c : Ctx) (w : World) (ρ : Id → Loc) (r0 : R) (B : Nat → Prop) (Sf : Id → Nat → Prop) (X : Nat → Prop) (r : R) (call : CallF) (d : Nat) (k : PA → List Back → M α) (x : α × R) (u : Value) (md : Md) : Prop :=
  ∃ pa bs ls S B1 Sf1 r1, (k pa bs).run call d r1 = some x ∧ LendRes c w ρ r0 B Sf X r B1 Sf1 S r1 (backIds bs) ∧ PARep w B1 ρ r1 pa u S ls ∧ (nodupIds (backIds bs) = true → BacksOK c w ρ r0 r1 bs ls) ∧ (md ≠ .val → ∃ a, pa = .a a)
def LendOuts {α : Type} (c : Ctx) (w : World) (ρ : Id → Loc) (r0 : R) (B : Nat → Prop) (Sf : Id → Nat → Prop) (X : Nat → Prop) (r : R) (call : CallF) (d : Nat) (k : List PA → List Back → M α) (x : α × R) (us : List Value) (md : Md) : Prop :=
  ∃ pa bs ls S B1 Sf1 r1, (k pa bs).run call d r1 = some x ∧ LendRes c w ρ r0 B Sf X r B1 Sf1 S r1 (backIds bs) ∧ PAReps w B1 ρ r1 pa us S ls ∧ (nodupIds (backIds bs) = true → BacksOK c w ρ r0 r1 bs ls) ∧ (md ≠ .val → ∀ a ∈ pa, ∃ y, a = PA.a y)

theorem PAReps.next (hB : ∀ b, B b → B' b) (hc : ∀ v u, RepV w B ρ r v u → RepV w B' ρ r' v u) : ∀ {pa : List PA} {u : List Value} {S : Nat → Prop} {ls : List Lent}, PAReps w B ρ r pa u S ls → PAReps w B' ρ r' pa u S ls
  | [], u, S, ls, h => h
  | a :: as, u, S, ls, h => by
    simp only [PAReps] at h ⊢
    obtain ⟨u, us', S1, S2, l1, l2, h1, h2, h3, h4, h5⟩ := h
    exact ⟨u, us', S1, S2, l1, l2, h1, h2.next hB hc, PAReps.next hB hc h3, h4, h5⟩

theorem RepVs.next (hc : ∀ v u, RepV w B ρ r v u → RepV w B' ρ r' v u) : ∀ {vs : List V} {us : List Value}, RepVs w B ρ r vs us → RepVs w B' ρ r' vs us
  | [], us, hh => by simpa only [RepVs] using hh
  | v :: vs, us, hh => by
    simp only [RepVs] at hh ⊢
    obtain ⟨u, us', rfl, h1, h2⟩ := hh
    exact ⟨u, us', rfl, hc _ _ h1, RepVs.next hc h2⟩

/-- One after the other. -/
theorem lend_join {α : Type} {call : CallF} {d : Nat} {x : α × R} {k : List PA → List Back → M α} {pa : PA} {bs : List Back} {ls : List Lent} {S B1 : Nat → Prop} {Sf1 : Id → Nat → Prop} {r1 : R} {u : Value} {us : List Value} {md : Md}
    (h : LendRes c w ρ r0 B Sf X r B1 Sf1 S r1 (backIds bs)) (hp : PARep w B1 ρ r1 pa u S ls) (hb : nodupIds (backIds bs) = true → BacksOK c w ρ r0 r1 bs ls) (hm : md ≠ .val → ∃ a, pa = .a a)
    (h' : LendOuts c w ρ r0 B1 Sf1 (fun b => X b ∨ S b) r1 call d (fun as bs' => k (pa :: as) (bs ++ bs')) x us md) : LendOuts c w ρ r0 B Sf X r call d k x (u :: us) md := by
  obtain ⟨pas, bs2, ls2, S2, B2, Sf2, r2, g1, g2, g3, g4, g5⟩ := h'
  refine ⟨pa :: pas, bs ++ bs2, ls ++ ls2, (fun b => S b ∨ S2 b), B2, Sf2, r2, g1, ?_, ?_, ?_, ?_⟩
  · rw [backIds_append]; exact h.trans g2
  · simp only [PAReps]
    exact ⟨u, us, S, S2, ls, ls2, rfl, hp.next g2.Bl g2.claims, g3, Split.mk' fun b hb hb' => g2.dis b hb' (.inr hb), rfl⟩
  · intro hn
    rw [backIds_append] at hn
    obtain ⟨n1, n2, n3⟩ := nodup_append hn
    exact ((hb n1).keep fun id hid => g2.keep id (n3 id hid)).append (g4 n2)
  · intro hmd a ha
    rcases List.mem_cons.1 ha with rfl | ha
    · exact hm hmd
    · exact g5 hmd a ha

mutual
theorem lend_run {α : Type} {call : CallF} {d : Nat} {x : α × R} : ∀ (v : V) {md : Md} {u : Value} {k : PA → List Back → M α} {B : Nat → Prop} {Sf : Id → Nat → Prop} {X : Nat → Prop} {r : R} {i0 : List Id}, (lend md v k).run call d r = some x → Inv c w B ρ Sf X r → RepV w B ρ r v u →
    Chg i0 r0 r → (∀ t, (r.getD t []).length = (r0.getD t []).length) → LendOut c w ρ r0 B Sf X r call d k x u md
  | .t t, md, u, k, B, Sf, X, r, i0, hrun, hI, hv, hc, hl => by
    simp only [lend] at hrun
    simp only [RepV] at hv
    exact ⟨_, _, [], fun _ => False, B, Sf, r, hrun, LendRes.refl hI (fun _ h => h) rfl, by simp only [PARep, ArgRep]; exact ⟨hv.1, hv.2, fun _ h => h, trivial⟩, fun _ => rfl, fun _ => ⟨_, rfl⟩⟩
  | .nil, md, u, k, B, Sf, X, r, i0, hrun, hI, hv, hc, hl => by
    simp only [RepV] at hv
    subst hv
    have sh : (k (.a (.t (.sl false []))) []).run call d r = some x → LendOut c w ρ r0 B Sf X r call d k x (.slice none 0 0) md := fun hrun =>
      ⟨_, _, [], fun _ => False, B, Sf, r, hrun, LendRes.refl hI (fun _ h => h) rfl, by
        simp only [PARep, ArgRep, ShC]
        exact ⟨⟨none, 0, rfl, Nat.le_refl _, by simp, .inl trivial⟩, rfl, fun _ h => h, trivial⟩, fun _ => rfl, fun _ => ⟨_, rfl⟩⟩
    cases md with
    | val => simp only [lend] at hrun; exact sh hrun
    | give => simp only [lend] at hrun; exact sh hrun
    | ref =>
      simp only [lend] at hrun
      exact ⟨_, _, [((none, 0), [])], fun _ => False, B, Sf, r, hrun, LendRes.refl hI (fun _ h => h) rfl, by
        simp only [PARep, ArgRep]
        exact ⟨none, 0, rfl, .inl ⟨rfl, rfl, rfl, fun _ h => h⟩, rfl⟩, fun _ => ⟨_, _, rfl, trivial, rfl⟩, fun _ => ⟨_, rfl⟩⟩
  | .agg cs, md, u, k, B, Sf, X, r, i0, hrun, hI, hv, hc, hl => by
    have go : md ≠ .val → (lends md cs fun as bs => k (.a (.agg (as.map PA.arg))) bs).run call d r = some x → LendOut c w ρ r0 B Sf X r call d k x u md := by
      intro hmd hrun
      simp only [RepV] at hv
      obtain ⟨us, rfl, hv⟩ := hv
      obtain ⟨pas, bs, ls, S, B1, Sf1, r1, g1, g2, g3, g4, g5⟩ := lends_run cs hrun hI hv hc hl
      exact ⟨_, bs, ls, S, B1, Sf1, r1, g1, g2, by simp only [PARep, ArgRep]; exact ⟨us, rfl, g3.args (g5 hmd)⟩, g4, fun _ => ⟨_, rfl⟩⟩
    cases md with
    | val =>
      simp only [lend] at hrun
      exact ⟨_, _, [], fun _ => False, B, Sf, r, hrun, LendRes.refl hI (fun _ h => h) rfl, ⟨hv, fun _ h => h, rfl⟩, fun _ => rfl, fun h => absurd rfl h⟩
    | ref => simp only [lend] at hrun; exact go (by simp) hrun
    | give => simp only [lend] at hrun; exact go (by simp) hrun
  | .ref id n, md, u, k, B, Sf, X, r, i0, hrun, hI, hv, hc, hl => by
    have hv0 := hv
    simp only [RepV] at hv
    have hth0 : There r0 id := by unfold There; rw [← hl]; exact hv.1
    cases md with
    | val =>
      simp only [lend] at hrun
      exact ⟨_, _, [], fun _ => False, B, Sf, r, hrun, LendRes.refl hI (fun _ h => h) rfl, ⟨hv0, fun _ h => h, rfl⟩, fun _ => rfl, fun h => absurd rfl h⟩
    | ref =>
      simp only [lend, M.run] at hrun
      cases he : getE r id with
      | dead => rw [he] at hrun; simp [M.run] at hrun
      | mem rows stt fx =>
        rw [he] at hrun
        simp only at hrun
        split at hrun
        · rename_i hlen
          simp only [M.run] at hrun
          obtain ⟨hm, hfx⟩ := hI.mem he
          have hu := (hv.2.2 rows stt fx he).2 hlen
          refine ⟨_, _, [(ρ id, rows)], Sf id, B, _, _, hrun, lend_root hI he, ?_, ?_, fun _ => ⟨_, rfl⟩⟩
          · simp only [PARep, ArgRep]
            exact ⟨_, _, by rw [hlen]; exact hu, hm, rfl⟩
          · intro _
            exact ⟨_, _, rfl, ⟨rfl, hth0, chg_le hc he hth0, hfx⟩, rfl⟩
        · simp [M.run] at hrun
    | give =>
      simp only [lend, M.run] at hrun
      cases he : getE r id with
      | dead => rw [he] at hrun; simp [M.run] at hrun
      | mem rows stt fx =>
        rw [he] at hrun
        simp only at hrun
        split at hrun
        · rename_i hlen
          simp only [M.run] at hrun
          obtain ⟨hm, hfx⟩ := hI.mem he
          have hu := (hv.2.2 rows stt fx he).2 hlen
          have hL := lend_root (r0 := r0) hI he
          have hsh := hL.inv.share (Y := Sf id) (X' := X) (fun b hb => .inr hb) (fun b hb => .inl hb) (fun b hb hb' => hI.xd id b hb hb')
          refine ⟨_, _, [], fun _ => False, fun b => B b ∨ Sf id b, _, _, hrun, ⟨hsh.congrX (fun b => by simp), fun v u hh => claims_world (fun _ h => .inl h) (fun _ _ => rfl) (fun j => kept_refl hL.inv j) (hL.claims v u hh), fun i0 hh => by rw [show backIds [] = [] from rfl, List.append_nil]; have := chg_dead (id := id) (extra := []) (by simp) hh; rwa [List.append_nil] at this, hL.len, hL.size, hL.sub, fun b hb => .inl hb, fun b hb => hb.imp (fun h => h) (fun h => ⟨id, h⟩), fun _ h => h.elim, fun _ h => h.elim, fun j _ => ?_⟩, ?_, fun _ => rfl, fun _ => ⟨_, rfl⟩⟩
          · by_cases e : id = j
            · subst e; exact .inr (getE_setE_same hv.1 _)
            · exact .inl (getE_setE_other e _)
          · simp only [PARep, ArgRep]
            have hf := OwC.frz (B := B) (B' := fun b => B b ∨ Sf id b) (fun _ h => .inl h) (t := .sl true rows) (u := u) (S := Sf id) (fun _ h => .inr h) (OwC_sl.2 ⟨_, _, by rw [hlen]; exact hu, hm⟩)
            simp only [TT.frz] at hf
            exact ⟨hf, by rw [hu]; rfl, fun _ h => h, trivial⟩
        · simp [M.run] at hrun
  | .sub id p i k' n st, md, u, k, B, Sf, X, r, i0, hrun, hI, hv, hc, hl => by
    have hv0 := hv
    simp only [RepV] at hv
    have hth0 : There r0 id := by unfold There; rw [← hl]; exact hv.1
    cases md with
    | val =>
      simp only [lend] at hrun
      exact ⟨_, _, [], fun _ => False, B, Sf, r, hrun, LendRes.refl hI (fun _ h => h) rfl, ⟨hv0, fun _ h => h, rfl⟩, fun _ => rfl, fun h => absurd rfl h⟩
    | give => simp [lend, M.run] at hrun
    | ref =>
      simp only [lend, M.run] at hrun
      cases he : getE r id with
      | dead => rw [he] at hrun; simp [M.run] at hrun
      | mem rows stt fx =>
        rw [he] at hrun
        simp only at hrun
        split at hrun
        · rename_i hs
          cases hg : getC rows p i k' with
          | none => rw [hg] at hrun; simp [M.run] at hrun
          | some t =>
            rw [hg] at hrun
            cases t with
            | v y => simp [M.run] at hrun
            | hole => simp [M.run] at hrun
            | sl ow rs => cases ow with
              | false => simp [M.run] at hrun
              | true =>
                simp only at hrun
                split at hrun
                · rename_i hlen
                  simp only [M.run] at hrun
                  obtain ⟨Sf1, S, b, o, q, cap, h1, h2, h3, h4, h5⟩ := lend_cell (r0 := r0) hI he hg
                  obtain ⟨b', o', m1, m2⟩ := ((hv.2.2 rows stt fx he).2 hs).2 rs hg hlen
                  obtain ⟨rfl, rfl⟩ := LocAt.unique p h2 m1
                  rw [h3] at m2
                  simp only [Option.some.injEq] at m2
                  refine ⟨_, _, [((q, cap), rs)], S, B, Sf1, _, hrun, h1, ?_, fun _ => ⟨_, _, rfl, h5 hth0, rfl⟩, fun _ => ⟨_, rfl⟩⟩
                  simp only [PARep, ArgRep]
                  exact ⟨q, cap, m2.symm, h4, rfl⟩
                · simp [M.run] at hrun
        · simp [M.run] at hrun
  | .ptr id p i off n st, md, u, k, B, Sf, X, r, i0, hrun, hI, hv, hc, hl => by
    simp only [RepV] at hv
    have hth0 : There r0 id := by unfold There; rw [← hl]; exact hv.1
    simp only [lend] at hrun
    split at hrun
    · rename_i hcond
      simp only [Bool.and_eq_true, List.isEmpty_iff, decide_eq_true_eq, beq_iff_eq] at hcond
      obtain ⟨⟨rfl, rfl⟩, rfl⟩ := hcond
      simp only [M.run] at hrun
      split at hrun
      · rename_i cells stt fx he
        split at hrun
        · rename_i hoff
          simp only [M.run] at hrun
          obtain ⟨hm, hfx⟩ := hI.mem he
          obtain ⟨_, ad, rfl, hp⟩ := hv
          obtain ⟨_, g2⟩ := (hp _ _ _ he).2.2 (fun _ => rfl) (fun h => absurd rfl h)
          obtain ⟨b, o, ⟨l1, row, l2, l3, l4⟩, rfl⟩ := g2 cells (by simp [getP]) hoff
          refine ⟨_, _, [(ρ id, [cells])], Sf id, B, _, _, hrun, lend_root hI he, ?_, fun _ => ⟨_, _, rfl, ⟨rfl, hth0, chg_le hc he hth0, hfx⟩, rfl⟩, fun _ => ⟨_, rfl⟩⟩
          simp only [PARep, ArgRep]
          refine ⟨b, (ρ id).2, by rw [l4]; simp, hoff, by rw [← l1]; exact hm, ?_⟩
          rw [← l1]
        · simp [M.run] at hrun
      · simp [M.run] at hrun
    · simp [M.run] at hrun
  | .pp cs, md, u, k, B, Sf, X, r, i0, hrun, hI, hv, hc, hl => by
    simp only [lend] at hrun
    simp only [RepV] at hv
    exact ⟨_, _, [], fun _ => False, B, Sf, r, hrun, LendRes.refl hI (fun _ h => h) rfl, by simp only [PARep, ArgRep]; exact ⟨hv, fun _ h => h, trivial⟩, fun _ => rfl, fun _ => ⟨_, rfl⟩⟩
  | .fn f caps, md, u, k, B, Sf, X, r, i0, hrun, hI, hv, hc, hl => by
    simp only [lend] at hrun
    simp only [RepV] at hv
    obtain ⟨us, rfl, hv⟩ := hv
    obtain ⟨pas, bs, ls, S, B1, Sf1, r1, g1, g2, g3, g4, g5⟩ := lends_run caps hrun hI hv hc hl
    exact ⟨_, bs, ls, S, B1, Sf1, r1, g1, g2, by simp only [PARep, ArgRep]; exact ⟨us, rfl, g3.args (g5 (by simp))⟩, g4, fun _ => ⟨_, rfl⟩⟩
  | .tup vs, md, u, k, B, Sf, X, r, i0, hrun, hI, hv, hc, hl => by simp [lend, M.run] at hrun
  | .dead, md, u, k, B, Sf, X, r, i0, hrun, hI, hv, hc, hl => by simp [lend, M.run] at hrun
theorem lends_run {α : Type} {call : CallF} {d : Nat} {x : α × R} : ∀ (vs : List V) {md : Md} {us : List Value} {k : List PA → List Back → M α} {B : Nat → Prop} {Sf : Id → Nat → Prop} {X : Nat → Prop} {r : R} {i0 : List Id}, (lends md vs k).run call d r = some x → Inv c w B ρ Sf X r → RepVs w B ρ r vs us →
    Chg i0 r0 r → (∀ t, (r.getD t []).length = (r0.getD t []).length) → LendOuts c w ρ r0 B Sf X r call d k x us md
  | [], md, us, k, B, Sf, X, r, i0, hrun, hI, hv, hc, hl => by
    simp only [lends] at hrun
    simp only [RepVs] at hv
    exact ⟨[], [], [], fun _ => False, B, Sf, r, hrun, LendRes.refl hI (fun _ h => h) rfl, by simp only [PAReps]; exact ⟨hv, fun _ h => h, trivial⟩, fun _ => rfl, fun _ => by simp⟩
  | v :: vs, md, us, k, B, Sf, X, r, i0, hrun, hI, hv, hc, hl => by
    simp only [lends] at hrun
    simp only [RepVs] at hv
    obtain ⟨u, us', rfl, h1, h2⟩ := hv
    obtain ⟨pa, bs, ls, S, B1, Sf1, r1, g1, g2, g3, g4, g5⟩ := lend_run v hrun hI h1 hc hl
    exact lend_join g2 g3 g4 g5 (lends_run vs g1 g2.inv (RepVs.next g2.claims h2) (g2.chg _ hc) (fun t => (g2.len t).trans (hl t)))
end

theorem lendEach_run {α : Type} {call : CallF} {d : Nat} {x : α × R} : ∀ (vs : List V) {mds : List Md} {us : List Value} {k : List PA → List Back → M α} {B : Nat → Prop} {Sf : Id → Nat → Prop} {X : Nat → Prop} {r : R} {i0 : List Id}, (lendEach mds vs k).run call d r = some x → Inv c w B ρ Sf X r → RepVs w B ρ r vs us →
    Chg i0 r0 r → (∀ t, (r.getD t []).length = (r0.getD t []).length) → LendOuts c w ρ r0 B Sf X r call d k x us .val
  | [], mds, us, k, B, Sf, X, r, i0, hrun, hI, hv, hc, hl => by
    simp only [RepVs] at hv
    have hrun' : (k [] []).run call d r = some x := by cases mds <;> simpa only [lendEach] using hrun
    exact ⟨[], [], [], fun _ => False, B, Sf, r, hrun', LendRes.refl hI (fun _ h => h) rfl, by simp only [PAReps]; exact ⟨hv, fun _ h => h, trivial⟩, fun _ => rfl, fun h => absurd rfl h⟩
  | v :: vs, mds, us, k, B, Sf, X, r, i0, hrun, hI, hv, hc, hl => by
    simp only [lendEach] at hrun
    simp only [RepVs] at hv
    obtain ⟨u, us', rfl, h1, h2⟩ := hv
    obtain ⟨pa, bs, ls, S, B1, Sf1, r1, g1, g2, g3, g4, g5⟩ := lend_run v hrun hI h1 hc hl
    exact lend_join g2 g3 g4 (fun h => absurd rfl h) (lendEach_run vs g1 g2.inv (RepVs.next g2.claims h2) (g2.chg _ hc) (fun t => (g2.len t).trans (hl t)))

end
end TT
