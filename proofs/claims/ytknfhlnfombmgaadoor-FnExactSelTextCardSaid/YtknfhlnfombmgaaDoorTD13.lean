import Derived.Test.YtknfhlnfombmgaaDoorTD12
set_option linter.unusedVariables false
set_option linter.unusedSimpArgs false
namespace TT
open Go

section
variable {P : Program} {c : Ctx} {w w' : World} {B : Nat → Prop} {ρ : Id → Loc} {Sf : Id → Nat → Prop} {X : Nat → Prop} {r : R} {a : Act} {o : Oper} {id0 : Id}

/-- The operation gives nothing and leaves w'. -/
def Skips (P : Program) (o : Oper) (a : Act) (w : World) (w' : World) : Prop := (execOp a.eval o).run P w = .ok .skip w'

def stB (P : Program) (t : TypeId) (n : Nat) : Bool := match P.info? t with | some i => i.size == n && decide (0 < n) | none => false

theorem store_skips {t : TypeId} {n : Nat} {x y : Operand} (h : o.op = .store t x y) (hb : stB P t n = true) {ad : Addr} (hx : a.eval x = .pointer (some ad)) (hn : (a.eval y).cells.size = n) (hrun : (storeCells ad (a.eval y).cells.toList 0).run P w = .ok () w') : Skips P o a w w' := by
  unfold stB at hb
  cases hi : P.info? t with
  | none => rw [hi] at hb; cases hb
  | some i =>
    rw [hi] at hb
    simp only [Bool.and_eq_true, beq_iff_eq] at hb
    have h1 : (Instr.storeAt t (.pointer (some ad)) (a.eval y)).run P w = .ok () w' := by
      simp only [Instr.storeAt, Instr.sureAddr, storeVar]
      simp [Sem.run_bind, size_run hi, hb.1, hn, hrun]
    unfold Skips execOp
    rw [h]
    simp only [hx]
    rw [Sem.run_bind, h1]
    rfl

theorem st_ok (hI : Inv c w B ρ Sf (fun _ => False) r) {t : TypeId} {n : Nat} {y z : Operand} (h : o.op = .store t y z) (hb : stB P t n = true) {v : V} (hv : RepV w B ρ r v (a.eval z)) {id : Id} {p : Path} {i off m st : Nat}
    (hp : RepV w B ρ r (.ptr id p i off m st) (a.eval y)) {call : CallF} {d : Nat} {x : V × R}
    (hrun : (takes (cellsOf v) fun ts => .get id fun
        | .mem rows stt fx => (match ptrRow rows stt p i m st with
          | some row => if ts.length = n ∧ off + n ≤ row.length then
              .set id (.mem (setCs rows p i off ts) (stt + 1) fx) (.ret .dead) else .fail
          | none => .fail)
        | _ => .fail).run call d r = some x) :
    ∃ w' Sf', Skips P o a w w' ∧ Inv c w' B ρ Sf' (fun _ => False) x.2 ∧ x.2.length = r.length ∧ (∀ v u, RepV w B ρ r v u → RepV w' B ρ x.2 v u) ∧ x.1 = .dead := by
  have hnd : v ≠ .dead := fun e => by subst e; exact takes_dead hrun
  obtain ⟨ts, S, Sf1, r1, g1, g2, g3, g4, g5, g6, g7⟩ := takes_run hrun hI (cellsOf_rep hv hnd)
  simp only [M.run] at g1
  cases h0 : getE r1 id with
  | dead => rw [h0] at g1; simp [M.run] at g1
  | mem rows stt fx =>
    rw [h0] at g1
    simp only at g1
    cases hpr : ptrRow rows stt p i m st with
    | none => rw [hpr] at g1; simp [M.run] at g1
    | some row =>
      rw [hpr] at g1
      simp only at g1
      split at g1
      · rename_i hc
        simp only [M.run, Option.some.injEq] at g1
        subst g1
        have hn0 : 0 < n := by
          unfold stB at hb
          cases hi : P.info? t with
          | none => rw [hi] at hb; cases hb
          | some i => rw [hi] at hb; simp only [Bool.and_eq_true, decide_eq_true_eq] at hb; exact hb.2
        obtain ⟨b, k, us, e1, _, _, _, hloc⟩ := ptr_cells g3 h0 (g5.claims _ _ hp) hpr hn0 hc.2
        obtain ⟨r1', r2', r3'⟩ := ptrRow_row hpr
        obtain ⟨ho, hfx⟩ := g3.mem h0
        have hSb : Sf1 id b := by
          have hlt : off < row.length := by omega
          obtain ⟨b', k', cur, e, u0, S1, S2, l1, l2, l3, l4, l5, l6, l7, l8⟩ := OwS.lens p ho (show getC rows p i off = some row[off] by rw [getC_of_row r1']; simp [hlt])
          obtain ⟨rfl, rfl⟩ := LocAt.unique p l1 hloc
          exact l6.right l7
        obtain ⟨w2, m1, m2, m3, m4, m5, m6, S', m7, m8⟩ := stores_own (P := P) ts (k := k) (j := 0) ho r1' (by omega) (fun _ => hloc) g2 (fun x hx hx' => g3.xd id x (.inr hx) hx') (fun x hx => g3.nb id x hx) (fun x hx => g3.xb x (.inr hx))
        obtain ⟨Sf2, n1, n2⟩ := g3.turn (w' := w2) (ρ' := ρ) (rows' := setCs rows p i off ts) (stt' := stt + 1) (fx' := fx) h0 (fun x hx hX hS => m3 x (fun e => hS (e ▸ hSb))) (by omega) m4 m5 m6 (fun _ _ => rfl) m7 (fun x hx => by
            rcases m8 x hx with h | h
            · exact .inr (.inr h)
            · exact .inr (.inl (.inr h))) (fun hf => ⟨(hfx hf).1, by rw [setCs_length]; exact (hfx hf).2⟩)
          (fun hk hB v u hh => claims_bump h0 (setCs_length ..) (fun i row' hr => setCs_rows ts i row' hr) (Nat.lt_succ_self _) (fun _ h => h) hB hk hh)
        have hsz : (a.eval z).cells.size = n := by
          have := OwVs.length g2
          rw [← hc.1, ← this]; simp
        exact ⟨w2, Sf2, store_skips h hb e1 hsz m1, n1, by rw [length_setE, g5.size], fun v u hh => n2 v u (g5.claims v u hh), rfl⟩
      · simp [M.run] at g1

/-! ### A whole struct into a box whose cells the slot tells -/

theorem storeCells_get {b : Nat} : ∀ {us : List Value} {w w2 : World} {j : Nat} {cur : Array Value} {e : TypeId}, (storeCells ⟨b, 0, none⟩ us j).run P w = .ok () w2 → w.heap[b]? = some (.cells cur e (0, 0)) → (∀ u ∈ us, u.oneCell' = true) → j + us.length ≤ cur.size →
    (∀ (i : Nat) u, us[i]? = some u → w2.cell? ⟨b, j + i, none⟩ = some u) ∧ ∀ i, i < j → w2.cell? ⟨b, i, none⟩ = w.cell? ⟨b, i, none⟩
  | [], w, w2, j, cur, e, hrun, hb, h1, hl => by
    have : w2 = w := by
      have hrun' : (pure () : Sem Unit).run P w = .ok () w2 := hrun
      simp at hrun'
      exact hrun'.symm
    subst this
    exact ⟨fun i u h => by simp at h, fun _ _ => rfl⟩
  | u :: us, w, w2, j, cur, e, hrun, hb, h1, hl => by
    have hj : j < cur.size := by simp at hl; omega
    have hs := store_own (P := P) (k := j) hb (show cur[j]? = some cur[j] by simp [hj]) (h1 u (List.mem_cons_self ..))
    simp only [storeCells, add_addr, Nat.zero_add] at hrun
    rw [Sem.run_bind, hs] at hrun
    obtain ⟨g1, g2⟩ := storeCells_get (us := us) (j := j + 1) hrun (setCell_heap hb) (fun u hu => h1 u (List.mem_cons_of_mem _ hu)) (by simp at hl ⊢; omega)
    refine ⟨fun i v hi => ?_, fun i hi => ?_⟩
    · cases i with
      | zero =>
        simp only [List.getElem?_cons_zero, Option.some.injEq] at hi
        subst hi
        rw [Nat.add_zero, g2 j (Nat.lt_succ_self _), cell_row (setCell_heap hb)]
        simp [hj]
      | succ i =>
        have := g1 i v (by simpa using hi)
        rwa [show j + 1 + i = j + (i + 1) by omega] at this
    · rw [g2 i (by omega), cell_row (setCell_heap hb), cell_row hb, Array.getElem?_setIfInBounds_ne (by omega)]

theorem setCs_one : ∀ (ts pre rest : List T), ts.length ≤ rest.length → setCs [pre ++ rest] [] 0 pre.length ts = [pre ++ ts ++ rest.drop ts.length]
  | [], pre, rest, h => by simp [setCs]
  | t :: ts, pre, [], h => by simp at h
  | t :: ts, pre, x :: rest, h => by
    have h1 : setC [pre ++ x :: rest] [] 0 pre.length t = [(pre ++ [t]) ++ rest] := by
      simp [setC, setRC]
    simp only [setCs, h1]
    have := setCs_one ts (pre ++ [t]) rest (by simpa using h)
    rw [show pre.length + 1 = (pre ++ [t]).length by simp, this]
    simp

theorem boxId_ptr {v : V} {id : Id} {u : Value} (h : boxId v = some id) (hv : RepV w B ρ r v u) : RepV w B ρ r (.ptr id [] 0 0 1 0) u := by
  cases v with
  | ptr id' p i off m st =>
    simp only [boxId] at h
    split at h
    · rename_i hc
      simp only [Bool.and_eq_true, beq_iff_eq, List.isEmpty_iff] at hc
      obtain ⟨rfl, rfl, rfl, rfl⟩ := hc
      cases h
      simp only [RepV] at hv ⊢
      obtain ⟨h1, ad, h2, h3⟩ := hv
      refine ⟨h1, ad, h2, fun rows stt fx hg => ?_⟩
      obtain ⟨k1, k2, k3⟩ := h3 rows stt fx hg
      exact ⟨k1, fun e => absurd rfl e, fun e _ => ⟨fun e => absurd rfl e, (k3 e fun e => absurd rfl e).2⟩⟩
    · cases h
  | vb id' off st cs =>
    simp only [boxId] at h
    split at h
    · rename_i hc
      simp only [beq_iff_eq] at hc
      subst hc
      cases h
      simp only [RepV] at hv ⊢
      exact ⟨hv.1, hv.2.1⟩
    · cases h
  | _ => simp [boxId] at h

theorem vst_ok (hI : Inv c w B ρ Sf (fun _ => False) r) {t : TypeId} {n : Nat} {y z : Operand} (h : o.op = .store t y z) (hb : stB P t n = true) {cs : List V} (hv : RepV w B ρ r (.agg cs) (a.eval z)) {v : V} {id : Id} (hid : boxId v = some id)
    (hp : RepV w B ρ r v (a.eval y)) (hlen : cs.length = n) (hone : cs.all V.one = true) {row : List T} {stt : Nat} {fx : Bool} (h0 : getE r id = .mem [row] stt fx) (hrow : row.length = n) :
    ∃ w' Sf', Skips P o a w w' ∧ Inv c w' B ρ Sf' (fun _ => False) (setE r id (.mem [List.replicate n .hole] (stt + 1) fx)) ∧ (∀ v u, RepV w B ρ r v u → RepV w' B ρ (setE r id (.mem [List.replicate n .hole] (stt + 1) fx)) v u) ∧
      RepV w' B ρ (setE r id (.mem [List.replicate n .hole] (stt + 1) fx)) (.vb id 0 (stt + 1) cs) (a.eval y) := by
  have hn0 : 0 < n := by
    unfold stB at hb
    cases hi : P.info? t with
    | none => rw [hi] at hb; cases hb
    | some i => rw [hi] at hb; simp only [Bool.and_eq_true, decide_eq_true_eq] at hb; exact hb.2
  have hptr := boxId_ptr hid hp
  have hptr0 := hptr
  simp only [RepV] at hptr
  obtain ⟨hth, ad, had, hP⟩ := hptr
  obtain ⟨b, k, hloc, hadr⟩ := ((hP _ _ _ h0).2.2 (fun _ => rfl) (fun e => absurd rfl e)).2 row (by simp [getP]) (by omega)
  have hloc0 := hloc
  obtain ⟨hq, row1, hr1, hlt, hk⟩ := hloc
  simp only [Nat.zero_mul, Nat.zero_add] at hk
  subst hk
  have had' : a.eval y = .pointer (some ⟨b, 0, none⟩) := by rw [had, hadr]
  have hv0 := hv
  simp only [RepV] at hv
  obtain ⟨us, hu, hvs⟩ := hv
  have hcells : (a.eval z).cells = us := by rw [hu]; rfl
  have hul := RepVs.length hvs
  obtain ⟨ho, hfx⟩ := hI.mem h0
  have hO : OwVs w B (List.replicate n .hole) us.toList (fun _ => False) := by rw [← hlen]; exact OwVs.holes hvs hone
  have hSb : Sf id b ∧ ∃ cur e, w.heap[b]? = some (.cells cur e (0, 0)) ∧ n ≤ cur.size := by
    have hr0 : ∀ j, j < n → getC [row] [] 0 j = some (row.getD j .hole) := fun j hj => by
      rw [getC_of_row (row := row) (by simp [getP])]
      simp [hrow, hj]
    obtain ⟨b', k', cur, e, u0, S1, S2, l1, l2, l3, l4, l5, l6, l7, l8⟩ := OwS.lens [] ho (hr0 0 hn0)
    obtain ⟨rfl, rfl⟩ := LocAt.unique [] l1 hloc0
    refine ⟨l6.right l7, cur, e, l2, ?_⟩
    obtain ⟨b2, k2, cur2, e2, u2, S12, S22, m1, m2, m3, m4, m5, m6, m7, m8⟩ := OwS.lens [] ho (hr0 (n - 1) (by omega))
    obtain ⟨m1a, row2, m1b, m1c, m1d⟩ := m1
    rw [hq] at m1a
    simp only [Option.some.injEq, Addr.mk.injEq, and_true] at m1a
    subst m1a
    rw [l2] at m2
    cases m2
    have := (Array.getElem?_eq_some_iff.1 m3).1
    omega
  obtain ⟨hSb, cur, e, hheap, hsz⟩ := hSb
  obtain ⟨w2, m1, m2, m3, m4, m5, m6, S', m7, m8⟩ := stores_own (P := P) (List.replicate n .hole) (k := 0) (cc := 0) (j := 0) ho (i := 0) (p := []) (row := row) (by simp [getP]) (by simp; omega) (fun _ => hloc0) hO (fun x hx => hx.elim) (fun x hx => hI.nb id x hx) (fun x hx => hx.elim)
  have hset : setCs [row] [] 0 0 (List.replicate n T.hole) = [List.replicate n .hole] := by
    have := setCs_one (List.replicate n T.hole) [] row (by simp; omega)
    simpa [← hrow] using this
  rw [hset] at m7
  obtain ⟨Sf2, n1, n2⟩ := hI.turn (w' := w2) (ρ' := ρ) (rows' := [List.replicate n .hole]) (stt' := stt + 1) (fx' := fx) h0 (fun x hx hX hS => m3 x (fun e => hS (e ▸ hSb))) (by omega) m4 m5 m6 (fun _ _ => rfl) m7 (fun x hx => by
      rcases m8 x hx with h | h
      · exact .inr (.inr h)
      · exact h.elim) (fun hf => ⟨(hfx hf).1, (hfx hf).2⟩)
    (fun hk hB v u hh => claims_bump (rows' := [List.replicate n .hole]) h0 rfl (fun i row' hr => by
      cases i with
      | zero => simp only [List.getElem?_cons_zero, Option.some.injEq] at hr; subst hr; exact ⟨row, rfl, by simp [hrow]⟩
      | succ i => simp at hr) (Nat.lt_succ_self _) (fun _ h => h) hB hk hh)
  obtain ⟨c1, _⟩ := storeCells_get m1 hheap (fun u hu => OwVs.one hO u hu) (by simp only [Nat.zero_add, Array.length_toList]; have : us.toList.length = us.size := Array.length_toList; omega)
  refine ⟨w2, Sf2, store_skips h hb had' (by rw [hcells, ← hlen, ← hul]; simp) (by rw [hcells]; exact m1), n1, n2, ?_⟩
  have hp2 := n2 _ _ hptr0
  have hv2 := n2 _ _ hv0
  simp only [RepV] at hp2 hv2 ⊢
  obtain ⟨p1, p2⟩ := hp2
  obtain ⟨us', e1, e2⟩ := hv2
  rw [hu] at e1
  cases e1
  refine ⟨p1, p2, us.toList, e2, fun rows stt' fx' hg => ?_⟩
  rw [getE_setE_same hth] at hg
  simp only [Ent.mem.injEq] at hg
  obtain ⟨rfl, rfl, rfl⟩ := hg
  refine ⟨by simp, Nat.le_refl _, fun _ _ => ⟨_, b, rfl, by rw [List.length_replicate, hul, hlen], hq, fun j u hj => ?_⟩⟩
  have := c1 j u hj
  rwa [Nat.zero_add] at this

/-! ### append -/

/-- The rows that an owned slice shows. -/
theorem OwR.values {b : Nat} : ∀ {ts : List T} {o : Nat} {S : Nat → Prop}, OwR w B b o ts S → ∃ us, OwVs w B ts us S ∧ Cells w b o us
  | [], o, S, h => ⟨[], by simp only [OwR] at h; simp only [OwVs]; exact ⟨trivial, h⟩, fun j u hj => by simp at hj⟩
  | t :: ts, o, S, h => by
    simp only [OwR] at h
    obtain ⟨u, S1, S2, h1, h2, h3, h4, h5⟩ := h
    obtain ⟨us, g1, g2⟩ := OwR.values h4
    refine ⟨u :: us, ?_, Cells.cons h1 g2⟩
    simp only [OwVs]
    exact ⟨u, us, S1, S2, rfl, h2, h3, g1, h5⟩

theorem Cells.append {b k n : Nat} {us us' : List Value} (hn : us.length = n) (h : Cells w b k us) (h' : Cells w b (k + n) us') : Cells w b k (us ++ us') := by
  intro j u hj
  by_cases hl : j < us.length
  · rw [List.getElem?_append_left hl] at hj; exact h j u hj
  · rw [List.getElem?_append_right (by omega)] at hj
    have := h' _ u hj
    rwa [show k + n + (j - us.length) = k + j by omega] at this

theorem OwRs.values {b sz : Nat} : ∀ {rs : Rows} {o : Nat} {S : Nat → Prop}, OwRs w B b o sz rs S → ∃ uss, OwVss w B sz rs uss S ∧ Cells w b o uss.flatten
  | [], o, S, h => ⟨[], by simp only [OwRs] at h; simp only [OwVss]; exact ⟨trivial, h⟩, fun j u hj => by simp at hj⟩
  | t :: ts, o, S, h => by
    simp only [OwRs] at h
    obtain ⟨S1, S2, h1, h2, h3, h4⟩ := h
    obtain ⟨us, g1, g2⟩ := OwR.values h2
    obtain ⟨uss, g3, g4⟩ := OwRs.values h3
    refine ⟨us :: uss, ?_, ?_⟩
    · simp only [OwVss]
      exact ⟨us, uss, S1, S2, rfl, h1, g1, g3, h4⟩
    · rw [List.flatten_cons]
      exact Cells.append (by rw [OwVs.length g1, h1]) g2 g4

theorem ShR.values {b : Nat} : ∀ {ts : List T} {o : Nat}, ShR w B b o ts → ∃ us, OwVs w B ts us (fun _ => False) ∧ Cells w b o us
  | [], o, h => ⟨[], by simp only [OwVs]; exact ⟨trivial, fun _ h => h⟩, fun j u hj => by simp at hj⟩
  | t :: ts, o, h => by
    simp only [ShR] at h
    obtain ⟨⟨u, h1, h2, h3⟩, h4⟩ := h
    obtain ⟨us, g1, g2⟩ := ShR.values h4
    refine ⟨u :: us, ?_, Cells.cons h1 g2⟩
    simp only [OwVs]
    refine ⟨u, us, fun _ => False, fun _ => False, rfl, h2, ?_, g1, ⟨fun b => by simp, fun b (h : False) => h.elim⟩⟩
    cases t with
    | v x => simp only [ShC] at h3; simp only [OwC]; exact ⟨h3, fun _ h => h⟩
    | hole => simp only [OwC]; exact fun _ h => h
    | sl ow rows => cases ow with
      | true => simp only [ShC] at h3
      | false => simp only [OwC]; exact ⟨h3, fun _ h => h⟩

theorem ShRs.values {b sz : Nat} : ∀ {rs : Rows} {o : Nat}, ShRs w B b o sz rs → ∃ uss, OwVss w B sz rs uss (fun _ => False) ∧ Cells w b o uss.flatten
  | [], o, h => ⟨[], by simp only [OwVss]; exact ⟨trivial, fun _ h => h⟩, fun j u hj => by simp at hj⟩
  | t :: ts, o, h => by
    simp only [ShRs] at h
    obtain ⟨h1, h2, h3⟩ := h
    obtain ⟨us, g1, g2⟩ := ShR.values h2
    obtain ⟨uss, g3, g4⟩ := ShRs.values h3
    refine ⟨us :: uss, ?_, ?_⟩
    · simp only [OwVss]
      exact ⟨us, uss, _, _, rfl, h1, g1, g3, ⟨fun b => by simp, fun b (h : False) => h.elim⟩⟩
    · rw [List.flatten_cons]
      exact Cells.append (by rw [OwVs.length g1, h1]) g2 g4

theorem OwVss.resz {sz sz' : Nat} : ∀ {ts : Rows} {uss : List (List Value)} {S : Nat → Prop}, OwVss w B sz ts uss S → (∀ t ∈ ts, t.length = sz') → OwVss w B sz' ts uss S
  | [], uss, S, h, _ => by simpa only [OwVss] using h
  | t :: ts, uss, S, h, ha => by
    simp only [OwVss] at h ⊢
    obtain ⟨us, uss', S1, S2, rfl, h1, h2, h3, h4⟩ := h
    exact ⟨us, uss', S1, S2, rfl, ha t (List.mem_cons_self ..), h2, OwVss.resz h3 fun t ht => ha t (List.mem_cons_of_mem _ ht), h4⟩

theorem OwVss.append {sz : Nat} : ∀ {ts ts' : Rows} {uss uss' : List (List Value)} {S S' : Nat → Prop}, OwVss w B sz ts uss S → OwVss w B sz ts' uss' S' → (∀ b, S b → ¬ S' b) → OwVss w B sz (ts ++ ts') (uss ++ uss') (fun b => S b ∨ S' b)
  | [], ts', uss, uss', S, S', h, h', hd => by
    simp only [OwVss] at h
    obtain ⟨rfl, he⟩ := h
    have : (fun b => S b ∨ S' b) = S' := funext fun b => propext ⟨fun h => h.resolve_left (he b), .inr⟩
    rw [this]; exact h'
  | t :: ts, ts', uss, uss', S, S', h, h', hd => by
    simp only [OwVss] at h
    obtain ⟨us, uss1, S1, S2, rfl, h1, h2, h3, h4⟩ := h
    simp only [List.cons_append, OwVss]
    refine ⟨us, uss1 ++ uss', S1, _, rfl, h1, h2, OwVss.append h3 h' (fun b hb => hd b (h4.right hb)), ⟨fun b => ?_, fun b hb hb' => ?_⟩⟩
    · show (S b ∨ S' b) ↔ _
      rw [h4.1]; exact or_assoc
    · rcases hb' with h | h
      · exact h4.2 b hb h
      · exact hd b (h4.left hb) h

theorem OwVss.one {sz : Nat} : ∀ {ts : Rows} {uss : List (List Value)} {S : Nat → Prop}, OwVss w B sz ts uss S → ∀ u ∈ uss.flatten, u.oneCell' = true
  | [], uss, S, h => by simp only [OwVss] at h; simp [h.1]
  | t :: ts, uss, S, h => by
    simp only [OwVss] at h
    obtain ⟨us, uss', S1, S2, rfl, h1, h2, h3, h4⟩ := h
    intro u hu
    rw [List.flatten_cons] at hu
    rcases List.mem_append.1 hu with hu | hu
    · exact OwVs.one h2 u hu
    · exact OwVss.one h3 u hu

theorem OwVss.flat {sz : Nat} : ∀ {ts : Rows} {uss : List (List Value)} {S : Nat → Prop}, OwVss w B sz ts uss S → uss.flatten.length = ts.length * sz
  | [], uss, S, h => by simp only [OwVss] at h; simp [h.1]
  | t :: ts, uss, S, h => by
    simp only [OwVss] at h
    obtain ⟨us, uss', S1, S2, rfl, h1, h2, h3, h4⟩ := h
    rw [List.flatten_cons, List.length_append, OwVss.flat h3, OwVs.length h2, h1, List.length_cons, Nat.succ_mul, Nat.add_comm]

end
end TT
