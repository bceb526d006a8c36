import Derived.Test.YtknfhlnfombmgaaDoorTD6
set_option linter.unusedVariables false
set_option linter.unusedSimpArgs false
namespace TT
open Go

/-! ### Places: neighbours, and what stays when one is written -/

theorem LocAt.shift {w : World} : ∀ (p : Path) {q : Option Addr} {rows : Rows} {i c j b k : Nat} {row : List T}, LocAt w q rows p i c b k → (getP rows p).bind (·[i]?) = some row → c + j < row.length → LocAt w q rows p i (c + j) b (k + j)
  | [], q, rows, i, c, j, b, k, row, ⟨h1, row', h2, h3, h4⟩, hr, hl => by
    simp only [getP, Option.bind_some] at hr
    rw [h2] at hr
    simp only [Option.some.injEq] at hr
    subst hr
    exact ⟨h1, _, h2, hl, by omega⟩
  | (i0, c0) :: p, q, rows, i, c, j, b, k, row, ⟨b0, row0, rows1, q1, n1, cap1, h1, h2, h3, h4, h5⟩, hr, hl => by
    simp only [getP, h2, Option.bind_some, h3] at hr
    exact ⟨b0, row0, rows1, q1, n1, cap1, h1, h2, h3, h4, LocAt.shift p h5 hr hl⟩

theorem getC_of_row {rows : Rows} {p : Path} {i c : Nat} {row : List T} (h : (getP rows p).bind (·[i]?) = some row) : getC rows p i c = row[c]? := by
  simp only [getC]
  obtain ⟨rs, h1, h2⟩ := Option.bind_eq_some_iff.1 h
  rw [h1, Option.bind_some, h2, Option.bind_some]

theorem idx0_lt {rows : Rows} {p : Path} {i : Nat} {row : List T} (h : (getP rows p).bind (·[i]?) = some row) : idx0 p i < rows.length := by
  cases p with
  | nil =>
    simp only [getP, Option.bind_some] at h
    exact (List.getElem?_eq_some_iff.1 h).1
  | cons x p =>
    obtain ⟨i0, c0⟩ := x
    simp only [getP] at h
    simp only [idx0]
    cases h0 : rows[i0]? with
    | none => simp [h0] at h
    | some r => exact (List.getElem?_eq_some_iff.1 h0).1

theorem ptrRow_row {rows : Rows} {stt : Nat} {p : Path} {i n st : Nat} {row : List T} (h : ptrRow rows stt p i n st = some row) :
    (getP rows p).bind (·[i]?) = some row ∧ (p = [] → rows.length = n) ∧ (p ≠ [] → st = stt) := by
  unfold ptrRow at h
  split at h
  · split at h
    · rename_i e
      exact ⟨by simpa only [getP, Option.bind_some] using h, fun _ => e, fun h => absurd rfl h⟩
    · cases h
  · split at h
    · rename_i e
      exact ⟨h, ⟨fun h => (by cases h), fun _ => e⟩⟩
    · cases h

theorem LocAt.put {w w' : World} {B : Nat → Prop} : ∀ (p : Path) {q : Option Addr} {cap : Nat} {rows : Rows} {S : Nat → Prop} {i c b k : Nat} {t t' : T}, OwS w B q cap rows S → getC rows p i c = some t → LocAt w q rows p i c b k →
    (∀ x o, ¬ (x = b ∧ o = k) → w'.cell? ⟨x, o, none⟩ = w.cell? ⟨x, o, none⟩) → LocAt w' q (setC rows p i c t') p i c b k ∧ S b
  | [], q, cap, rows, S, i, c, b, k, t, t', ho, hg, ⟨h1, row, h2, h3, h4⟩, hs => by
    refine ⟨⟨h1, row.set c t', ?_, by simpa using h3, by simpa using h4⟩, ?_⟩
    · simp only [setC, setRC, h2]
      have := (List.getElem?_eq_some_iff.1 h2).1
      simp [this]
    · rcases ho with ⟨h, _⟩ | ⟨b', sz, e, cur, S', g3, g4, g5, g6, g7, g8, g9, g10⟩
      · rw [h] at h1; cases h1
      · rw [h1] at g3
        simp only [Option.some.injEq, Addr.mk.injEq, and_true] at g3
        subst g3
        exact g9.left rfl
  | (i0, c0) :: p, q, cap, rows, S, i, c, b, k, t, t', ho, hg, h, hs => by
    obtain ⟨b0, row, rows1, q1, n1, cap1, g1, g2, g3, g4, g5⟩ := h
    have hgc : getC rows [] i0 c0 = some (.sl true rows1) := by simp only [getC, getP, Option.bind_some, g2, g3]
    obtain ⟨b', k', cur, e, u, S1, S2, l1, l2, l3, l4, l5, l6, l7, _⟩ := OwS.lens [] ho hgc
    obtain ⟨e1, row', e2, e3, e4⟩ := l1
    rw [g1] at e1
    simp only [Option.some.injEq, Addr.mk.injEq, and_true] at e1
    subst e1
    rw [g2] at e2; cases e2
    have hc : w.cell? ⟨b0, i0 * row.length + c0, none⟩ = some u := by rw [cell_row l2, ← e4]; exact l3
    rw [hc] at g4
    simp only [Option.some.injEq] at g4
    obtain ⟨q2, cap2, hu, hs2⟩ := OwC_sl.1 l5
    rw [hu] at g4
    injection g4 with f1 f2 f3
    subst f1
    have hg' : getC rows1 p i c = some t := by
      have := hg
      simp only [getC, getP, g2, Option.bind_some, g3] at this
      exact this
    obtain ⟨m1, m2⟩ := LocAt.put p (t' := t') hs2 hg' g5 hs
    have hne : b0 ≠ b := fun e => by subst e; exact l6.2 b0 m2 l7
    refine ⟨⟨b0, row.set c0 (.sl true (setC rows1 p i c t')), setC rows1 p i c t', q2, n1, cap1, g1, ?_, ?_, ?_, m1⟩, l6.left m2⟩
    · simp only [setC, g2, Option.bind_some, g3, setRC]
      have := (List.getElem?_eq_some_iff.1 g2).1
      simp [this]
    · have := (List.getElem?_eq_some_iff.1 g3).1
      simp [this]
    · rw [List.length_set, hs _ _ (fun e => hne e.1), hc, hu, f2, f3]

/-! ### Loading -/

section
variable {P : Program} {c : Ctx} {w : World} {B : Nat → Prop} {ρ : Id → Loc} {Sf : Id → Nat → Prop} {X : Nat → Prop} {r : R} {a : Act} {o : Oper}

/-- Cells one behind the other in memory. -/
def Cells (w : World) (b k : Nat) (us : List Value) : Prop := ∀ (j : Nat) u, us[j]? = some u → w.cell? ⟨b, k + j, none⟩ = some u

theorem Cells.cons {b k : Nat} {u : Value} {us : List Value} (h0 : w.cell? ⟨b, k, none⟩ = some u) (h : Cells w b (k + 1) us) : Cells w b k (u :: us) := by
  intro j v hj
  cases j with
  | zero => simp at hj; subst hj; simpa using h0
  | succ j => have := h j v (by simpa using hj); rwa [show k + 1 + j = k + (j + 1) by omega] at this

def shapeU (ag : Bool) (us : List Value) : Value := if ag then .agg us.toArray else us.headD undef
def shapeV (ag : Bool) (vs : List V) : V := if ag then .agg vs else vs.headD .dead

theorem shape_rep {ag : Bool} {vs : List V} {us : List Value} (h : RepVs w B ρ r vs us) (hl : ag = false → vs.length = 1) : RepV w B ρ r (shapeV ag vs) (shapeU ag us) := by
  cases ag with
  | true => simp only [shapeV, shapeU, if_true, RepV]; exact ⟨_, rfl, by simpa using h⟩
  | false =>
    cases vs with
    | nil => simp at hl
    | cons v vs =>
      simp only [RepVs] at h
      obtain ⟨u, us', rfl, h1, h2⟩ := h
      simpa [shapeV, shapeU] using h1

def ldB (P : Program) (t : TypeId) (n : Nat) (ag : Bool) : Bool := match P.underlying t with
  | some (.struct _) => ag && (match P.info? t with | some i => i.size == n | none => false)
  | some (.array _ _) => ag && (match P.info? t with | some i => i.size == n | none => false)
  | some _ => !ag && n == 1
  | none => false

theorem info_run {t : TypeId} {i : TypeInfo} (h : P.info? t = some i) : (typeInfo t).run P w = .ok i w := by
  simp [typeInfo, h]
theorem size_run {t : TypeId} {i : TypeInfo} (h : P.info? t = some i) : (Go.sizeOf t).run P w = .ok i.size w := by
  unfold Go.sizeOf
  rw [Sem.run_bind, info_run h]
  rfl
theorem zero_run {t : TypeId} {i : TypeInfo} {z : Value} (h : P.info? t = some i) (hz : i.zero = some z) : (zeroValue t).run P w = .ok z w := by
  unfold zeroValue
  rw [Sem.run_bind, info_run h]
  simp [hz]

theorem run_isAgg {t : TypeId} {d : TypeDesc} (h : P.underlying t = some d) : (isAgg t).run P w = .ok (match d with | .struct _ => true | .array _ _ => true | _ => false) w := by
  unfold isAgg
  rw [Sem.run_bind, run_underlying h]
  cases d <;> rfl

theorem add_addr (b k j : Nat) : (⟨b, k, none⟩ : Addr).add j = ⟨b, k + j, none⟩ := by
  cases j with
  | zero => simp [Addr.add]
  | succ j => simp [Addr.add]

theorem loadVar_run {t : TypeId} {n : Nat} {ag : Bool} (h : ldB P t n ag = true) {b k : Nat} {us : List Value} (hl : us.length = n) (hc : Cells w b k us) : (loadVar t ⟨b, k, none⟩).run P w = .ok (shapeU ag us) w := by
  have hcells : ∀ n, us.length = n → (loadCells ⟨b, k, none⟩ n).run P w = .ok us.toArray w := by
    intro n hn
    subst hn
    exact run_loadCells_list w ⟨b, k, none⟩ us (fun j v hj => by rw [add_addr]; exact hc j v hj)
  unfold ldB at h
  unfold loadVar
  rw [Sem.run_bind]
  have one : ag = false → n = 1 → (load ⟨b, k, none⟩).run P w = .ok (shapeU ag us) w := by
    intro e1 e2
    subst e1 e2
    match us, hl with
    | [u], _ =>
      have h0 := hc 0 u (by simp)
      simp only [load, Sem.run, Nat.add_zero] at h0 ⊢
      rw [h0]
      simp [shapeU]
  have agg : ag = true → (match P.info? t with | some i => i.size == n | none => false) = true → ((do let s ← sizeOf t; let cs ← loadCells ⟨b, k, none⟩ s; pure (.agg cs)) : Sem Value).run P w = .ok (shapeU ag us) w := by
    intro e1 e2
    subst e1
    cases hi : P.info? t with
    | none => rw [hi] at e2; cases e2
    | some i =>
      rw [hi] at e2
      have e3 : i.size = n := by simpa using e2
      simp [size_run hi, e3, hcells n hl, shapeU]
  cases hd : P.underlying t with
  | none => rw [hd] at h; cases h
  | some d =>
    rw [hd] at h
    rw [run_isAgg hd]
    simp only [Result.andThen_ok]
    cases d <;> simp only [Bool.and_eq_true, Bool.not_eq_true', beq_iff_eq] at h ⊢
    case struct => exact agg h.1 h.2
    case array => exact agg h.1 h.2
    all_goals exact one h.1 h.2

theorem ld_yes {t : TypeId} {n : Nat} {ag : Bool} {y : Operand} (h : o.op = .load t y) (hb : ldB P t n ag = true) {b k : Nat} (hy : a.eval y = .pointer (some ⟨b, k, none⟩)) {us : List Value} (hl : us.length = n) (hc : Cells w b k us) :
    Yes P o a w (shapeU ag us) w := by
  refine yes_of (s := Instr.loadAt t (.pointer (some ⟨b, k, none⟩))) (by unfold execOp; rw [h]; simp only [hy]) ?_
  simp only [Instr.loadAt, Instr.sureAddr]
  rw [Sem.run_bind]
  simp [loadVar_run hb hl hc]

/-- Some cells of an owned row, as they are loaded. -/
theorem cellsV_rep (hI : Inv c w B ρ Sf X r) {id : Id} {rows : Rows} {stt : Nat} {fx : Bool} (h0 : getE r id = .mem rows stt fx) {p : Path} {i b : Nat} {row : List T} (hr : (getP rows p).bind (·[i]?) = some row) :
    ∀ (ts : List T) (off k : Nat), (∀ j t, ts[j]? = some t → row[off + j]? = some t) → (ts ≠ [] → LocAt w (ρ id).1 rows p i off b k) →
      ∃ us, us.length = ts.length ∧ Cells w b k us ∧ RepVs w B ρ r (cellsV id p i off stt ts) us
  | [], off, k, _, _ => ⟨[], rfl, fun j u h => by simp at h, by simp [cellsV, RepVs]⟩
  | t :: ts, off, k, ht, hl => by
    have hloc := hl (by simp)
    have hrow0 : row[off]? = some t := by simpa using ht 0 t (by simp)
    have hg : getC rows p i off = some t := by rw [getC_of_row hr]; exact hrow0
    obtain ⟨hm, _⟩ := hI.mem h0
    obtain ⟨b', k', cur, e, u, S1, S2, l1, l2, l3, l4, l5, l6, l7, _⟩ := OwS.lens p hm hg
    obtain ⟨rfl, rfl⟩ := LocAt.unique p l1 hloc
    have hcell : w.cell? ⟨b', k', none⟩ = some u := by rw [cell_row l2]; exact l3
    obtain ⟨us, h1, h2, h3⟩ := cellsV_rep hI h0 hr ts (off + 1) (k' + 1) (fun j t' hj => by have := ht (j + 1) t' (by simpa using hj); rwa [show off + 1 + j = off + (j + 1) by omega]) (by
      intro hne
      refine LocAt.shift p hloc hr ?_
      cases ts with
      | nil => exact absurd rfl hne
      | cons t1 ts =>
        have := ht 1 t1 (by simp)
        exact (List.getElem?_eq_some_iff.1 this).1)
    refine ⟨u :: us, by simp [h1], Cells.cons hcell h2, ?_⟩
    simp only [cellsV, RepVs]
    refine ⟨u, us, rfl, ?_, h3⟩
    have hth : There r id := getE_there (by rw [h0]; simp)
    cases t with
    | v x =>
      simp only [OwC] at l5
      simp only [cellV, RepV, ShC]; exact ⟨l5.1, l4⟩
    | hole => simp only [cellV, RepV]
    | sl ow rows1 => cases ow with
      | false =>
        simp only [OwC] at l5
        simp only [cellV, RepV]; exact ⟨l5.1, l4⟩
      | true =>
        simp only [cellV, RepV]
        obtain ⟨q1, cap1, hu, hs⟩ := OwC_sl.1 l5
        refine ⟨hth, ⟨q1, cap1, hu, ?_⟩, ?_⟩
        · rcases hs with ⟨_, e1, e2, _⟩ | ⟨_, _, _, _, _, _, _, e3, _⟩
          · simp [e2]
          · exact e3.1
        · intro rows' stt' fx' hg'
          rw [h0] at hg'; cases hg'
          exact ⟨Nat.le_refl _, fun _ => ⟨idx0_lt hr, fun rs _ _ => ⟨b', k', hloc, hcell⟩⟩⟩

/-- What a pointer into what is owned leads to. -/
theorem ptr_cells (hI : Inv c w B ρ Sf X r) {id : Id} {rows : Rows} {stt : Nat} {fx : Bool} (h0 : getE r id = .mem rows stt fx) {p : Path} {i off m st n : Nat} {u : Value} (hv : RepV w B ρ r (.ptr id p i off m st) u)
    {row : List T} (hr : ptrRow rows stt p i m st = some row) (hn : 0 < n) (hl : off + n ≤ row.length) :
    ∃ b k us, u = .pointer (some ⟨b, k, none⟩) ∧ us.length = n ∧ Cells w b k us ∧ RepVs w B ρ r (cellsV id p i off stt ((row.drop off).take n)) us ∧ LocAt w (ρ id).1 rows p i off b k := by
  obtain ⟨r1, r2, r3⟩ := ptrRow_row hr
  simp only [RepV] at hv
  obtain ⟨hth, ad, rfl, hp⟩ := hv
  obtain ⟨g1, g2⟩ := (hp rows stt fx h0).2.2 r2 r3
  obtain ⟨b, k, l1, rfl⟩ := g2 row r1 (by omega)
  obtain ⟨us, h1, h2, h3⟩ := cellsV_rep hI h0 r1 ((row.drop off).take n) off k (fun j t hj => by
    rw [List.getElem?_take] at hj
    split at hj
    · rwa [List.getElem?_drop] at hj
    · cases hj) (fun _ => l1)
  refine ⟨b, k, us, rfl, by rw [h1]; simp; omega, h2, h3, l1⟩

/-- Shared cells. -/
theorem sh_cells : ∀ (ts : List T) {b o : Nat} (n : Nat), ShR w B b o ts → n ≤ ts.length → ∃ us, us.length = n ∧ Cells w b o us ∧ RepVs w B ρ r ((ts.take n).map V.t) us
  | _, b, o, 0, h, _ => ⟨[], rfl, fun j u h => by simp at h, by simp [RepVs]⟩
  | [], b, o, n + 1, h, hn => by simp at hn
  | t :: ts, b, o, n + 1, h, hn => by
    simp only [ShR] at h
    obtain ⟨⟨u, h1, h2, h3⟩, h4⟩ := h
    obtain ⟨us, g1, g2, g3⟩ := sh_cells ts n h4 (by simpa using hn)
    refine ⟨u :: us, by simp [g1], Cells.cons h1 g2, ?_⟩
    simp only [List.take_succ_cons, List.map_cons, RepVs]
    exact ⟨u, us, rfl, by simp only [RepV]; exact ⟨h3, h2⟩, g3⟩

theorem ShR.drop : ∀ (ts : List T) {b o : Nat} (n : Nat), ShR w B b o ts → n ≤ ts.length → ShR w B b (o + n) (ts.drop n)
  | ts, b, o, 0, h, _ => by simpa using h
  | [], b, o, n + 1, h, hn => by simp at hn
  | t :: ts, b, o, n + 1, h, hn => by
    simp only [ShR] at h
    have := ShR.drop ts (o := o + 1) n h.2 (by simpa using hn)
    rw [show o + 1 + n = o + (n + 1) by omega] at this
    simpa using this

end
end TT
