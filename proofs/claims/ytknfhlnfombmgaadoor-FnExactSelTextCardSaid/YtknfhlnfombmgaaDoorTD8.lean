import Derived.Test.YtknfhlnfombmgaaDoorTD7
set_option linter.unusedVariables false
set_option linter.unusedSimpArgs false
namespace TT
open Go

/-! ### Addresses -/

theorem getP_snoc : ∀ (p : Path) {rows : Rows} {j k : Nat} {rs : Rows}, getC rows p j k = some (.sl true rs) → getP rows (p ++ [(j, k)]) = some rs
  | [], rows, j, k, rs, h => by
    simp only [getC, getP, Option.bind_some] at h
    simp only [List.nil_append, getP, h]
  | (i0, c0) :: p, rows, j, k, rs, h => by
    simp only [getC, getP] at h
    simp only [List.cons_append, getP]
    cases hrc : rows[i0]?.bind (·[c0]?) with
    | none => simp [hrc] at h
    | some t0 =>
      cases t0 with
      | v x => simp [hrc] at h
      | hole => simp [hrc] at h
      | sl own rows1 => cases own with
        | false => simp [hrc] at h
        | true =>
          simp only [hrc] at h
          exact getP_snoc p h

theorem LocAt.snoc {w : World} : ∀ (p : Path) {q : Option Addr} {rows : Rows} {j k b o : Nat} {rs : Rows} {q1 : Option Addr} {n1 cap1 i c b1 k1 : Nat}, LocAt w q rows p j k b o → getC rows p j k = some (.sl true rs) →
    w.cell? ⟨b, o, none⟩ = some (.slice q1 n1 cap1) → LocAt w q1 rs [] i c b1 k1 → LocAt w q rows (p ++ [(j, k)]) i c b1 k1
  | [], q, rows, j, k, b, o, rs, q1, n1, cap1, i, c, b1, k1, ⟨h1, row, h2, h3, h4⟩, hg, hc, hl => by
    simp only [getC, getP, Option.bind_some, h2] at hg
    subst h4
    exact ⟨b, row, rs, q1, n1, cap1, h1, h2, hg, hc, hl⟩
  | (i0, c0) :: p, q, rows, j, k, b, o, rs, q1, n1, cap1, i, c, b1, k1, ⟨b0, row, rows1, q2, n2, cap2, h1, h2, h3, h4, h5⟩, hg, hc, hl => by
    simp only [getC, getP, h2, Option.bind_some, h3] at hg
    exact ⟨b0, row, rows1, q2, n2, cap2, h1, h2, h3, h4, LocAt.snoc p h5 hg hc hl⟩

theorem idx0_snoc (p : Path) (j k i : Nat) : idx0 (p ++ [(j, k)]) i = idx0 p j := by
  cases p with
  | nil => rfl
  | cons x p => rfl

theorem idx0_lt' {rows : Rows} {p : Path} {i k : Nat} {t : T} (h : getC rows p i k = some t) : idx0 p i < rows.length := by
  simp only [getC] at h
  obtain ⟨rs, h1, h2⟩ := Option.bind_eq_some_iff.1 h
  obtain ⟨row, h3, h4⟩ := Option.bind_eq_some_iff.1 h2
  exact idx0_lt (p := p) (i := i) (row := row) (by rw [h1]; exact h3)

section
variable {P : Program} {c : Ctx} {w : World} {B : Nat → Prop} {ρ : Id → Loc} {Sf : Id → Nat → Prop} {X : Nat → Prop} {r : R} {a : Act} {o : Oper}

theorem ShRs.get : ∀ {rs : Rows} {b o sz i : Nat} {row : List T}, ShRs w B b o sz rs → rs[i]? = some row → row.length = sz ∧ ShR w B b (o + i * sz) row
  | [], b, o, sz, i, row, _, h => by simp at h
  | r0 :: rs, b, o, sz, 0, row, hh, h => by
    simp only [ShRs] at hh
    simp at h; subst h
    exact ⟨hh.1, by simpa using hh.2.1⟩
  | r0 :: rs, b, o, sz, i + 1, row, hh, h => by
    simp only [ShRs] at hh
    have := ShRs.get hh.2.2 (i := i) (by simpa using h)
    rw [show o + sz + i * sz = o + (i + 1) * sz by rw [Nat.add_mul]; omega] at this
    exact this

def faB (P : Program) (t : TypeId) (f off : Nat) : Bool := match P.underlying t with
  | some (.struct fs) => (match fs[f]? with
    | some fd => fd.offset == off && (match P.info? fd.type with | some i => i.size != 0 | none => false)
    | none => false)
  | _ => false

theorem fa_yes {t : TypeId} {f off : Nat} {y : Operand} (h : o.op = .fieldAddr t y f) (hb : faB P t f off = true) {ad : Addr} (hy : a.eval y = .pointer (some ad)) : Yes P o a w (.pointer (some (ad.add off))) w := by
  refine yes_of (s := Instr.fieldAt t (.pointer (some ad)) f) (by unfold execOp; rw [h]; simp only [hy]) ?_
  unfold faB at hb
  cases hd : P.underlying t with
  | none => rw [hd] at hb; cases hb
  | some d =>
    rw [hd] at hb
    cases d <;> simp only [] at hb <;> try (cases hb; done)
    rename_i fs
    cases hf : fs[f]? with
    | none => rw [hf] at hb; cases hb
    | some fd =>
      rw [hf] at hb
      simp only [Bool.and_eq_true, beq_iff_eq] at hb
      cases hi : P.info? fd.type with
      | none => rw [hi] at hb; exact absurd hb.2 (by simp)
      | some i =>
        rw [hi] at hb
        have hne : i.size ≠ 0 := by simpa using hb.2
        simp [Instr.fieldAt, run_underlying hd, hf, Instr.sureAddr, fieldPlace, size_run hi, hne, hb.1]

/-- A place in an array, at a constant. -/
def aaB (P : Program) (t : TypeId) (n : Int) (off : Nat) : Bool := match P.underlying t with
  | some (.array len e) => decide (0 ≤ n ∧ n < (len : Int)) && (match P.info? e with | some i => n.toNat * i.size == off | none => false)
  | _ => false
theorem aa_yes {t : TypeId} {kd : IntKind} {n : Int} {off : Nat} {y : Operand} (h : o.op = .indexAddr t y (.const (.int kd n))) (hb : aaB P t n off = true) {ad : Addr} (hy : a.eval y = .pointer (some ad)) : Yes P o a w (.pointer (some (ad.add off))) w := by
  refine yes_of (s := Instr.indexAt t (.pointer (some ad)) (.int kd n)) (by unfold execOp; rw [h]; simp only [hy]; rfl) ?_
  unfold aaB at hb
  cases hd : P.underlying t with
  | none => rw [hd] at hb; cases hb
  | some d =>
    rw [hd] at hb
    cases d <;> simp only [] at hb <;> try (cases hb; done)
    rename_i len e
    simp only [Bool.and_eq_true, decide_eq_true_eq] at hb
    obtain ⟨hn, hb⟩ := hb
    cases hi : P.info? e with
    | none => rw [hi] at hb; cases hb
    | some i =>
      rw [hi] at hb
      have hoff : n.toNat * i.size = off := by simpa using hb
      simp [Instr.indexAt, asIntOf, run_underlying hd, hn, size_run hi, Instr.sureAddr, hoff]

def iaB (P : Program) (t : TypeId) (sz : Nat) : Bool := match P.underlying t with
  | some (.slice e) => (match P.info? e with | some i => i.size == sz | none => false)
  | _ => false

theorem iaB_spec {t : TypeId} {sz : Nat} (h : iaB P t sz = true) : ∃ e i, P.underlying t = some (.slice e) ∧ P.info? e = some i ∧ i.size = sz := by
  unfold iaB at h
  cases hd : P.underlying t with
  | none => rw [hd] at h; cases h
  | some d =>
    rw [hd] at h
    cases d <;> simp only [] at h <;> try (cases h; done)
    rename_i e
    cases hi : P.info? e with
    | none => rw [hi] at h; cases h
    | some i => rw [hi] at h; exact ⟨e, i, rfl, hi, by simpa using h⟩

theorem ia_yes {t : TypeId} {sz : Nat} {x y : Operand} (h : o.op = .indexAddr t x y) (hb : iaB P t sz = true) {b k len cap : Nat} (hx : a.eval x = .slice (some ⟨b, k, none⟩) len cap) {kd : IntKind} {n : Int} (hy : a.eval y = .int kd n) (h0 : 0 ≤ n) (h1 : n.toNat < len) :
    Yes P o a w (.pointer (some ⟨b, k + n.toNat * sz, none⟩)) w := by
  refine yes_of (s := Instr.indexAt t (.slice (some ⟨b, k, none⟩) len cap) (.int kd n)) (by unfold execOp; rw [h]; simp only [hx, hy]) ?_
  obtain ⟨e, i, hd, hi, hs⟩ := iaB_spec hb
  have hn : 0 ≤ n ∧ n < (len : Int) := ⟨h0, by omega⟩
  simp [Instr.indexAt, asIntOf, run_underlying hd, hn, size_run hi, hs, add_addr]

/-- The new pointer, into shared rows. -/
theorem ia_shared {rows : Rows} {ow : Bool} {u : Value} (hv : RepV w B ρ r (.t (.sl ow rows)) u) {n sz : Nat} {row : List T} (hr : rows[n]? = some row) (hs : row.length = sz) :
    ∃ b k cap, u = .slice (some ⟨b, k, none⟩) rows.length cap ∧ n < rows.length ∧ RepV w B ρ r (.pp row) (.pointer (some ⟨b, k + n * sz, none⟩)) := by
  simp only [RepV] at hv
  cases ow with
  | true => have := hv.1; simp only [ShC] at this
  | false =>
    have h1 := hv.1
    simp only [ShC] at h1
    obtain ⟨q, cap, rfl, h2, h3, h4⟩ := h1
    have hlt : n < rows.length := (List.getElem?_eq_some_iff.1 hr).1
    rcases h4 with h4 | ⟨b, k, sz', rfl, h5, h6, h7⟩
    · subst h4; simp at hr
    · obtain ⟨g1, g2⟩ := ShRs.get h7 hr
      refine ⟨b, k, cap, rfl, hlt, ?_⟩
      simp only [RepV]
      exact ⟨b, _, rfl, h5, by rw [← hs, g1]; exact g2⟩

theorem ia_ref (hI : Inv c w B ρ Sf X r) {id : Id} {m : Nat} {u : Value} (hv : RepV w B ρ r (.ref id m) u) {rows : Rows} {stt : Nat} {fx : Bool} (h0 : getE r id = .mem rows stt fx) (hm : rows.length = m) {n sz : Nat} {row : List T} (hr : rows[n]? = some row) (hs : row.length = sz) :
    ∃ b k cap, u = .slice (some ⟨b, k, none⟩) m cap ∧ n < m ∧ RepV w B ρ r (.ptr id [] n 0 m 0) (.pointer (some ⟨b, k + n * sz, none⟩)) := by
  simp only [RepV] at hv
  obtain ⟨hth, _, hv⟩ := hv
  obtain ⟨_, hu⟩ := hv rows stt fx h0
  have hu := hu hm
  have hlt : n < rows.length := (List.getElem?_eq_some_iff.1 hr).1
  obtain ⟨ho, _⟩ := hI.mem h0
  rcases ho with ⟨_, _, h, _⟩ | ⟨b, sz', e, cur, S', h3, h4, h5, h6, h7, h8, h9, h10⟩
  · subst h; simp at hr
  · refine ⟨b, 0, _, by rw [hu, h3], by omega, ?_⟩
    simp only [RepV]
    refine ⟨hth, _, rfl, ?_⟩
    intro rows' stt' fx' hg
    rw [h0] at hg; cases hg
    refine ⟨fun _ => by omega, fun h => absurd rfl h, fun _ _ => ⟨fun h => absurd rfl h, ?_⟩⟩
    intro row' hrow' hl
    simp only [getP, Option.bind_some] at hrow'
    rw [hr] at hrow'; cases hrow'
    exact ⟨b, n * row.length, ⟨h3, row, hr, hl, by omega⟩, by rw [hs]; simp⟩

theorem ia_sub (hI : Inv c w B ρ Sf X r) {id : Id} {p : Path} {j k m st : Nat} {u : Value} (hv : RepV w B ρ r (.sub id p j k m st) u) {rows : Rows} {fx : Bool} (h0 : getE r id = .mem rows st fx) {rs : Rows} (hg : getC rows p j k = some (.sl true rs))
    (hm : rs.length = m) {n sz : Nat} {row : List T} (hr : rs[n]? = some row) (hs : row.length = sz) :
    ∃ b k' cap, u = .slice (some ⟨b, k', none⟩) m cap ∧ n < m ∧ RepV w B ρ r (.ptr id (p ++ [(j, k)]) n 0 m st) (.pointer (some ⟨b, k' + n * sz, none⟩)) := by
  simp only [RepV] at hv
  obtain ⟨hth, _, hv⟩ := hv
  obtain ⟨b, o, l1, l2⟩ := ((hv rows st fx h0).2 rfl).2 rs hg hm
  have hlt : n < rs.length := (List.getElem?_eq_some_iff.1 hr).1
  obtain ⟨ho, _⟩ := hI.mem h0
  obtain ⟨b', o', cur, e, u', S1, S2, m1, m2, m3, m4, m5, m6, m7, _⟩ := OwS.lens p ho hg
  obtain ⟨rfl, rfl⟩ := LocAt.unique p m1 l1
  rw [cell_row m2, m3] at l2
  simp only [Option.some.injEq] at l2
  subst l2
  obtain ⟨q1, cap1, hu, hs1⟩ := OwC_sl.1 m5
  have hcell : w.cell? ⟨b', o', none⟩ = some (.slice q1 rs.length cap1) := by rw [cell_row m2, m3, hu]
  rcases hs1 with ⟨_, _, h, _⟩ | ⟨b1, sz', e1, cur1, S', h3, h4, h5, h6, h7, h8, h9, h10⟩
  · subst h; simp at hr
  · refine ⟨b1, 0, cap1, by rw [hu, h3, hm], by omega, ?_⟩
    simp only [RepV]
    refine ⟨hth, _, rfl, ?_⟩
    intro rows' stt' fx' hg'
    rw [h0] at hg'; cases hg'
    refine ⟨fun h => by simp at h, fun _ => Nat.le_refl _, fun _ _ => ⟨fun _ => by rw [idx0_snoc]; exact idx0_lt' hg, ?_⟩⟩
    intro row' hrow' hl
    rw [getP_snoc p hg, Option.bind_some] at hrow'
    rw [hr] at hrow'; cases hrow'
    refine ⟨b1, n * row.length, ?_, by rw [hs]; simp⟩
    exact LocAt.snoc p m1 hg hcell ⟨h3, row, hr, hl, by omega⟩

/-- A field's pointer. -/
theorem fa_ptr {id : Id} {p : Path} {i off' off m st : Nat} {u : Value} (hv : RepV w B ρ r (.ptr id p i off' m st) u) : ∃ ad : Addr, u = .pointer (some ad) ∧ RepV w B ρ r (.ptr id p i (off' + off) m st) (.pointer (some (ad.add off))) := by
  simp only [RepV] at hv
  obtain ⟨hth, ad, rfl, hp⟩ := hv
  refine ⟨ad, rfl, ?_⟩
  simp only [RepV]
  refine ⟨hth, _, rfl, ?_⟩
  intro rows stt fx hg
  obtain ⟨g1, g2, g3⟩ := hp rows stt fx hg
  refine ⟨g1, g2, fun e e' => ⟨(g3 e e').1, fun row hr hl => ?_⟩⟩
  obtain ⟨b', k', l1, l2⟩ := (g3 e e').2 row hr (by omega)
  subst l2
  exact ⟨b', k' + off, LocAt.shift p l1 hr hl, add_addr _ _ _⟩

end
end TT
