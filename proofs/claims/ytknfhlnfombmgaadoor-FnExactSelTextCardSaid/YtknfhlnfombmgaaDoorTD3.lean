import Derived.Test.YtknfhlnfombmgaaDoorTD2
set_option linter.unusedVariables false
set_option linter.unusedSimpArgs false
namespace TT
open Go

theorem LocAt.unique {w : World} : ∀ (p : Path) {q : Option Addr} {rows : Rows} {i c b k b' k' : Nat}, LocAt w q rows p i c b k → LocAt w q rows p i c b' k' → b = b' ∧ k = k'
  | [], q, rows, i, c, b, k, b', k', ⟨h1, row, h2, h3, h4⟩, ⟨g1, row', g2, g3, g4⟩ => by
    rw [h1] at g1
    simp only [Option.some.injEq, Addr.mk.injEq, and_true] at g1
    rw [h2] at g2; cases g2
    exact ⟨g1, by omega⟩
  | (i0, c0) :: p, q, rows, i, c, b, k, b', k', ⟨b0, row, rows1, q1, n1, cap1, h1, h2, h3, h4, h5⟩, ⟨b0', row', rows1', q1', n1', cap1', g1, g2, g3, g4, g5⟩ => by
    rw [h1] at g1
    simp only [Option.some.injEq, Addr.mk.injEq, and_true] at g1
    subst g1
    rw [h2] at g2; cases g2
    rw [h3] at g3; cases g3
    rw [h4] at g4; cases g4
    exact LocAt.unique p h5 g5

section
variable {w w' : World} {B B' : Nat → Prop} {ρ ρ' : Id → Loc} {r r' : R} {id0 : Id}

/-- What a root must be, and that the world has not turned there. -/
def Kept (w w' : World) (B : Nat → Prop) (ρ : Id → Loc) (r : R) (id : Id) : Prop :=
  ∀ rows stt fx, getE r id = .mem rows stt fx → ∃ S, OwS w B (ρ id).1 (ρ id).2 rows S ∧ Same S w w'

theorem SubAt.kept {id : Id} (hk : Kept w w' B ρ r id) {p : Path} {i c n st : Nat} {u : Value} (h : SubAt w ρ r id p i c n st u) : SubAt w' ρ r id p i c n st u := by
  intro rows stt fx hg
  obtain ⟨g1, g2⟩ := h rows stt fx hg
  obtain ⟨S, o1, o2⟩ := hk rows stt fx hg
  refine ⟨g1, fun e => ⟨(g2 e).1, fun rs hrs hl => ?_⟩⟩
  obtain ⟨b, k, l1, l2⟩ := (g2 e).2 rs hrs hl
  obtain ⟨b', k', cur, ee, u', S1, S2, m1, m2, m3, m4, m5, m6, m7, _⟩ := OwS.lens p o1 hrs
  obtain ⟨rfl, rfl⟩ := LocAt.unique p l1 m1
  refine ⟨b, k, LocAt.same (S := S) p o1 o2 l1, ?_⟩
  rw [cell_same (o2 b (m6.right m7))]
  exact l2

theorem PtrAt.kept {id : Id} (hk : Kept w w' B ρ r id) {p : Path} {i off n st : Nat} {a : Addr} (h : PtrAt w ρ r id p i off n st a) : PtrAt w' ρ r id p i off n st a := by
  intro rows stt fx hg
  obtain ⟨g1, g2, g3⟩ := h rows stt fx hg
  obtain ⟨S, o1, o2⟩ := hk rows stt fx hg
  refine ⟨g1, g2, fun e e' => ⟨(g3 e e').1, fun row hr hl => ?_⟩⟩
  obtain ⟨b, k, l1, l2⟩ := (g3 e e').2 row hr hl
  exact ⟨b, k, LocAt.same (S := S) p o1 o2 l1, l2⟩

theorem ContAt.kept {id : Id} (hk : Kept w w' B ρ r id) {st : Nat} {us : List Value} (h : ContAt w ρ r id st us) : ContAt w' ρ r id st us := by
  intro rows stt fx hg
  obtain ⟨g1, g2, g3⟩ := h rows stt fx hg
  obtain ⟨S, o1, o2⟩ := hk rows stt fx hg
  refine ⟨g1, g2, fun e e' => ?_⟩
  obtain ⟨row, b, rfl, z2, z3, z4⟩ := g3 e e'
  refine ⟨row, b, rfl, z2, z3, fun j u hj => ?_⟩
  have hj' : j < row.length := by rw [z2]; exact (List.getElem?_eq_some_iff.1 hj).1
  obtain ⟨b', k', cur, ee, u', S1, S2, m1, m2, m3, m4, m5, m6, m7, _⟩ := OwS.lens [] o1 (i := 0) (c := j) (t := row[j]) (by simp only [getC, getP, Option.bind_some, List.getElem?_cons_zero, List.getElem?_eq_getElem hj'])
  obtain ⟨e1, _⟩ := m1
  rw [z3] at e1
  simp only [Option.some.injEq, Addr.mk.injEq, and_true] at e1
  subst e1
  rw [cell_same (o2 b (m6.right m7))]
  exact z4 j u hj

/-- The world has turned, but nothing that is owned or shared. -/
theorem claims_world (hB : ∀ b, B b → B' b) (hs : Same B w w') (hk : ∀ id, Kept w w' B ρ r id) {v : V} {u : Value} (h : RepV w B ρ r v u) : RepV w' B' ρ r v u :=
  RepV.turn hB hs (fun _ h => h) (fun _ _ _ _ h => h) (fun id _ _ _ _ _ _ _ h => SubAt.kept (hk id) h) (fun id _ _ _ _ _ _ _ h => PtrAt.kept (hk id) h) (fun id _ _ _ h => ContAt.kept (hk id) h) h

/-- One root's content has turned (its stamp tells); all else stands. -/
theorem claims_bump {rows rows' : Rows} {stt stt' : Nat} {fx fx' : Bool} (h0 : getE r id0 = .mem rows stt fx) (hl : rows'.length = rows.length)
    (hr : ∀ (i : Nat) (row' : List T), rows'[i]? = some row' → ∃ row : List T, rows[i]? = some row ∧ row.length = row'.length) (hst : stt < stt')
    (hB : ∀ b, B b → B' b) (hs : Same B w w') (hk : ∀ id, id ≠ id0 → Kept w w' B ρ r id) {v : V} {u : Value} (h : RepV w B ρ r v u) : RepV w' B' ρ (setE r id0 (.mem rows' stt' fx')) v u := by
  have hth : There r id0 := getE_there (by rw [h0]; simp)
  refine RepV.turn hB hs (fun id h => (there_setE _).2 h) ?_ ?_ ?_ ?_ h
  · intro id n u _ hh
    refine RefAt.of_same (fun id rows' stt' fx'' hg => ?_) hh
    by_cases e1 : id0 = id
    · subst e1; rw [getE_setE_same hth] at hg; cases hg; exact ⟨_, _, _, h0, hl.symm⟩
    · rw [getE_setE_other e1] at hg; exact ⟨_, _, _, hg, rfl⟩
  · intro id p i c n st u _ hh
    by_cases e1 : id0 = id
    · subst e1
      intro rows1 stt1 fx1 hg
      rw [getE_setE_same hth] at hg; cases hg
      obtain ⟨g1, g2⟩ := hh _ _ _ h0
      exact ⟨by omega, fun e => by omega⟩
    · have := SubAt.kept (hk id (Ne.symm e1)) hh
      intro rows1 stt1 fx1 hg
      rw [getE_setE_other e1] at hg
      exact this _ _ _ hg
  · intro id p i off n st a _ hh
    by_cases e1 : id0 = id
    · subst e1
      intro rows1 stt1 fx1 hg
      rw [getE_setE_same hth] at hg; cases hg
      obtain ⟨g1, g2, g3⟩ := hh _ _ _ h0
      refine ⟨fun e => by have := g1 e; omega, fun e => by have := g2 e; omega, fun e e' => ?_⟩
      cases p with
      | cons x p => have := g2 (by simp); have := e' (by simp); omega
      | nil =>
        refine ⟨fun q => absurd rfl q, fun row' hrow hlt => ?_⟩
        simp only [getP, Option.bind_some] at hrow
        obtain ⟨row, r1, r2⟩ := hr i row' hrow
        obtain ⟨_, g5⟩ := g3 (fun _ => by have := e rfl; omega) (fun q => absurd rfl q)
        obtain ⟨b, k, l1, l2⟩ := g5 row (by simp only [getP, Option.bind_some]; exact r1) (by omega)
        obtain ⟨x1, row1, x2, x3, x4⟩ := l1
        rw [r1] at x2; cases x2
        exact ⟨b, k, ⟨x1, row', hrow, hlt, by rw [← r2]; exact x4⟩, l2⟩
    · have := PtrAt.kept (hk id (Ne.symm e1)) hh
      intro rows1 stt1 fx1 hg
      rw [getE_setE_other e1] at hg
      exact this _ _ _ hg
  · intro id st us _ hh
    by_cases e1 : id0 = id
    · subst e1
      intro rows1 stt1 fx1 hg
      rw [getE_setE_same hth] at hg; cases hg
      obtain ⟨g1, g2, _⟩ := hh _ _ _ h0
      exact ⟨by omega, by omega, fun e _ => by omega⟩
    · intro rows1 stt1 fx1 hg
      rw [getE_setE_other e1] at hg
      exact ContAt.kept (hk id (Ne.symm e1)) hh _ _ _ hg

theorem getE_new {d : Nat} {es : List Ent} (hd : d < r.length) (hr : r.getD d [] = []) {id : Id} : getE (r.set d es) id = if id.1 = d then es.getD id.2 .dead else getE r id := by
  simp only [getE, List.getD, List.getElem?_set]
  by_cases h : d = id.1
  · subst h; simp [hd]
  · rw [if_neg h, if_neg (fun e => h e.symm)]

theorem there_new {d : Nat} {es : List Ent} (hd : d < r.length) (hr : r.getD d [] = []) {id : Id} (h : There r id) : id.1 ≠ d ∧ There (r.set d es) id := by
  have hne : id.1 ≠ d := fun e => by subst e; unfold There at h; rw [hr] at h; simp at h
  refine ⟨hne, ?_⟩
  unfold There at h ⊢
  simp only [List.getD, List.getElem?_set] at h ⊢
  rw [if_neg (fun e => hne e.symm)]
  exact h

/-- New roots stand where none stood. -/
theorem claims_new {d : Nat} {es : List Ent} (hd : d < r.length) (hr : r.getD d [] = []) (hρ : ∀ id : Id, id.1 ≠ d → ρ' id = ρ id) {v : V} {u : Value} (h : RepV w B ρ r v u) : RepV w B ρ' (r.set d es) v u := by
  have hg : ∀ id, There r id → ∀ rows stt fx, getE (r.set d es) id = .mem rows stt fx → getE r id = .mem rows stt fx := by
    intro id ht rows stt fx h
    rw [getE_new hd hr, if_neg (there_new (es := es) hd hr ht).1] at h
    exact h
  have hq : ∀ id, There r id → ρ' id = ρ id := fun id ht => hρ id (there_new (es := es) hd hr ht).1
  exact RepV.turn (fun _ h => h) (fun _ _ => rfl) (fun id ht => (there_new hd hr ht).2)
    (fun id n u ht hh rows stt fx h => by rw [hq id ht]; exact hh rows stt fx (hg id ht _ _ _ h))
    (fun id p i c n st u ht hh rows stt fx h => by rw [hq id ht]; exact hh rows stt fx (hg id ht _ _ _ h))
    (fun id p i off n st a ht hh rows stt fx h => by rw [hq id ht]; exact hh rows stt fx (hg id ht _ _ _ h)) (fun id st us ht hh rows stt fx h => by rw [hq id ht]; exact hh rows stt fx (hg id ht _ _ _ h)) h

theorem getP_append {rows new rs : Rows} {i0 c0 : Nat} {p : Path} (h : i0 < rows.length) : getP (rows ++ new) ((i0, c0) :: p) = getP rows ((i0, c0) :: p) := by
  simp only [getP, List.getElem?_append_left h]

theorem getC_append {rows new : Rows} {p : Path} {i c : Nat} (h : idx0 p i < rows.length) : getC (rows ++ new) p i c = getC rows p i c := by
  cases p with
  | nil => simp only [idx0] at h; simp only [getC, getP, Option.bind_some, List.getElem?_append_left h]
  | cons x p => obtain ⟨i0, c0⟩ := x; simp only [idx0] at h; simp only [getC, getP_append (rs := []) h]

/-- A root has grown: rows have come behind, and it may lie elsewhere. -/
theorem claims_grow {rows new : Rows} {stt : Nat} {fx fx' : Bool} {q' : Option Addr} {cap' : Nat} (h0 : getE r id0 = .mem rows stt fx)
    (hρ : ∀ id, id ≠ id0 → ρ' id = ρ id) (h1 : new = [] → ρ' id0 = ρ id0)
    (hc : ∀ (i : Nat) row c, rows[i]? = some row → c < row.length → ∀ b, (ρ id0).1 = some ⟨b, 0, none⟩ → ∃ b', (ρ' id0).1 = some ⟨b', 0, none⟩ ∧ w'.cell? ⟨b', i * row.length + c, none⟩ = w.cell? ⟨b, i * row.length + c, none⟩)
    (hB : ∀ b, B b → B' b) (hs : Same B w w') (hk : ∀ id, id ≠ id0 → Kept w w' B ρ r id)
    (hn : ∀ (i c : Nat) rows1, getC rows [] i c = some (.sl true rows1) → ∃ q1 cap1 S1 b k, LocAt w (ρ id0).1 rows [] i c b k ∧ w.cell? ⟨b, k, none⟩ = some (.slice q1 rows1.length cap1) ∧ OwS w B q1 cap1 rows1 S1 ∧ Same S1 w w')
    {v : V} {u : Value} (h : RepV w B ρ r v u) : RepV w' B' ρ' (setE r id0 (.mem (rows ++ new) stt fx')) v u := by
  have hth : There r id0 := getE_there (by rw [h0]; simp)
  -- a place below the first row stays where it is
  have deep : ∀ (i0 c0 : Nat) (p : Path) (i c b k : Nat), LocAt w (ρ id0).1 rows ((i0, c0) :: p) i c b k → LocAt w' (ρ' id0).1 (rows ++ new) ((i0, c0) :: p) i c b k ∧
      ∀ rs, getC rows ((i0, c0) :: p) i c = some (.sl true rs) → w'.cell? ⟨b, k, none⟩ = w.cell? ⟨b, k, none⟩ := by
    intro i0 c0 p i c b k hl
    obtain ⟨b0, row, rows1, q1, n1, cap1, g1, g2, g3, g4, g5⟩ := hl
    have hgc : getC rows [] i0 c0 = some (.sl true rows1) := by simp only [getC, getP, Option.bind_some, g2, g3]
    obtain ⟨q2, cap2, S1, b2, k2, m1, m2, m3, m4⟩ := hn i0 c0 rows1 hgc
    obtain ⟨y1, row', y2, y3, y4⟩ := m1
    rw [g1] at y1
    simp only [Option.some.injEq, Addr.mk.injEq, and_true] at y1
    subst y1
    rw [g2] at y2; cases y2
    subst y4
    rw [g4] at m2
    simp only [Option.some.injEq, Value.slice.injEq] at m2
    obtain ⟨e1, e2, e3⟩ := m2
    subst e1
    obtain ⟨b', z1, z2⟩ := hc i0 row c0 g2 y3 b0 g1
    have hlt : i0 < rows.length := (List.getElem?_eq_some_iff.1 g2).1
    refine ⟨⟨b', row, rows1, q1, n1, cap1, z1, by rw [List.getElem?_append_left hlt]; exact g2, g3, by rw [z2]; exact g4, LocAt.same (S := S1) p m3 m4 g5⟩, fun rs hrs => ?_⟩
    have hrc : rows[i0]?.bind (·[c0]?) = some (.sl true rows1) := by rw [g2]; exact g3
    simp only [getC, getP, hrc] at hrs
    obtain ⟨b3, k3, cur, ee, u', S3, S4, x1, x2, x3, x4, x5, x6, x7, _⟩ := OwS.lens p m3 (i := i) (c := c) (t := .sl true rs) (by simpa only [getC] using hrs)
    obtain ⟨rfl, rfl⟩ := LocAt.unique p g5 x1
    exact cell_same (m4 b (x6.right x7)) k
  refine RepV.turn hB hs (fun id h => (there_setE _).2 h) ?_ ?_ ?_ ?_ h
  · intro id n u _ hh
    by_cases e1 : id0 = id
    · subst e1
      intro rows1 stt1 fx1 hg
      rw [getE_setE_same hth] at hg; cases hg
      obtain ⟨g1, g2⟩ := hh _ _ _ h0
      refine ⟨by simp; omega, fun e => ?_⟩
      simp only [List.length_append] at e
      have hnew : new = [] := List.eq_nil_of_length_eq_zero (by omega)
      rw [h1 hnew]
      exact g2 (by omega)
    · intro rows1 stt1 fx1 hg
      rw [getE_setE_other e1] at hg
      rw [hρ id (Ne.symm e1)]
      exact hh _ _ _ hg
  · intro id p i c n st u _ hh
    by_cases e1 : id0 = id
    · subst e1
      intro rows1 stt1 fx1 hg
      rw [getE_setE_same hth] at hg; cases hg
      obtain ⟨g1, g2⟩ := hh _ _ _ h0
      refine ⟨g1, fun e => ⟨by have := (g2 e).1; simp; omega, fun rs hrs hl => ?_⟩⟩
      rw [getC_append (g2 e).1] at hrs
      obtain ⟨b, k, l1, l2⟩ := (g2 e).2 rs hrs hl
      cases p with
      | cons x p =>
        obtain ⟨i0, c0⟩ := x
        obtain ⟨d1, d2⟩ := deep i0 c0 p i c b k l1
        exact ⟨b, k, d1, by rw [d2 rs hrs]; exact l2⟩
      | nil =>
        obtain ⟨y1, row, y2, y3, y4⟩ := l1
        obtain ⟨b', z1, z2⟩ := hc i row c y2 y3 b y1
        have hlt : i < rows.length := (List.getElem?_eq_some_iff.1 y2).1
        exact ⟨b', k, ⟨z1, row, by rw [List.getElem?_append_left hlt]; exact y2, y3, y4⟩, by rw [y4, z2, ← y4]; exact l2⟩
    · have := SubAt.kept (hk id (Ne.symm e1)) hh
      intro rows1 stt1 fx1 hg
      rw [getE_setE_other e1] at hg
      rw [hρ id (Ne.symm e1)]
      exact this _ _ _ hg
  · intro id p i off n st a _ hh
    by_cases e1 : id0 = id
    · subst e1
      intro rows1 stt1 fx1 hg
      rw [getE_setE_same hth] at hg; cases hg
      obtain ⟨g1, g2, g3⟩ := hh _ _ _ h0
      refine ⟨fun e => by have := g1 e; simp; omega, g2, fun e e' => ?_⟩
      cases p with
      | cons x p =>
        obtain ⟨i0, c0⟩ := x
        obtain ⟨g4, g5⟩ := g3 (fun q => by cases q) e'
        have hlt := g4 (by simp)
        refine ⟨fun _ => by simp; omega, fun row hrow hl => ?_⟩
        rw [getP_append (rs := []) (by simpa [idx0] using hlt)] at hrow
        obtain ⟨b, k, l1, l2⟩ := g5 row hrow hl
        exact ⟨b, k, (deep i0 c0 p i off b k l1).1, l2⟩
      | nil =>
        have en := e rfl
        simp only [List.length_append] at en
        have := g1 rfl
        have hnew : new = [] := List.eq_nil_of_length_eq_zero (by omega)
        obtain ⟨_, g5⟩ := g3 (fun _ => by omega) (fun q => absurd rfl q)
        refine ⟨fun q => absurd rfl q, fun row hrow hl => ?_⟩
        rw [hnew, List.append_nil] at hrow
        obtain ⟨b, k, l1, l2⟩ := g5 row hrow hl
        rw [hnew, List.append_nil, h1 hnew]
        exact ⟨b, k, l1, l2⟩
    · have := PtrAt.kept (hk id (Ne.symm e1)) hh
      intro rows1 stt1 fx1 hg
      rw [getE_setE_other e1] at hg
      rw [hρ id (Ne.symm e1)]
      exact this _ _ _ hg
  · intro id st us _ hh
    by_cases e1 : id0 = id
    · subst e1
      intro rows1 stt1 fx1 hg
      rw [getE_setE_same hth] at hg; cases hg
      obtain ⟨g1, g2, g3⟩ := hh _ _ _ h0
      refine ⟨by simp; omega, g2, fun e e' => ?_⟩
      simp only [List.length_append] at e'
      have hnew : new = [] := List.eq_nil_of_length_eq_zero (by omega)
      obtain ⟨row, b, rfl, z2, z3, z4⟩ := g3 e (by omega)
      rw [hnew, h1 hnew]
      refine ⟨row, b, rfl, z2, z3, fun j u hj => ?_⟩
      have hj' : j < row.length := by rw [z2]; exact (List.getElem?_eq_some_iff.1 hj).1
      obtain ⟨b', y1, y2⟩ := hc 0 row j rfl hj' b z3
      rw [h1 hnew, z3] at y1
      simp only [Option.some.injEq, Addr.mk.injEq, and_true] at y1
      subst y1
      simp only [Nat.zero_mul, Nat.zero_add] at y2
      rw [y2]
      exact z4 j u hj
    · intro rows1 stt1 fx1 hg
      rw [getE_setE_other e1] at hg
      rw [hρ id (Ne.symm e1)]
      exact ContAt.kept (hk id (Ne.symm e1)) hh _ _ _ hg

end
end TT
