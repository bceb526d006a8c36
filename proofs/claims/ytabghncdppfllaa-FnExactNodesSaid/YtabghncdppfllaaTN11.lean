import Derived.Test.YtabghncdppfllaaTN10
set_option linter.unusedVariables false
set_option linter.unusedSimpArgs false
namespace TT
open Go

/-! Typed content as the laws' structs -/
section
variable {P : Program}
theorem typed_int {n : Nat} {t : TypeId} {ts : List T} {k : IntKind} (hu : P.underlying t = some (.int k)) (h : Typed P n t ts) : ∃ x, ts = [.v (.int k x)] := by
  cases n with
  | zero => exact h.elim
  | succ n => unfold Typed at h; rw [hu] at h; obtain ⟨x, h, _⟩ := h; exact ⟨x, h⟩
theorem typed_string {n : Nat} {t : TypeId} {ts : List T} (hu : P.underlying t = some .string) (h : Typed P n t ts) : ∃ s, ts = [.v (.string s)] ∧ s.size ≤ maxLen := by
  cases n with
  | zero => exact h.elim
  | succ n => unfold Typed at h; rw [hu] at h; exact h
theorem typed_slice {n : Nat} {t e : TypeId} {ts : List T} (hu : P.underlying t = some (.slice e)) (h : Typed P n t ts) : ∃ m rows, m < n ∧ ts = [.sl false rows] ∧ rows.length ≤ maxLen ∧ ∀ row ∈ rows, Typed P m e row := by
  cases n with
  | zero => exact h.elim
  | succ n => unfold Typed at h; rw [hu] at h; obtain ⟨rows, h1, h2, h3⟩ := h; exact ⟨n, rows, Nat.lt_succ_self n, h1, h2, h3⟩
theorem typed_struct {n : Nat} {t : TypeId} {ts : List T} {fs : Array Field} (hu : P.underlying t = some (.struct fs)) (h : Typed P n t ts) : ∃ m, m < n ∧ ∃ parts : List (List T), ts = parts.flatten ∧ parts.length = fs.toList.length ∧ ∀ (i : Nat) f p, fs.toList[i]? = some f → parts[i]? = some p → Typed P m f.type p := by
  cases n with
  | zero => exact h.elim
  | succ n => unfold Typed at h; rw [hu] at h; exact ⟨n, Nat.lt_succ_self n, h⟩

/-- A list of rows that are all of a kind. -/
theorem rows_of {α : Type} {f : α → List T} {p : α → Prop} : ∀ {rows : Rows}, (∀ row ∈ rows, ∃ x, row = f x ∧ p x) → ∃ xs : List α, rows = xs.map f ∧ ∀ x ∈ xs, p x
  | [], _ => ⟨[], rfl, by simp⟩
  | r :: rs, h => by
    obtain ⟨x, h1, h2⟩ := h r (List.mem_cons_self ..)
    obtain ⟨xs, h3, h4⟩ := rows_of fun row hr => h row (List.mem_cons_of_mem _ hr)
    refine ⟨x :: xs, by simp [h1, h3], fun y hy => ?_⟩
    rcases List.mem_cons.1 hy with rfl | hy
    · exact h2
    · exact h4 y hy

/-- The types of the laws' structs. -/
structure NodeTypes (P : Program) (tn td ta : TypeId) : Prop where
  decl : ∃ a b : Field, P.underlying td = some (.struct #[a, b]) ∧ P.underlying a.type = some .string ∧ P.underlying b.type = some .string
  attr : ∃ a b c d : Field, P.underlying ta = some (.struct #[a, b, c, d]) ∧ P.underlying a.type = some .string ∧ P.underlying b.type = some .string ∧ P.underlying c.type = some .string ∧ P.underlying d.type = some .string
  node : ∃ k a b c ds as ks t : Field, P.underlying tn = some (.struct #[k, a, b, c, ds, as, ks, t]) ∧ P.underlying k.type = some (.int .i64) ∧ P.underlying a.type = some .string ∧ P.underlying b.type = some .string ∧ P.underlying c.type = some .string ∧
    P.underlying ds.type = some (.slice td) ∧ P.underlying as.type = some (.slice ta) ∧ P.underlying ks.type = some (.slice tn) ∧ P.underlying t.type = some .string

variable {tn td ta : TypeId}
theorem typed_decl (N : NodeTypes P tn td ta) {n : Nat} {ts : List T} (h : Typed P n td ts) : ∃ x : Decl, ts = x.enc ∧ x.fine := by
  obtain ⟨a, b, hu, ha, hb⟩ := N.decl
  obtain ⟨m, _, parts, rfl, hl, hp⟩ := typed_struct hu h
  match parts, hl with
  | [p0, p1], _ =>
    obtain ⟨s0, rfl, h0⟩ := typed_string ha (hp 0 a p0 rfl rfl)
    obtain ⟨s1, rfl, h1⟩ := typed_string hb (hp 1 b p1 rfl rfl)
    exact ⟨⟨s0, s1⟩, rfl, h0, h1⟩
theorem typed_attr (N : NodeTypes P tn td ta) {n : Nat} {ts : List T} (h : Typed P n ta ts) : ∃ x : Attr, ts = x.enc ∧ x.fine := by
  obtain ⟨a, b, c, d, hu, ha, hb, hc, hd⟩ := N.attr
  obtain ⟨m, _, parts, rfl, hl, hp⟩ := typed_struct hu h
  match parts, hl with
  | [p0, p1, p2, p3], _ =>
    obtain ⟨s0, rfl, h0⟩ := typed_string ha (hp 0 a p0 rfl rfl)
    obtain ⟨s1, rfl, h1⟩ := typed_string hb (hp 1 b p1 rfl rfl)
    obtain ⟨s2, rfl, h2⟩ := typed_string hc (hp 2 c p2 rfl rfl)
    obtain ⟨s3, rfl, h3⟩ := typed_string hd (hp 3 d p3 rfl rfl)
    exact ⟨⟨s0, s1, s2, s3⟩, rfl, h0, h1, h2, h3⟩

theorem okL_of : ∀ {ns : List Node}, (∀ x ∈ ns, x.ok ∧ x.fine) → okL ns ∧ fineL ns
  | [], _ => by simp only [okL, fineL]; exact ⟨trivial, trivial⟩
  | n :: ns, h => by
    have h1 := h n (List.mem_cons_self ..)
    have h2 := okL_of fun x hx => h x (List.mem_cons_of_mem _ hx)
    simp only [okL, fineL]
    exact ⟨⟨h1.1, h2.1⟩, h1.2, h2.2⟩

theorem typed_node (N : NodeTypes P tn td ta) : ∀ (n : Nat) {ts : List T}, Typed P n tn ts → ∃ x : Node, ts = x.enc ∧ x.ok ∧ x.fine := by
  intro n
  induction n using Nat.strongRecOn with
  | _ n ih =>
    intro ts h
    obtain ⟨k, a, b, c, ds, as, ks, t, hu, hk, ha, hb, hc, hds, has, hks, ht⟩ := N.node
    obtain ⟨m, hm, parts, rfl, hl, hp⟩ := typed_struct hu h
    match parts, hl with
    | [p0, p1, p2, p3, p4, p5, p6, p7], _ =>
      obtain ⟨x0, rfl⟩ := typed_int hk (hp 0 k p0 rfl rfl)
      obtain ⟨s1, rfl, h1⟩ := typed_string ha (hp 1 a p1 rfl rfl)
      obtain ⟨s2, rfl, h2⟩ := typed_string hb (hp 2 b p2 rfl rfl)
      obtain ⟨s3, rfl, h3⟩ := typed_string hc (hp 3 c p3 rfl rfl)
      obtain ⟨m4, r4, _, rfl, l4, q4⟩ := typed_slice hds (hp 4 ds p4 rfl rfl)
      obtain ⟨m5, r5, _, rfl, l5, q5⟩ := typed_slice has (hp 5 as p5 rfl rfl)
      obtain ⟨m6, r6, lt6, rfl, l6, q6⟩ := typed_slice hks (hp 6 ks p6 rfl rfl)
      obtain ⟨s7, rfl, h7⟩ := typed_string ht (hp 7 t p7 rfl rfl)
      obtain ⟨xs4, rfl, f4⟩ := rows_of fun row hr => typed_decl N (q4 row hr)
      obtain ⟨xs5, rfl, f5⟩ := rows_of fun row hr => typed_attr N (q5 row hr)
      obtain ⟨xs6, rfl, f6⟩ := rows_of fun row hr => ih m6 (by omega) (q6 row hr)
      obtain ⟨g1, g2⟩ := okL_of f6
      refine ⟨.mk x0 s1 s2 s3 xs4 xs5 xs6 s7, ?_, ?_, ?_⟩
      · simp only [Node.enc, encsDecl, encsAttr, encL_map]; rfl
      · simp only [Node.ok]; exact ⟨by simpa using l4, by simpa using l5, by simpa using l6, g1⟩
      · simp only [Node.fine]; exact ⟨h1, h2, h3, h7, f4, f5, g2⟩
end

end TT
