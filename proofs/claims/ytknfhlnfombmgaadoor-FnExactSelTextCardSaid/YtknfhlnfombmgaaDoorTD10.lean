import Derived.Test.YtknfhlnfombmgaaDoorTD9
set_option linter.unusedVariables false
set_option linter.unusedSimpArgs false
namespace TT
open Go

/-! ### Slices that are written out, and made -/

section
variable {P : Program} {c : Ctx} {w w' : World} {B : Nat → Prop} {ρ : Id → Loc} {Sf : Id → Nat → Prop} {X : Nat → Prop} {r : R} {a : Act} {o : Oper}

def RepVss (w : World) (B : Nat → Prop) (ρ : Id → Loc) (r : R) : List (List V) → List (List Value) → Prop
  | [], uss => uss = []
  | vs :: vss, uss => ∃ us uss', uss = us :: uss' ∧ RepVs w B ρ r vs us ∧ RepVss w B ρ r vss uss'

theorem RepVss.step {r' : R} (h : Step w B ρ r r') : ∀ {vs : List (List V)} {us : List (List Value)}, RepVss w B ρ r vs us → RepVss w B ρ r' vs us
  | [], us, hh => by simpa only [RepVss] using hh
  | v :: vs, us, hh => by
    simp only [RepVss] at hh ⊢
    obtain ⟨u, us', rfl, h1, h2⟩ := hh
    exact ⟨u, us', rfl, RepVs.step h h1, RepVss.step h h2⟩

theorem takeRows_run {α : Type} {call : CallF} {d sz : Nat} : ∀ {vss : List (List V)} {uss : List (List Value)} {k : Rows → M α} {x : α × R} {Sf : Id → Nat → Prop} {X : Nat → Prop} {r : R}, (takeRows vss k).run call d r = some x → Inv c w B ρ Sf X r → RepVss w B ρ r vss uss →
    ∃ tss Sf' r', (k tss).run call d r' = some x ∧ tss.length = vss.length ∧ tss.map (·.length) = vss.map (·.length) ∧ ((∀ t ∈ tss, t.length = sz) → ∃ S, OwVss w B sz tss uss S ∧ Inv c w B ρ Sf' (fun b => X b ∨ S b) r' ∧ (∀ b, S b → ¬ X b)) ∧ Step w B ρ r r'
  | [], uss, k, x, Sf, X, r, hrun, hI, hv => by
    simp only [RepVss] at hv
    simp only [takeRows] at hrun
    refine ⟨[], Sf, r, hrun, rfl, rfl, fun _ => ⟨fun _ => False, by simp only [OwVss]; exact ⟨hv, fun _ h => h⟩, hI.congrX (fun b => by simp), fun _ h => h.elim⟩, Step.refl ..⟩
  | vs :: vss, uss0, k, x, Sf, X, r, hrun, hI, hv => by
    simp only [RepVss] at hv
    obtain ⟨us, uss, rfl, h1, h2⟩ := hv
    simp only [takeRows] at hrun
    obtain ⟨ts, S1, Sf1, r1, g1, g2, g3, g4, g5, g6, g7⟩ := takes_run hrun hI h1
    obtain ⟨tss, Sf2, r2, m1, m2, m5, m3, m4⟩ := takeRows_run (sz := sz) g1 g3 (RepVss.step g5 h2)
    refine ⟨ts :: tss, Sf2, r2, m1, by simp [m2], by simp [m5, g6], ?_, g5.trans m4⟩
    intro hall
    obtain ⟨S2, n1, n2, n3⟩ := m3 fun t ht => hall t (List.mem_cons_of_mem _ ht)
    refine ⟨fun b => S1 b ∨ S2 b, ?_, n2.congrX (fun b => by simp [or_assoc]), ?_⟩
    · simp only [OwVss]
      exact ⟨us, uss, S1, S2, rfl, hall ts (List.mem_cons_self ..), g2, n1, Split.mk' fun b h h' => n3 b h' (.inr h)⟩
    · intro b h
      rcases h with h | h
      · exact g4 b h
      · exact fun hx => n3 b h (.inl hx)

theorem set_fold (us : List Value) : ∀ (cs : Array Value) (off j0 : Nat) (k : Nat), (us.zipIdx j0).foldl (fun cs (p : Value × Nat) => cs.setIfInBounds (off + p.2) p.1) cs |>.toList[k]? =
    if off + j0 ≤ k ∧ k < off + j0 + us.length ∧ k < cs.size then us[k - (off + j0)]? else cs[k]? := by
  induction us with
  | nil => intro cs off j0 k; simp; omega
  | cons u us ih =>
    intro cs off j0 k
    simp only [List.zipIdx_cons, List.foldl_cons]
    rw [ih]
    simp only [Array.size_setIfInBounds, List.length_cons]
    by_cases h1 : k = off + j0
    · subst h1
      rw [if_neg (by omega)]
      by_cases h2 : off + j0 < cs.size
      · rw [if_pos (by omega), Array.getElem?_setIfInBounds_self_of_lt h2]; simp
      · rw [if_neg (by omega), Array.getElem?_eq_none (by simp; omega), Array.getElem?_eq_none (by omega)]
    · rw [Array.getElem?_setIfInBounds_ne (by omega)]
      by_cases h2 : off + j0 ≤ k ∧ k < off + j0 + (us.length + 1) ∧ k < cs.size
      · rw [if_pos h2, if_pos (by omega), show k - (off + j0) = (k - (off + (j0 + 1))) + 1 by omega, List.getElem?_cons_succ]
      · rw [if_neg h2, if_neg (by omega)]

theorem set_fold_size (us : List Value) : ∀ (cs : Array Value) (off j0 : Nat), ((us.zipIdx j0).foldl (fun cs (p : Value × Nat) => cs.setIfInBounds (off + p.2) p.1) cs).size = cs.size := by
  induction us with
  | nil => intro cs off j0; rfl
  | cons u us ih => intro cs off j0; simp only [List.zipIdx_cons, List.foldl_cons, ih, Array.size_setIfInBounds]

theorem fill_run {sz : Nat} (h0 : 0 < sz) : ∀ (ps : List (Nat × Value)) (k : Nat) (cs : Array Value), ps.map (·.1) = (List.range' k ps.length) → (∀ p ∈ ps, p.2.cells.size = sz) → cs.size = (k + ps.length) * sz →
    ∃ cs', Instr.fill (fun i => some (i * sz, sz)) cs ps = some cs' ∧ cs'.size = cs.size ∧ (∀ j, j < k * sz → cs'[j]? = cs[j]?) ∧ ∀ j, cs'[k * sz + j]? = ((ps.map fun p => p.2.cells.toList).flatten)[j]?
  | [], k, cs, _, _, hsz => ⟨cs, rfl, rfl, fun _ _ => rfl, fun j => by
      rw [Array.getElem?_eq_none (by simp at hsz; omega)]; simp⟩
  | p :: ps, k, cs, hk, hp, hsz => by
    simp only [List.map_cons, List.length_cons, List.range'_succ, List.cons.injEq] at hk
    obtain ⟨i, v⟩ := p
    obtain ⟨hi, hk⟩ := hk
    simp only at hi
    subst hi
    have hv : v.cells.size = sz := hp (i, v) (List.mem_cons_self ..)
    simp only [List.length_cons] at hsz
    have hbig : i * sz + sz ≤ cs.size := by rw [hsz, ← Nat.succ_mul]; exact Nat.mul_le_mul_right _ (by omega)
    let cs1 := v.cells.zipIdx.foldl (fun cs (p : Value × Nat) => cs.setIfInBounds (i * sz + p.2) p.1) cs
    have hcs1 : cs1 = (v.cells.toList.zipIdx 0).foldl (fun cs (p : Value × Nat) => cs.setIfInBounds (i * sz + p.2) p.1) cs := by
      simp only [cs1, ← Array.foldl_toList, Array.toList_zipIdx]
    have hsize1 : cs1.size = cs.size := by rw [hcs1, set_fold_size]
    have hget : ∀ k, cs1[k]? = if i * sz ≤ k ∧ k < i * sz + sz ∧ k < cs.size then v.cells[k - i * sz]? else cs[k]? := by
      intro k
      have := set_fold v.cells.toList cs (i * sz) 0 k
      rw [← hcs1] at this
      simpa [hv] using this
    obtain ⟨cs', f1, f2, f3, f4⟩ := fill_run h0 ps (i + 1) cs1 hk (fun q hq => hp q (List.mem_cons_of_mem _ hq)) (by rw [hsize1, hsz]; congr 1; omega)
    refine ⟨cs', ?_, by rw [f2, hsize1], ?_, ?_⟩
    · simp only [Instr.fill]
      rw [if_neg (by simp [hv]; omega)]
      exact f1
    · intro j hj
      rw [f3 j (by rw [Nat.succ_mul]; omega), hget, if_neg (by omega)]
    · intro j
      simp only [List.map_cons, List.flatten_cons]
      by_cases hj : j < sz
      · rw [List.getElem?_append_left (by simpa [hv] using hj), f3 _ (by rw [Nat.succ_mul]; omega), hget, if_pos (by omega), Nat.add_sub_cancel_left]
        simp
      · rw [List.getElem?_append_right (by simp [hv]; omega)]
        have := f4 (j - sz)
        rw [show (i + 1) * sz + (j - sz) = i * sz + j by rw [Nat.succ_mul]; omega] at this
        rw [this]
        simp [hv]

def bslB (P : Program) (t : TypeId) (n sz : Nat) : Bool := match P.underlying t with
  | some (.slice e) => (match P.info? e with | some i => i.size == sz && decide (0 < sz) && decide (n * sz ≤ 16777216) && i.zero.isSome | none => false)
  | _ => false

theorem bslB_spec {t : TypeId} {n sz : Nat} (h : bslB P t n sz = true) : ∃ e i z, P.underlying t = some (.slice e) ∧ P.info? e = some i ∧ i.zero = some z ∧ i.size = sz ∧ 0 < sz ∧ n * sz ≤ 16777216 := by
  unfold bslB at h
  cases hd : P.underlying t with
  | none => rw [hd] at h; cases h
  | some d =>
    rw [hd] at h
    cases d <;> simp only [] at h <;> try (cases h; done)
    rename_i e
    cases hi : P.info? e with
    | none => rw [hi] at h; cases h
    | some i =>
      rw [hi] at h
      simp only [Bool.and_eq_true, beq_iff_eq, decide_eq_true_eq, Option.isSome_iff_exists] at h
      obtain ⟨⟨⟨h1, h2⟩, h3⟩, z, h4⟩ := h
      exact ⟨e, i, z, rfl, hi, h4, h1, h2, h3⟩

theorem bsl_run {t : TypeId} {n sz : Nat} {ps : Array (Nat × Value)} (hb : bslB P t n sz = true) (hk : ps.toList.map (·.1) = List.range' 0 n) (hp : ∀ p ∈ ps.toList, p.2.cells.size = sz) :
    ∃ (cs : Array Value) (e : TypeId), (Instr.buildSlice t n ps).run P w = .ok (.slice (some ⟨w.heap.size, 0, none⟩) n n) (w.alloc (.cells cs e)) ∧ cs.size = n * sz ∧ ∀ j : Nat, cs[j]? = ((ps.toList.map fun p => p.2.cells.toList).flatten)[j]? := by
  obtain ⟨e, i, z, hd, hi, hz, hs, h0, hn⟩ := bslB_spec hb
  have hlen : ps.toList.length = n := by
    have := congrArg List.length hk
    simpa using this
  have key : ∀ zc : Array Value, ∃ cs', Instr.fill (fun i => some (i * sz, sz)) ((Array.range (n * sz)).map (zc[· % zc.size]!)) ps.toList = some cs' ∧ cs'.size = n * sz ∧ ∀ j : Nat, cs'[j]? = ((ps.toList.map fun p => p.2.cells.toList).flatten)[j]? := by
    intro zc
    obtain ⟨cs', f1, f2, f3, f4⟩ := fill_run h0 ps.toList 0 ((Array.range (n * sz)).map (zc[· % zc.size]!)) (by rw [hlen]; exact hk) hp (by simp [hlen])
    exact ⟨cs', f1, by rw [f2]; simp, fun j => by simpa using f4 j⟩
  by_cases hc : n * sz = 0
  · obtain ⟨cs', k1, k2, k3⟩ := key #[]
    refine ⟨cs', e, ?_, k2, k3⟩
    simp only [Instr.buildSlice]
    simp only [Sem.run_bind, run_underlying hd, Result.andThen_ok, size_run hi, hs]
    rw [if_neg (by omega)]
    simp [hc, k1] at *
    rw [k1]
    simp [newRow]
  · obtain ⟨cs', k1, k2, k3⟩ := key z.cells
    refine ⟨cs', e, ?_, k2, k3⟩
    simp only [Instr.buildSlice]
    simp only [Sem.run_bind, run_underlying hd, Result.andThen_ok, size_run hi, hs]
    rw [if_neg (by omega)]
    simp [hc, zero_run hi hz]
    rw [k1]
    simp [newRow]

end
end TT
