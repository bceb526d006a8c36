import Derived.Test.YtknfhlnfombmgaaDoorTD10
set_option linter.unusedVariables false
set_option linter.unusedSimpArgs false
namespace TT
open Go

section
variable {P : Program} {c : Ctx} {w w' : World} {B : Nat → Prop} {ρ : Id → Loc} {Sf : Id → Nat → Prop} {X : Nat → Prop} {r : R} {a : Act} {o : Oper}

theorem take_nd {α : Type} {call : CallF} {d : Nat} {v : V} {k : T → M α} {x : α × R} (h : (take v k).run call d r = some x) : v ≠ .dead ∧ ∃ t r', (k t).run call d r' = some x := by
  cases v with
  | t c => exact ⟨by simp, c, r, h⟩
  | nil => exact ⟨by simp, _, r, h⟩
  | ref id n =>
    refine ⟨by simp, ?_⟩
    simp only [take, M.run] at h
    split at h
    · split at h
      · exact ⟨_, _, h⟩
      · simp [M.run] at h
    · simp [M.run] at h
  | sub id p i ci n st =>
    refine ⟨by simp, ?_⟩
    simp only [take, M.run] at h
    split at h
    · split at h
      · split at h
        · split at h
          · exact ⟨_, _, h⟩
          · simp [M.run] at h
        · simp [M.run] at h
      · simp [M.run] at h
    · simp [M.run] at h
  | _ => simp [take, M.run] at h

theorem takes_nd {α : Type} {call : CallF} {d : Nat} : ∀ {vs : List V} {k : List T → M α} {x : α × R} {r : R}, (takes vs k).run call d r = some x → (∀ v ∈ vs, v ≠ .dead) ∧ ∃ t r', (k t).run call d r' = some x
  | [], k, x, r, h => ⟨by simp, _, _, h⟩
  | v :: vs, k, x, r, h => by
    simp only [takes] at h
    obtain ⟨h1, t, r1, h2⟩ := take_nd h
    obtain ⟨h3, h4⟩ := takes_nd h2
    refine ⟨fun u hu => ?_, ?_⟩
    · rcases List.mem_cons.1 hu with rfl | hu
      · exact h1
      · exact h3 u hu
    · obtain ⟨ts, r2, h5⟩ := h4
      exact ⟨_, _, h5⟩

theorem takeRows_nd {α : Type} {call : CallF} {d : Nat} : ∀ {vss : List (List V)} {k : Rows → M α} {x : α × R} {r : R}, (takeRows vss k).run call d r = some x → ∀ vs ∈ vss, ∀ v ∈ vs, v ≠ .dead
  | [], k, x, r, h => by simp
  | v :: vs, k, x, r, h => by
    simp only [takeRows] at h
    obtain ⟨h1, t, r1, h2⟩ := takes_nd h
    intro u hu
    rcases List.mem_cons.1 hu with rfl | hu
    · exact h1
    · exact takeRows_nd h2 u hu

theorem rows_rep : ∀ {vs : List V} {us : List Value}, RepVs w B ρ r vs us → (∀ v ∈ vs, v ≠ .dead) → RepVss w B ρ r (vs.map cellsOf) (us.map fun u => u.cells.toList)
  | [], us, h, _ => by simp only [RepVs] at h; subst h; simp [RepVss]
  | v :: vs, us, h, hn => by
    simp only [RepVs] at h
    obtain ⟨u, us', rfl, h1, h2⟩ := h
    simp only [List.map_cons, RepVss]
    exact ⟨_, _, rfl, cellsOf_rep h1 (hn v (List.mem_cons_self ..)), rows_rep h2 fun v hv => hn v (List.mem_cons_of_mem _ hv)⟩

theorem OwVss.sizes {sz : Nat} : ∀ {ts : Rows} {uss : List (List Value)} {S : Nat → Prop}, OwVss w B sz ts uss S → uss.length = ts.length ∧ ∀ us ∈ uss, us.length = sz
  | [], us, S, h => by simp only [OwVss] at h; simp [h.1]
  | t :: ts, us, S, h => by
    simp only [OwVss] at h
    obtain ⟨u, us', S1, S2, rfl, h0, h1, h2, h3⟩ := h
    obtain ⟨g1, g2⟩ := OwVss.sizes h2
    refine ⟨by simp [g1], fun x hx => ?_⟩
    rcases List.mem_cons.1 hx with rfl | hx
    · rw [OwVs.length h1, h0]
    · exact g2 x hx

def agParts (ps : List Opd) (qs : List (Nat × Operand)) (n : Nat) : Bool := qs.map (·.1) == List.range' 0 n && agOs ps (qs.map (·.2))

theorem dead_cells {vs : List V} (h : ∀ l ∈ vs.map cellsOf, ∀ v ∈ l, v ≠ .dead) : ∀ v ∈ vs, v ≠ .dead := by
  intro v hv e
  subst e
  exact h [.dead] (List.mem_map.2 ⟨.dead, hv, rfl⟩) .dead (List.mem_singleton.2 rfl) rfl

/-- A slice that is written out. -/
theorem bsl_ok (hI : Inv c w B ρ Sf (fun _ => False) r) {t : TypeId} {n sz : Nat} {qs : Array (Nat × Operand)} {s : List V} {ps : List Opd} (h : o.op = .buildSlice t n qs) (hb : bslB P t n sz = true) (hp : agParts ps qs.toList n = true) (hs : Slots w B ρ r s a) {call : CallF} {d : Nat} {x : V × R}
    (hrun : (takeRows (ps.map fun q => cellsOf (evalO s q)) fun rs => if rs.all fun r => r.length == sz then .new [.mem rs 0 false] (.ret (.ref (d, 0) rs.length)) else .fail).run call d r = some x) :
    ∃ w' u ρ' Sf', Yes P o a w u w' ∧ Inv c w' B ρ' Sf' (fun _ => False) x.2 ∧ x.2.length = r.length ∧ (∀ v u, RepV w B ρ r v u → RepV w' B ρ' x.2 v u) ∧ RepV w' B ρ' x.2 x.1 u := by
  simp only [agParts, Bool.and_eq_true, beq_iff_eq] at hp
  have hreps := hs.evals hp.2
  have hm : (ps.map fun q => cellsOf (evalO s q)) = (ps.map (evalO s)).map cellsOf := by simp
  rw [hm] at hrun
  have hnd := dead_cells (takeRows_nd hrun)
  obtain ⟨tss, Sf1, r1, g1, g2, _, g3, g4⟩ := takeRows_run (sz := sz) hrun hI (rows_rep hreps hnd)
  split at g1
  · rename_i hall
    have hall' : ∀ t ∈ tss, t.length = sz := by simpa using hall
    obtain ⟨S, k1, k2, k3⟩ := g3 hall'
    obtain ⟨hd, hr, g1⟩ := new_run g1
    simp only [M.run, Option.some.injEq] at g1
    subst g1
    have hpl : (qs.toList.map (·.2)).length = ps.length := by
      have := RepVs.length hreps
      simpa using this
    have hnq : qs.toList.length = n := by have := congrArg List.length hp.1; simpa using this
    have hn : tss.length = n := by rw [g2]; simp only [List.length_map] at hpl ⊢; rw [← hpl, ← hnq]
    obtain ⟨s1, s2⟩ := OwVss.sizes k1
    obtain ⟨cs, e, f1, f2, f3⟩ := bsl_run (w := w) (ps := qs.map fun (i, x) => (i, a.eval x)) hb (by simpa [Function.comp_def] using hp.1) (by
      intro p hpm
      simp only [Array.toList_map, List.mem_map] at hpm
      obtain ⟨q, hq, rfl⟩ := hpm
      have := s2 (a.eval q.2).cells.toList (by
        simp only [List.mem_map]
        exact ⟨a.eval q.2, ⟨q.2, ⟨q, hq, rfl⟩, rfl⟩, rfl⟩)
      simpa using this)
    obtain ⟨_, _, _, _, _, _, _, h0, hbig⟩ := bslB_spec hb
    have hnle : n ≤ maxLen := by
      have h1 : n * 1 ≤ n * sz := Nat.mul_le_mul_left _ h0
      have : maxLen = 9223372036854775807 := rfl
      omega
    have hw : (w.alloc (.cells cs e)).heap = w.heap.push (.cells cs e (0, 0)) := rfl
    obtain ⟨ρ', Sf', m1, m2, m3⟩ := put_row k2 (w' := w.alloc (.cells cs e)) hw rfl rfl rfl hd hr (cap := n) k1 (fun j u hj => by
      rw [f3 j]
      rw [← hj]
      congr 2
      simp [Function.comp_def]) (by omega) (fun h => by rw [← hn, h]; rfl) hnle f2 h0 (fun b hb => .inr hb)
    refine ⟨_, _, ρ', Sf', yes_of (by unfold execOp; rw [h]) f1, m1, by rw [List.length_set, g4.size], fun v u hh => m2 v u (g4.claims v u hh), ?_⟩
    have := new_ref (w' := w.alloc (.cells cs e)) (B' := B) (rows := tss) hd hr m3 (by omega)
    rw [hn] at this ⊢
    exact this
  · simp [M.run] at g1

theorem flat_rep (l : List Value) : ∀ (n j : Nat), ((List.replicate n l).flatten)[j]? = if j < n * l.length then l[j % l.length]? else none
  | 0, j => by simp
  | n + 1, j => by
    rw [List.replicate_succ, List.flatten_cons]
    by_cases h : j < l.length
    · rw [List.getElem?_append_left h, if_pos (by rw [Nat.succ_mul]; omega), Nat.mod_eq_of_lt h]
    · rw [List.getElem?_append_right (by omega), flat_rep l n, Nat.succ_mul]
      have hm : (j - l.length) % l.length = j % l.length := by
        conv => rhs; rw [show j = (j - l.length) + l.length by omega, Nat.add_mod_right]
      rw [hm]
      by_cases h2 : j - l.length < n * l.length
      · rw [if_pos h2, if_pos (by omega)]
      · rw [if_neg h2, if_neg (by omega)]

theorem OwVss.rep {z : List T} {us : List Value} (h : OwVs w B z us (fun _ => False)) : ∀ (n : Nat), OwVss w B z.length (List.replicate n z) (List.replicate n us) (fun _ => False)
  | 0 => by simp only [List.replicate_zero, OwVss]; exact ⟨trivial, fun _ h => h⟩
  | n + 1 => by
    simp only [List.replicate_succ, OwVss]
    exact ⟨us, _, _, _, rfl, trivial, h, OwVss.rep h n, ⟨fun b => by simp, fun b (h : False) => h.elim⟩⟩

def mksB (P : Program) (t : TypeId) (z : List T) (byt : Nat) : Bool := match P.underlying t with
  | some (.slice e) => zeroB P e z && (match P.info? e with | some i => i.bytes == byt | none => false)
  | _ => false

theorem mks_ok (hI : Inv c w B ρ Sf (fun _ => False) r) {t : TypeId} {z : List T} {byt : Nat} {y : Operand} (h : o.op = .makeSlice t y y) (hb : mksB P t z byt = true) {kd : IntKind} {n : Int} (hy : a.eval y = .int kd n)
    (hn : 0 ≤ n) (hl : n.toNat * byt ≤ LIM) (h1 : 0 < byt) {d : Nat} (hd : d < r.length) (hr : r.getD d [] = []) :
    ∃ w' u ρ' Sf', Yes P o a w u w' ∧ Inv c w' B ρ' Sf' (fun _ => False) (r.set d [.mem (List.replicate n.toNat z) 0 false]) ∧ (∀ v u, RepV w B ρ r v u → RepV w' B ρ' (r.set d [.mem (List.replicate n.toNat z) 0 false]) v u) ∧
      RepV w' B ρ' (r.set d [.mem (List.replicate n.toNat z) 0 false]) (.ref (d, 0) n.toNat) u := by
  unfold mksB at hb
  cases hu : P.underlying t with
  | none => rw [hu] at hb; cases hb
  | some dd =>
    rw [hu] at hb
    cases dd <;> simp only [] at hb <;> try (cases hb; done)
    rename_i e
    simp only [Bool.and_eq_true] at hb
    obtain ⟨i, v, hi, hv, he, hne, hsz⟩ := zeroB_spec hb.1
    have hbyt : i.bytes = byt := by have := hb.2; rw [hi] at this; simpa using this
    have hLIM : LIM = 140737488351232 := rfl
    have hN : n.toNat ≤ n.toNat * byt := Nat.le_mul_of_pos_right _ h1
    have hmax : maxLen = 9223372036854775807 := rfl
    have hb1 : ((i.bytes : Int) * n) ≤ 281474976710656 := by
      have h2 : ((n.toNat * byt : Nat) : Int) ≤ 140737488351232 := by omega
      rw [Int.natCast_mul, Int.toNat_of_nonneg hn] at h2
      rw [hbyt, Int.mul_comm]
      omega
    have hrun := run_make w t e i v hu hi hv kd kd n n hn (Int.le_refl _) hb1 (by omega)
    obtain ⟨_, g2, g3⟩ := eqZ_reps (w := w) (B := B) (ρ := ρ) (r := r) he
    have hw : (w.alloc (.cells (madeCells v.cells (n.toNat * i.size)) e)).heap = w.heap.push (.cells (madeCells v.cells (n.toNat * i.size)) e (0, 0)) := rfl
    have hzl : 0 < z.length := by cases z with | nil => exact absurd rfl hne | cons x xs => simp
    have hvl : v.cells.size = z.length := by rw [g3]; simp
    obtain ⟨ρ', Sf', m1, m2, m3⟩ := put_row hI (w' := w.alloc (.cells (madeCells v.cells (n.toNat * i.size)) e)) hw rfl rfl rfl hd hr (cap := n.toNat) (OwVss.rep g2 n.toNat) (fun j u hj => by
      rw [flat_rep] at hj
      split at hj
      · rename_i hlt
        have hlt' : j < n.toNat * v.cells.size := by simpa using hlt
        simp only [madeCells, hsz]
        rw [Array.getElem?_map, Array.getElem?_range, if_pos (by rw [← hvl]; exact hlt')]
        simp only [Option.map_some]
        rw [← hj]
        have hmod : j % v.cells.size < v.cells.size := Nat.mod_lt _ (by omega)
        simp [hmod]
      · cases hj) (by simp) (fun h => by simpa using h) (by omega) (by rw [size_madeCells, hsz]) hzl (fun _ h => h)
    refine ⟨_, _, ρ', Sf', yes_of (by unfold execOp; rw [h]) (by rw [hy]; exact hrun), m1, m2, ?_⟩
    have := new_ref (w' := w.alloc (.cells (madeCells v.cells (n.toNat * i.size)) e)) (B' := B) (rows := List.replicate n.toNat z) hd hr m3 (by simp)
    simpa using this

end
end TT
