import Derived.Test.YtknfhlnfombmgaaDoorTD11
set_option linter.unusedVariables false
set_option linter.unusedSimpArgs false
namespace TT
open Go

section
variable {P : Program} {c : Ctx} {w w' : World} {B : Nat → Prop} {ρ : Id → Loc} {Sf : Id → Nat → Prop} {X : Nat → Prop} {r : R} {a : Act} {o : Oper} {id0 : Id}

/-- A new root, of what is on the way and of new blocks. -/
theorem Inv.root (hI : Inv c w B ρ Sf X r) (hheap : ∀ b, b < w.heap.size → ¬ X b → w'.heap[b]? = w.heap[b]?) (hsize : w.heap.size ≤ w'.heap.size) (hos : w'.os = w.os) (htp : w'.tape = w.tape) (hout : w'.output = w.output)
    {rows : Rows} {q : Option Addr} {cap d : Nat} {S' : Nat → Prop} (hd : d < r.length) (hr : r.getD d [] = []) (ho : OwS w' B q cap rows S') (hS : ∀ b, S' b → w.heap.size ≤ b ∨ X b) :
    ∃ ρ' Sf', Inv c w' B ρ' Sf' (fun _ => False) (r.set d [.mem rows 0 false]) ∧ (∀ v u, RepV w B ρ r v u → RepV w' B ρ' (r.set d [.mem rows 0 false]) v u) ∧ ρ' (d, 0) = (q, cap) := by
  have hsame : ∀ D : Nat → Prop, (∀ b, D b → b < w.heap.size) → (∀ b, D b → ¬ X b) → Same D w w' := fun D h h' b hb => hheap b (h b hb) (h' b hb)
  let ρ' : Id → Loc := fun id => if id.1 = d then (q, cap) else ρ id
  let Sf' : Id → Nat → Prop := fun id b => if id.1 = d then id.2 = 0 ∧ S' b else Sf id b
  have hρ : ∀ id : Id, id.1 ≠ d → ρ' id = ρ id := fun id h => if_neg h
  have hlt : ∀ id b, Sf id b → b < w.heap.size := fun id b h => (hI.ents id).inHeap b h
  have hSS : ∀ id, Same (Sf id) w w' := fun id => hsame _ (hlt id) fun b hb hx => hI.xd id b hx hb
  have hBB : Same B w w' := hsame B hI.inB fun b hb hx => hI.xb b hx hb
  have hk : ∀ id, Kept w w' B ρ r id := fun id rows stt fx hg => ⟨Sf id, (hI.mem hg).1, hSS id⟩
  have hclaims : ∀ v u, RepV w B ρ r v u → RepV w' B ρ' (r.set d [.mem rows 0 false]) v u := fun v u h =>
    claims_new hd hr hρ (claims_world (fun _ h => h) hBB hk h)
  have hsub : ∀ id b, Sf' id b → (id.1 = d ∧ id.2 = 0 ∧ S' b) ∨ (id.1 ≠ d ∧ Sf id b) := by
    intro id b h
    by_cases e1 : id.1 = d
    · have h' : id.2 = 0 ∧ S' b := by simpa only [Sf', if_pos e1] using h
      exact .inl ⟨e1, h'.1, h'.2⟩
    · exact .inr ⟨e1, by simpa only [Sf', if_neg e1] using h⟩
  have hno : ∀ b, S' b → ∀ id, ¬ Sf id b := by
    intro b hb id h
    rcases hS b hb with h' | h'
    · exact absurd (hlt id b h) (by omega)
    · exact hI.xd id b h' h
  refine ⟨ρ', Sf', ?_, hclaims, if_pos rfl⟩
  constructor
  · intro id
    rw [getE_new hd hr]
    by_cases e1 : id.1 = d
    · rw [if_pos e1]
      have hS' : Sf' id = fun b => id.2 = 0 ∧ S' b := funext fun b => by simp only [Sf', if_pos e1]
      rw [hS']
      obtain ⟨i1, i2⟩ := id
      cases i2 with
      | zero =>
        simp only [List.getD_cons_zero]
        have hq : ρ' (i1, 0) = (q, cap) := if_pos e1
        unfold EntRep
        rw [hq]
        have he : (fun b => True ∧ S' b) = S' := funext fun b => by simp
        rw [he]
        exact ⟨ho, fun h => by cases h⟩
      | succ n => exact fun b hb => by simp at hb
    · rw [if_neg e1]
      have hS' : Sf' id = Sf id := funext fun b => by simp only [Sf', if_neg e1]
      rw [hS']
      have h1 := hI.ents id
      cases he : getE r id with
      | dead => rw [he] at h1; exact h1
      | mem rows1 stt fx =>
        rw [he] at h1
        exact ⟨by rw [hρ id e1]; exact OwS.same (fun _ h => h) hBB (hSS id) h1.1, fun h => by rw [hρ id e1]; exact h1.2 h⟩
  · intro id id' b h h'
    rcases hsub id b h with ⟨a1, a2, a3⟩ | ⟨a1, a2⟩ <;> rcases hsub id' b h' with ⟨b1, b2, b3⟩ | ⟨b1, b2⟩
    · exact Prod.ext (a1.trans b1.symm) (a2.trans b2.symm)
    · exact absurd b2 (hno b a3 id')
    · exact absurd a2 (hno b b3 id)
    · exact hI.disj id id' b a2 b2
  · intro id b h
    rcases hsub id b h with ⟨a1, a2, a3⟩ | ⟨a1, a2⟩
    · rcases hS b a3 with h' | h'
      · exact fun hb => absurd (hI.inB _ hb) (by omega)
      · exact hI.xb b h'
    · exact hI.nb id b a2
  · exact fun b h => h.elim
  · exact fun id b h => h.elim
  · exact fun b hb => Nat.lt_of_lt_of_le (hI.inB b hb) hsize
  · exact fun b h => h.elim
  · intro id b h
    rcases hsub id b h with ⟨a1, a2, a3⟩ | ⟨a1, a2⟩
    · rcases hS b a3 with h' | h'
      · exact .inr (Nat.le_trans hI.size h')
      · exact hI.ownX b h'
    · exact hI.own id b a2
  · exact fun b h => h.elim
  · exact hI.old
  · exact hI.sh
  · exact Nat.le_trans hI.size hsize
  · intro b hb hn
    have hx : ¬ X b := fun hx => by
      rcases hI.ownX b hx with h | h
      · exact hn h
      · omega
    rw [hheap b (Nat.lt_of_lt_of_le hb hI.size) hx]
    exact hI.frame b hb hn
  · rw [hos]; exact hI.os
  · rw [htp]; exact hI.tape
  · rw [hout]; exact hI.output

/-- One root's content has turned: of its own blocks, of what is on the way and of new blocks. ρ': where it now lies. -/
theorem Inv.turn (hI : Inv c w B ρ Sf X r) {rows : Rows} {stt : Nat} {fx : Bool} (h0 : getE r id0 = .mem rows stt fx) (hheap : ∀ b, b < w.heap.size → ¬ X b → ¬ Sf id0 b → w'.heap[b]? = w.heap[b]?) (hsize : w.heap.size ≤ w'.heap.size)
    (hos : w'.os = w.os) (htp : w'.tape = w.tape) (hout : w'.output = w.output) {rows' : Rows} {stt' : Nat} {fx' : Bool} {ρ' : Id → Loc} (hρ : ∀ id, id ≠ id0 → ρ' id = ρ id) {S' : Nat → Prop} (ho : OwS w' B (ρ' id0).1 (ρ' id0).2 rows' S')
    (hS : ∀ b, S' b → w.heap.size ≤ b ∨ X b ∨ Sf id0 b) (hfx : fx' = true → ρ' id0 = c.q0 id0 ∧ rows'.length = c.n0 id0)
    (hclaims : (∀ id, id ≠ id0 → Kept w w' B ρ r id) → Same B w w' → ∀ v u, RepV w B ρ r v u → RepV w' B ρ' (setE r id0 (.mem rows' stt' fx')) v u) :
    ∃ Sf', Inv c w' B ρ' Sf' (fun _ => False) (setE r id0 (.mem rows' stt' fx')) ∧ (∀ v u, RepV w B ρ r v u → RepV w' B ρ' (setE r id0 (.mem rows' stt' fx')) v u) := by
  have hlt : ∀ id b, Sf id b → b < w.heap.size := fun id b h => (hI.ents id).inHeap b h
  have hSS : ∀ id, id ≠ id0 → Same (Sf id) w w' := fun id hne b hb => hheap b (hlt id b hb) (fun hx => hI.xd id b hx hb) (fun h => hne (hI.disj id id0 b hb h))
  have hBB : Same B w w' := fun b hb => hheap b (hI.inB b hb) (fun hx => hI.xb b hx hb) (fun h => hI.nb id0 b h hb)
  have hcl := hclaims (fun id hne rows stt fx hg => ⟨Sf id, (hI.mem hg).1, hSS id hne⟩) hBB
  have hth : There r id0 := getE_there (by rw [h0]; simp)
  let Sf' : Id → Nat → Prop := fun id b => (id ≠ id0 ∧ Sf id b) ∨ (id = id0 ∧ S' b)
  have hno : ∀ b, S' b → ∀ id, id ≠ id0 → ¬ Sf id b := by
    intro b hb id hne h
    rcases hS b hb with h' | h' | h'
    · exact absurd (hlt id b h) (by omega)
    · exact hI.xd id b h' h
    · exact hne (hI.disj id id0 b h h')
  refine ⟨Sf', ?_, hcl⟩
  constructor
  · intro id
    by_cases e1 : id0 = id
    · subst e1
      rw [getE_setE_same hth]
      have he : Sf' id0 = S' := funext fun b => propext ⟨fun h => h.elim (fun h => absurd rfl h.1) (fun h => h.2), fun h => .inr ⟨rfl, h⟩⟩
      rw [he]
      exact ⟨ho, hfx⟩
    · rw [getE_setE_other e1]
      have he : Sf' id = Sf id := funext fun b => propext ⟨fun h => h.elim (fun h => h.2) (fun h => absurd h.1.symm e1), fun h => .inl ⟨Ne.symm e1, h⟩⟩
      rw [he]
      have h1 := hI.ents id
      cases hh : getE r id with
      | dead => rw [hh] at h1; exact h1
      | mem rows1 stt1 fx1 =>
        rw [hh] at h1
        exact ⟨by rw [hρ id (Ne.symm e1)]; exact OwS.same (fun _ h => h) hBB (hSS id (Ne.symm e1)) h1.1, fun h => by rw [hρ id (Ne.symm e1)]; exact h1.2 h⟩
  · intro id id' b h h'
    rcases h with ⟨a1, a2⟩ | ⟨a1, a2⟩ <;> rcases h' with ⟨b1, b2⟩ | ⟨b1, b2⟩
    · exact hI.disj id id' b a2 b2
    · exact absurd a2 (hno b b2 id a1)
    · exact absurd b2 (hno b a2 id' b1)
    · exact a1.trans b1.symm
  · intro id b h
    rcases h with ⟨a1, a2⟩ | ⟨a1, a2⟩
    · exact hI.nb id b a2
    · rcases hS b a2 with h' | h' | h'
      · exact fun hb => absurd (hI.inB _ hb) (by omega)
      · exact hI.xb b h'
      · exact hI.nb id0 b h'
  · exact fun b h => h.elim
  · exact fun id b h => h.elim
  · exact fun b hb => Nat.lt_of_lt_of_le (hI.inB b hb) hsize
  · exact fun b h => h.elim
  · intro id b h
    rcases h with ⟨a1, a2⟩ | ⟨a1, a2⟩
    · exact hI.own id b a2
    · rcases hS b a2 with h' | h' | h'
      · exact .inr (Nat.le_trans hI.size h')
      · exact hI.ownX b h'
      · exact hI.own id0 b h'
  · exact fun b h => h.elim
  · exact hI.old
  · exact hI.sh
  · exact Nat.le_trans hI.size hsize
  · intro b hb hn
    have hx : ¬ X b := fun hx => by
      rcases hI.ownX b hx with h | h
      · exact hn h
      · omega
    have hs : ¬ Sf id0 b := fun hx => by
      rcases hI.own id0 b hx with h | h
      · exact hn h
      · omega
    rw [hheap b (Nat.lt_of_lt_of_le hb hI.size) hx hs]
    exact hI.frame b hb hn
  · rw [hos]; exact hI.os
  · rw [htp]; exact hI.tape
  · rw [hout]; exact hI.output

/-! ### Storing -/

theorem setCell_heap {w : World} {b k : Nat} {cur : Array Value} {e : TypeId} {f : Nat × Nat} {u : Value} (h : w.heap[b]? = some (.cells cur e f)) : (w.setCell ⟨b, k, none⟩ u).heap[b]? = some (.cells (cur.setIfInBounds k u) e f) := by
  simp [World.setCell, Array.getElem?_modify, h]
theorem setCell_heap_ne {w : World} {b k x : Nat} {u : Value} (h : x ≠ b) : (w.setCell ⟨b, k, none⟩ u).heap[x]? = w.heap[x]? := by
  simp [World.setCell, Array.getElem?_modify, Ne.symm h]

theorem store_own {b k : Nat} {cur : Array Value} {e : TypeId} {u0 u : Value} (h : w.heap[b]? = some (.cells cur e (0, 0))) (hc : cur[k]? = some u0) (h1 : u.oneCell' = true) : (store ⟨b, k, none⟩ u).run P w = .ok () (w.setCell ⟨b, k, none⟩ u) := by
  rw [run_store P w _ u .plain h1]
  have : w.cell? ⟨b, k, none⟩ = some u0 := by rw [cell_row h]; exact hc
  rw [this]
  have hf : w.frozen? ⟨b, k, none⟩ = false := by simp [World.frozen?, h]
  simp [hf]

theorem setCs_length : ∀ (ts : List T) (rows : Rows) (p : Path) (i k : Nat), (setCs rows p i k ts).length = rows.length
  | [], rows, p, i, k => rfl
  | t :: ts, rows, p, i, k => by simp only [setCs, setCs_length, setC_length]

theorem setC_rows {rows : Rows} {p : Path} {I C : Nat} {t : T} : ∀ (i : Nat) (row' : List T), (setC rows p I C t)[i]? = some row' → ∃ row : List T, rows[i]? = some row ∧ row.length = row'.length := by
  intro i row' h
  cases p with
  | nil =>
    obtain ⟨row, h1, h2, _⟩ := setRC_row h
    exact ⟨row, h1, h2⟩
  | cons x p =>
    obtain ⟨i0, c0⟩ := x
    simp only [setC] at h
    split at h
    · obtain ⟨row, h1, h2, _⟩ := setRC_row h
      exact ⟨row, h1, h2⟩
    · exact ⟨row', h, rfl⟩

theorem setCs_rows : ∀ (ts : List T) {rows : Rows} {p : Path} {I C : Nat} (i : Nat) (row' : List T), (setCs rows p I C ts)[i]? = some row' → ∃ row : List T, rows[i]? = some row ∧ row.length = row'.length
  | [], rows, p, I, C, i, row', h => ⟨row', h, rfl⟩
  | t :: ts, rows, p, I, C, i, row', h => by
    simp only [setCs] at h
    obtain ⟨row1, h1, h2⟩ := setCs_rows ts i row' h
    obtain ⟨row, h3, h4⟩ := setC_rows i row1 h1
    exact ⟨row, h3, by omega⟩

/-- The row itself, behind one store. -/
theorem row_setC : ∀ (p : Path) {rows : Rows} {i k : Nat} {t : T} {row : List T}, (getP rows p).bind (·[i]?) = some row → (getP (setC rows p i k t) p).bind (·[i]?) = some (row.set k t)
  | [], rows, i, k, t, row, h => by
    simp only [getP, Option.bind_some] at h
    simp only [setC, getP, Option.bind_some, setRC, h]
    have := (List.getElem?_eq_some_iff.1 h).1
    simp [this]
  | (i0, c0) :: p, rows, i, k, t, row, h => by
    simp only [getP] at h
    cases hrc : rows[i0]?.bind (·[c0]?) with
    | none => simp [hrc] at h
    | some t0 =>
      cases t0 with
      | v x => simp [hrc] at h
      | hole => simp [hrc] at h
      | sl own rows1 => cases own with
        | false => simp [hrc] at h
        | true =>
          simp only [hrc] at h
          obtain ⟨row0, h1, h2⟩ := Option.bind_eq_some_iff.1 hrc
          have l1 := (List.getElem?_eq_some_iff.1 h1).1
          have l2 := (List.getElem?_eq_some_iff.1 h2).1
          have hset : setC rows ((i0, c0) :: p) i k t = rows.set i0 (row0.set c0 (.sl true (setC rows1 p i k t))) := by simp only [setC, hrc]; simp only [setRC, h1]
          have hget : (rows.set i0 (row0.set c0 (.sl true (setC rows1 p i k t))))[i0]?.bind (·[c0]?) = some (.sl true (setC rows1 p i k t)) := by simp [l1, l2]
          rw [hset]
          simp only [getP, hget]
          exact row_setC p h

theorem stores_own {b i : Nat} {p : Path} {q : Option Addr} {cap : Nat} : ∀ (ts : List T) {us : List Value} {w : World} {rows : Rows} {row : List T} {S T' : Nat → Prop} {k cc j : Nat}, OwS w B q cap rows S → (getP rows p).bind (·[i]?) = some row → cc + ts.length ≤ row.length →
    (ts ≠ [] → LocAt w q rows p i cc b (k + j)) → OwVs w B ts us T' → (∀ x, T' x → ¬ S x) → (∀ x, S x → ¬ B x) → (∀ x, T' x → ¬ B x) →
    ∃ w', (storeCells ⟨b, k, none⟩ us j).run P w = .ok () w' ∧ w'.heap.size = w.heap.size ∧ (∀ x, x ≠ b → w'.heap[x]? = w.heap[x]?) ∧ w'.os = w.os ∧ w'.tape = w.tape ∧ w'.output = w.output ∧
      ∃ S', OwS w' B q cap (setCs rows p i cc ts) S' ∧ ∀ x, S' x → S x ∨ T' x
  | [], us, w, rows, row, S, T', k, cc, j, ho, hr, hl, hloc, hv, hd, hSB, hTB => by
    simp only [OwVs] at hv
    rw [hv.1]
    exact ⟨w, rfl, rfl, fun _ _ => rfl, rfl, rfl, rfl, S, ho, fun _ h => .inl h⟩
  | t :: ts, us, w, rows, row, S, T', k, cc, j, ho, hr, hl, hloc, hv, hd, hSB, hTB => by
    simp only [OwVs] at hv
    obtain ⟨u, us', T1, T2, rfl, hu1, hu2, hu3, hsp⟩ := hv
    have hloc := hloc (by simp)
    have hlt : cc < row.length := by simp at hl; omega
    have hg : getC rows p i cc = some row[cc] := by rw [getC_of_row hr]; simp [hlt]
    obtain ⟨b', k', cur, e, u0, S1, S2, l1, l2, l3, l4, l5, l6, l7, l8⟩ := OwS.lens p ho hg
    obtain ⟨rfl, rfl⟩ := LocAt.unique p l1 hloc
    have hrun := store_own (P := P) l2 l3 hu1
    have hSb : S b' := l6.right l7
    have hother : ∀ x, x ≠ b' → (w.setCell ⟨b', k + j, none⟩ u).heap[x]? = w.heap[x]? := fun x hx => setCell_heap_ne hx
    have hown := l8 (w.setCell ⟨b', k + j, none⟩ u) B t u T1 (fun _ h => h) (fun x hx => hother x (fun e => hSB b' hSb (e ▸ hx))) (fun x _ hx => hother x hx) (setCell_heap l2) hu1
      (OwC.same (fun _ h => h) (fun x hx => hother x (fun e => hSB b' hSb (e ▸ hx))) (fun x hx => hother x (fun e => hd x (hsp.left hx) (e ▸ hSb))) hu2) (fun x hx hx' => hd x (hsp.left hx) (l6.right hx'))
    have hput := LocAt.put p (t' := t) (w' := w.setCell ⟨b', k + j, none⟩ u) ho hg hloc (fun x o' hne => by
      by_cases e : x = b'
      · subst e
        have ho' : o' ≠ k + j := fun e => hne ⟨rfl, e⟩
        rw [cell_row (setCell_heap l2), cell_row l2, Array.getElem?_setIfInBounds_ne (Ne.symm ho')]
      · exact cell_same (hother x e) o')
    obtain ⟨w2, m1, m2, m3, m4, m5, m6, S', m7, m8⟩ := stores_own ts (w := w.setCell ⟨b', k + j, none⟩ u) (us := us') (row := row.set cc t) (k := k) (cc := cc + 1) (j := j + 1) hown (row_setC p hr) (by simp at hl ⊢; omega) (fun hne => by
      have := LocAt.shift (j := 1) p hput.1 (row_setC p hr) (by
        simp only [List.length_set]
        simp at hl
        have : 0 < ts.length := List.length_pos_iff.2 hne
        omega)
      rwa [show k + (j + 1) = k + j + 1 by omega]) (OwVs.same (fun _ h => h) (fun x hx => hother x (fun e => hSB b' hSb (e ▸ hx))) (fun x hx => hother x (fun e => hd x (hsp.right hx) (e ▸ hSb))) hu3)
      (fun x hx hx' => by
        rcases hx' with h | h
        · exact hsp.2 x h hx
        · exact hd x (hsp.right hx) (l6.right h))
      (fun x hx => by
        rcases hx with h | h
        · exact hTB x (hsp.left h)
        · exact hSB x (l6.right h)) (fun x hx => hTB x (hsp.right hx))
    refine ⟨w2, ?_, ?_, ?_, m4, m5, m6, S', m7, ?_⟩
    · simp only [storeCells, add_addr]
      rw [Sem.run_bind, hrun]
      exact m1
    · rw [m2]; simp
    · intro x hx
      rw [m3 x hx, hother x hx]
    · intro x hx
      rcases m8 x hx with (h | h) | h
      · exact .inr (hsp.left h)
      · exact .inl (l6.right h)
      · exact .inr (hsp.right h)

end
end TT
