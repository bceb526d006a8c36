import Derived.Test.YtknfhlnfombmgaaDoorTD13
set_option linter.unusedVariables false
set_option linter.unusedSimpArgs false
namespace TT
open Go

section
variable {P : Program} {c : Ctx} {w w' : World} {B : Nat → Prop} {ρ : Id → Loc} {Sf : Id → Nat → Prop} {X : Nat → Prop} {r : R} {a : Act} {o : Oper} {id0 : Id}

theorem run_room {t ty e : TypeId} {e' : TypeId} {i : TypeInfo} (ht : P.underlying t = some (.slice e)) (hi : P.info? e = some i)
    {g sLen sCap : Nat} {cur : Array Value} (hg : w.heap[g]? = some (.cells cur e' (0, 0)))
    {a : Addr} {m c : Nat} {news : List Value} (hl : news.length = m * i.size) (hnews : ∀ (j : Nat) u, news[j]? = some u → w.cell? (a.add j) = some u) (h1 : ∀ u ∈ news, u.oneCell' = true)
    (hroom : sLen + m ≤ sCap) (hfit : sLen * i.size + news.length ≤ cur.size) :
    (Builtin.append_ #[t, t] ty #[.slice (some ⟨g, 0, none⟩) sLen sCap, .slice (some a) m c]).run P w =
      .ok (.slice (some ⟨g, 0, none⟩) (sLen + m) sCap) (w.setRow g (cur.toList.take (sLen * i.size) ++ news ++ cur.toList.drop (sLen * i.size + news.length)).toArray) := by
  have hf := run_firstCells_some (P := P) w i.size m a m c news hl hnews
  have hst := run_storeCells_at P g (sLen * i.size) e' news 0 cur w hg (by simpa using hfit) h1
  simp only [Nat.add_zero] at hst
  simp [Builtin.append_, run_underlying ht, Go.sizeOf, typeInfo, hi, Builtin.lenOf, hroom, hf, Addr.add_lit, hst]

/-- Where the new elements stand. -/
def Src (w : World) (ux : Value) (uss : List (List Value)) : Prop :=
  (uss = [] ∧ ∃ q c, ux = .slice q 0 c) ∨ ∃ b k c, ux = .slice (some ⟨b, k, none⟩) uss.length c ∧ Cells w b k uss.flatten

theorem run_none {t ty e : TypeId} {i : TypeInfo} (ht : P.underlying t = some (.slice e)) (hi : P.info? e = some i) {q q' : Option Addr} {sLen sCap c : Nat} (hroom : sLen ≤ sCap) :
    (Builtin.append_ #[t, t] ty #[.slice q sLen sCap, .slice q' 0 c]).run P w = .ok (.slice q sLen sCap) w := by
  have hf : (Builtin.firstCells i.size 0 (.slice q' 0 c)).run P w = .ok #[] w := by
    cases q' with
    | none => simp [Builtin.firstCells]
    | some a => simp [Builtin.firstCells, loadCells, loadCellsFrom]
  cases q <;> simp [Builtin.append_, run_underlying ht, Go.sizeOf, typeInfo, hi, Builtin.lenOf, hroom, hf, storeCells]

structure AppRes (w w' : World) (B : Nat → Prop) (q : Option Addr) (cap : Nat) (rows new : Rows) (sz : Nat) (S Sn : Nat → Prop) (q' : Option Addr) (cap' : Nat) : Prop where
  own : ∃ S', OwS w' B q' cap' (rows ++ new) S' ∧ ∀ b, S' b → S b ∨ Sn b ∨ w.heap.size ≤ b
  size : w.heap.size ≤ w'.heap.size
  heap : ∀ b, b < w.heap.size → q ≠ some ⟨b, 0, none⟩ → w'.heap[b]? = w.heap[b]?
  os : w'.os = w.os
  tape : w'.tape = w.tape
  output : w'.output = w.output
  nil : new = [] → q' = q ∧ cap' = cap
  cells : ∀ b, q = some ⟨b, 0, none⟩ → ∃ b', q' = some ⟨b', 0, none⟩ ∧ ∀ k, k < rows.length * sz → w'.cell? ⟨b', k, none⟩ = w.cell? ⟨b, k, none⟩
  le : rows.length + new.length ≤ cap'

theorem AppRes.refl {q : Option Addr} {cap sz : Nat} {rows : Rows} {S Sn : Nat → Prop} (ho : OwS w B q cap rows S) : AppRes w w B q cap rows [] sz S Sn q cap := by
  refine ⟨⟨S, by simpa using ho, fun b h => .inl h⟩, Nat.le_refl _, fun _ _ _ => rfl, rfl, rfl, rfl, fun _ => ⟨rfl, rfl⟩, fun b hb => ⟨b, hb, fun _ _ => rfl⟩, ?_⟩
  rcases ho with ⟨_, e1, e2, _⟩ | ⟨_, _, _, _, _, _, _, e3, _⟩
  · simp [e1, e2]
  · simpa using e3.1

theorem append_world {t ty e : TypeId} {i : TypeInfo} {z : Value} (ht : P.underlying t = some (.slice e)) (hi : P.info? e = some i) (hz : i.zero = some z) (hzs : z.cells.size = i.size) (h0 : 0 < i.size)
    {q : Option Addr} {cap : Nat} {rows new : Rows} {S Sn : Nat → Prop} {ussN : List (List Value)} {ux : Value} (ho : OwS w B q cap rows S) (hrows : ∀ t ∈ rows, t.length = i.size) (hn : OwVss w B i.size new ussN Sn) (hsrc : Src w ux ussN)
    (hdis : ∀ b, S b → ¬ Sn b) (hSB : ∀ b, S b → ¬ B b) (hBh : ∀ b, B b → b < w.heap.size) (hSh : ∀ b, Sn b → b < w.heap.size) (hfit : (rows.length + new.length) * i.bytes ≤ LIM) (hmax : rows.length + new.length ≤ maxLen) :
    ∃ q' cap' w', (Builtin.append_ #[t, t] ty #[.slice q rows.length cap, ux]).run P w = .ok (.slice q' (rows.length + new.length) cap') w' ∧ AppRes w w' B q cap rows new i.size S Sn q' cap' := by
  have hLIM : LIM = 140737488351232 := rfl
  have hM : maxLen = 9223372036854775807 := rfl
  obtain ⟨hnl, _⟩ := OwVss.sizes hn
  have hflat := OwVss.flat hn
  have hSmem := OwS.inHeap ho
  by_cases hnew : new = []
  · subst hnew
    have hu : ussN = [] := List.length_eq_zero_iff.1 (by simpa using hnl)
    have hle : rows.length ≤ cap := by simpa using (AppRes.refl (sz := 0) (Sn := Sn) ho).le
    have hux : ∃ q' c, ux = .slice q' 0 c := by
      rcases hsrc with ⟨_, h⟩ | ⟨b, k, c, h, _⟩
      · exact h
      · exact ⟨_, _, by rw [h, hu]; rfl⟩
    obtain ⟨q', c', rfl⟩ := hux
    exact ⟨q, cap, w, by simpa using run_none ht hi hle, AppRes.refl ho⟩
  · have hpos : 0 < new.length := List.length_pos_iff.2 hnew
    obtain ⟨ab, ak, ac, rfl, hsc⟩ : ∃ b k c, ux = .slice (some ⟨b, k, none⟩) ussN.length c ∧ Cells w b k ussN.flatten := by
      rcases hsrc with ⟨h, _⟩ | h
      · rw [h] at hnl; simp at hnl; omega
      · exact h
    rw [hnl]
    have hnews : ∀ (j : Nat) u, ussN.flatten[j]? = some u → w.cell? ((⟨ab, ak, none⟩ : Addr).add j) = some u := fun j u hj => by rw [add_addr]; exact hsc j u hj
    -- a new array
    have grown : ∀ (uss : List (List Value)) (So : Nat → Prop) (old : Nat) (wd : World), OwVss w B i.size rows uss So → (∀ b, So b → S b) → old < rows.length + new.length → wd = w.drew.alloc (.cells (uss.flatten.toArray ++ ussN.flatten.toArray ++ Builtin.zeroCells z.cells (grownCap w (rows.length + new.length) old e - (rows.length + new.length))) e) →
        (∀ b, q = some ⟨b, 0, none⟩ → Cells w b 0 uss.flatten) → AppRes w wd B q cap rows new i.size S Sn (some ⟨w.heap.size, 0, none⟩) (grownCap w (rows.length + new.length) old e) := by
      intro uss So old wd hv hsub hold hwd hcells
      have hge := grownCap_ge w (rows.length + new.length) old e
      have hcm : grownCap w (rows.length + new.length) old e ≤ maxLen := grownCap_le_maxLen w _ old e hmax
      have hheap : wd.heap = w.heap.push (.cells (uss.flatten.toArray ++ ussN.flatten.toArray ++ Builtin.zeroCells z.cells (grownCap w (rows.length + new.length) old e - (rows.length + new.length))) e (0, 0)) := by rw [hwd]; rfl
      have hfl := OwVss.flat hv
      have hall := OwVss.append hv hn (fun b hb => hdis b (hsub b hb))
      have hsame : ∀ D : Nat → Prop, (∀ b, D b → b < w.heap.size) → Same D w wd := fun D h b hb => push_old hheap (h b hb)
      have hall' := OwVss.same (fun _ h => h) (hsame B hBh) (hsame _ (fun b hb => by
        rcases hb with h | h
        · exact hSmem b (hsub b h)
        · exact hSh b h)) hall
      refine ⟨⟨fun b => b = w.heap.size ∨ (So b ∨ Sn b), .inr ⟨w.heap.size, i.size, e, _, fun b => So b ∨ Sn b, rfl, push_new hheap, ⟨by simpa using hge, fun h => absurd (List.append_eq_nil_iff.1 h).2 hnew⟩, hcm, ?_, h0, ⟨fun b => Iff.rfl, ?_⟩, ?_⟩, ?_⟩, by rw [hheap, Array.size_push]; omega, fun b hb _ => push_old hheap hb, by rw [hwd]; rfl, by rw [hwd]; rfl, by rw [hwd]; rfl, fun h => absurd h hnew, ?_, hge⟩
      · simp only [Array.size_append, List.size_toArray, size_zeroCells, hzs, hfl, hflat, ← Nat.add_mul]
        congr 1
        omega
      · rintro b rfl hb
        rcases hb with h | h
        · exact absurd (hSmem _ (hsub _ h)) (by omega)
        · exact absurd (hSh _ h) (by omega)
      · refine OwRs.of_values hall' fun j u hj => ?_
        rw [cells_new hheap, Nat.zero_add]
        rw [List.flatten_append] at hj
        have hlt := (List.getElem?_eq_some_iff.1 hj).1
        rw [Array.getElem?_append_left (by simpa using hlt)]
        simpa using hj
      · intro b hb
        rcases hb with h | h | h
        · exact .inr (.inr (by omega))
        · exact .inl (hsub b h)
        · exact .inr (.inl h)
      · intro b hb
        refine ⟨_, rfl, fun k hk => ?_⟩
        have hk' : k < uss.flatten.length := by rw [hfl]; exact hk
        have hc := hcells b hb k uss.flatten[k] (by simp [hk'])
        rw [Nat.zero_add] at hc
        rw [hc]
        have := cells_new hheap (o := 0) (j := k)
        rw [Nat.zero_add] at this
        rw [this, Array.getElem?_append_left (by simp only [Array.size_append, List.size_toArray]; omega), Array.getElem?_append_left (by simpa using hk')]
        simp [hk']
    rcases ho with ⟨rfl, rfl, rfl, he⟩ | ⟨g, sz, e', cur, S', rfl, hg, hlen, hcap, hcs, hsz0, hsp, hown⟩
    · have hrun := run_append_nil (P := P) w t ty e i z ht hi hz ⟨ab, ak, none⟩ new.length ac ussN.flatten hflat hnews hpos (by simp at hmax; omega) (by simp at hfit; omega)
      refine ⟨_, _, _, by simpa using hrun, ?_⟩
      have := grown [] (fun _ => False) 0 (w.drew.alloc (.cells (ussN.flatten.toArray ++ Builtin.zeroCells z.cells (grownCap w new.length 0 e - new.length)) e)) (by simp only [OwVss]; exact ⟨trivial, fun _ h => h⟩) (fun _ h => h.elim) (by simpa using hpos) (by simp) (fun b hb => by cases hb)
      simpa using this
    · by_cases hroom : rows.length + new.length ≤ cap
      · have hne : rows ≠ [] := fun h => by have := hlen.2 h; subst h; simp at hroom; omega
        have hsz : sz = i.size := by
          cases rows with
          | nil => exact absurd rfl hne
          | cons r0 rs =>
            simp only [OwRs] at hown
            obtain ⟨_, _, h1, _⟩ := hown
            rw [← h1]; exact hrows r0 (List.mem_cons_self ..)
        subst hsz
        have hfit' : rows.length * i.size + ussN.flatten.length ≤ cur.size := by rw [hflat, hcs, ← Nat.add_mul]; exact Nat.mul_le_mul_right _ hroom
        have hrun := run_room (P := P) (ty := ty) ht hi hg (a := ⟨ab, ak, none⟩) (c := ac) hflat hnews (OwVss.one hn) hroom hfit'
        refine ⟨_, _, _, hrun, ?_⟩
        have hother : ∀ k, k ≠ g → (w.setRow g (cur.toList.take (rows.length * i.size) ++ ussN.flatten ++ cur.toList.drop (rows.length * i.size + ussN.flatten.length)).toArray).heap[k]? = w.heap[k]? := fun k hk => setRow_other w g k _ hk
        have hhere := setRow_heap w g cur (cur.toList.take (rows.length * i.size) ++ ussN.flatten ++ cur.toList.drop (rows.length * i.size + ussN.flatten.length)).toArray e' (0, 0) hg
        have hgS : S g := hsp.left rfl
        obtain ⟨uss, hv, hvc⟩ := hown.values
        have hfl := OwVss.flat hv
        have hcur : ∀ k, k < rows.length * i.size → cur[k]? = uss.flatten[k]? := by
          intro k hk
          have hk' : k < uss.flatten.length := by rw [hfl]; exact hk
          have := hvc k uss.flatten[k] (by simp [hk'])
          rw [Nat.zero_add, cell_row hg] at this
          rw [this]; simp [hk']
        have hall := OwVss.append hv hn (fun b hb => hdis b (hsp.right hb))
        have hall' := OwVss.same (w' := w.setRow g (cur.toList.take (rows.length * i.size) ++ ussN.flatten ++ cur.toList.drop (rows.length * i.size + ussN.flatten.length)).toArray) (fun _ h => h) (fun b hb => hother b (fun e => hSB g hgS (e ▸ hb))) (fun b hb => hother b (fun e => by
          subst e
          rcases hb with h | h
          · exact hsp.2 b rfl h
          · exact hdis b hgS h)) hall
        have hlt : rows.length * i.size ≤ cur.size := by rw [hcs]; exact Nat.mul_le_mul_right _ hlen.1
        refine ⟨⟨fun b => b = g ∨ (S' b ∨ Sn b), .inr ⟨g, i.size, e', _, fun b => S' b ∨ Sn b, rfl, hhere, ⟨by simpa using hroom, fun h => absurd (List.append_eq_nil_iff.1 h).2 hnew⟩, hcap, ?_, h0, ⟨fun b => Iff.rfl, ?_⟩, ?_⟩, ?_⟩, by simp [World.setRow], fun b _ hb => hother b (fun e => hb (by rw [e])), rfl, rfl, rfl, fun h => absurd h hnew, ?_, hroom⟩
        · simp only [List.size_toArray, List.length_append, List.length_take, List.length_drop, Array.length_toList]
          omega
        · rintro b rfl hb
          rcases hb with h | h
          · exact hsp.2 b rfl h
          · exact hdis b hgS h
        · refine OwRs.of_values hall' fun j u hj => ?_
          rw [Nat.zero_add, cell_row hhere]
          rw [List.flatten_append] at hj
          have hj1 := (List.getElem?_eq_some_iff.1 hj).1
          simp only [List.getElem?_toArray]
          have hj3 : j < uss.flatten.length + ussN.flatten.length := by simpa only [List.length_append] using hj1
          rw [List.getElem?_append_left (by
            simp only [List.length_append, List.length_take, Array.length_toList]
            omega)]
          by_cases hj2 : j < uss.flatten.length
          · rw [List.getElem?_append_left hj2] at hj
            rw [List.getElem?_append_left (by simp only [List.length_take, List.length_append, Array.length_toList]; omega), List.getElem?_take, if_pos (by omega), Array.getElem?_toList, hcur j (by omega)]
            exact hj
          · rw [List.getElem?_append_right (by omega)] at hj
            rw [List.getElem?_append_right (by simp only [List.length_take, List.length_append, Array.length_toList]; omega)]
            have : (cur.toList.take (rows.length * i.size)).length = uss.flatten.length := by simp only [List.length_take, Array.length_toList]; omega
            rw [this]; exact hj
        · intro b hb
          rcases hb with rfl | h | h
          · exact .inl hgS
          · exact .inl (hsp.right h)
          · exact .inr (.inl h)
        · intro b hb
          simp only [Option.some.injEq, Addr.mk.injEq, and_true] at hb
          subst hb
          refine ⟨g, rfl, fun k hk => ?_⟩
          rw [cell_row hhere, cell_row hg]
          simp only [List.getElem?_toArray]
          rw [List.getElem?_append_left (by simp only [List.length_take, List.length_append, Array.length_toList]; omega), List.getElem?_append_left (by simp only [List.length_take, List.length_append, Array.length_toList]; omega), List.getElem?_take, if_pos hk, Array.getElem?_toList]
      · obtain ⟨uss, hv, hvc⟩ := hown.values
        have hv' := hv.resz hrows
        have hfl := OwVss.flat hv'
        have hrun := run_append_grow (P := P) w t ty e i z ht hi hz ⟨g, 0, none⟩ rows.length cap uss.flatten hfl (fun j u hj => by rw [add_addr]; exact hvc j u hj) ⟨ab, ak, none⟩ new.length ac ussN.flatten hflat hnews (by omega) (by omega) (growslice_fits (by omega) (by omega))
        refine ⟨_, _, _, hrun, ?_⟩
        exact grown uss S' cap _ hv' (fun b hb => hsp.right hb) (by omega) rfl (fun b hb => by
          simp only [Option.some.injEq, Addr.mk.injEq, and_true] at hb
          subst hb; exact hvc)

end
end TT
