import Derived.Test.YtknfhlnfombmgaaDoorTD21
set_option linter.unusedVariables false
set_option linter.unusedSimpArgs false
namespace TT
open Go

/-! ### More operations on plain values -/

section
variable {P : Program} {c : Ctx} {w : World} {B : Nat → Prop} {ρ : Id → Loc} {Sf : Id → Nat → Prop} {X : Nat → Prop} {r : R} {a : Act} {o : Oper} {s : List V}

theorem part_ok {t : TypeId} {n : Nat} {ag : Bool} (h : ldB P t n ag = true) {cs : List Value} {off : Nat} (hle : off + n ≤ cs.length) :
    (part t cs.toArray off).run P w = .ok (shapeU ag ((cs.drop off).take n)) w := by
  unfold ldB at h
  unfold part
  rw [Sem.run_bind]
  have agg : ag = true → (match P.info? t with | some i => i.size == n | none => false) = true → ((do pure (.agg (cs.toArray.extract off (off + (← sizeOf t))))) : Sem Value).run P w = .ok (shapeU ag ((cs.drop off).take n)) w := by
    intro e1 e2
    subst e1
    cases hi : P.info? t with
    | none => rw [hi] at e2; cases e2
    | some i =>
      rw [hi] at e2
      have e3 : i.size = n := by simpa using e2
      simp [size_run hi, e3, shapeU, List.extract_eq_take_drop]
  have one : ag = false → n = 1 → ((match cs.toArray[off]? with | some v => pure v | none => stuck "part: no such cell") : Sem Value).run P w = .ok (shapeU ag ((cs.drop off).take n)) w := by
    intro e1 e2
    subst e1 e2
    have hlt : off < cs.length := by omega
    have h0 : cs.toArray[off]? = some cs[off] := by simp [hlt]
    rw [h0]
    simp only [shapeU, Bool.false_eq_true, if_false]
    rw [List.drop_eq_getElem_cons hlt]
    rfl
  cases hd : P.underlying t with
  | none => rw [hd] at h; cases h
  | some d =>
    rw [hd] at h
    rw [run_isAgg hd]
    simp only [Result.andThen_ok]
    cases d <;> simp only [Bool.and_eq_true, Bool.not_eq_true', beq_iff_eq] at h ⊢
    case struct => exact agg h.1 h.2
    case array => exact agg h.1 h.2
    all_goals exact one h.1 h.2

def fldB (P : Program) (t : TypeId) (f off n : Nat) (ag : Bool) : Bool := match P.underlying t with
  | some (.struct fs) => (match fs[f]? with
    | some fd => fd.offset == off && ldB P fd.type n ag
    | none => false)
  | _ => false

theorem fld_yes {t : TypeId} {y : Operand} {f off n : Nat} {ag : Bool} (h : o.op = .field t y f) (hb : fldB P t f off n ag = true) {us : Array Value} (hy : a.eval y = .agg us) (hle : off + n ≤ us.size) :
    Yes P o a w (shapeU ag ((us.toList.drop off).take n)) w := by
  refine yes_of (s := Instr.field t (.agg us) f) (by unfold execOp; rw [h]; simp only [hy]) ?_
  unfold fldB at hb
  unfold Instr.field
  split at hb
  · rename_i fs hu
    split at hb
    · rename_i fd hf
      simp only [Bool.and_eq_true, beq_iff_eq] at hb
      obtain ⟨rfl, h2⟩ := hb
      have := part_ok (w := w) h2 (cs := us.toList) (off := fd.offset) (by simpa using hle)
      simp only [Array.toArray_toList] at this
      simp [run_underlying hu, hf, asAgg, this]
    · cases hb
  · cases hb

theorem ix_yes {t : TypeId} {x i : Operand} {s : ByteArray} {k : IntKind} {n : Int} (h : o.op = .index t x i) (ht : P.underlying t = some .string) (hx : a.eval x = .string s) (hi : a.eval i = .int k n) (h0 : 0 ≤ n) (h1 : n.toNat < s.size) :
    Yes P o a w (.int .u8 (s[n.toNat]'h1).toNat) w := by
  refine yes_of (s := Instr.index t (.string s) (.int k n)) (by unfold execOp; rw [h]; simp only [hx, hi]) ?_
  have : s[n.toNat]? = some (s[n.toNat]'h1) := by rw [getElem?_pos]
  simp [Instr.index, asIntOf, run_underlying ht, h0, this]

def ixaB (P : Program) (t : TypeId) (sz len : Nat) (ag : Bool) : Bool := match P.underlying t with
  | some (.array n e) => n == len && (match P.info? e with | some i => i.size == sz | none => false) && ldB P e sz ag
  | _ => false
theorem ixa_yes {t : TypeId} {x i : Operand} {sz len : Nat} {ag : Bool} {us : Array Value} {k : IntKind} {n : Int} (h : o.op = .index t x i) (hb : ixaB P t sz len ag = true) (hx : a.eval x = .agg us) (hi : a.eval i = .int k n) (h0 : 0 ≤ n) (h1 : n < len) (hl : us.size = len * sz) :
    Yes P o a w (shapeU ag ((us.toList.drop (n.toNat * sz)).take sz)) w := by
  refine yes_of (s := Instr.index t (.agg us) (.int k n)) (by unfold execOp; rw [h]; simp only [hx, hi]) ?_
  unfold ixaB at hb
  split at hb
  · rename_i m e hu
    simp only [Bool.and_eq_true, beq_iff_eq] at hb
    obtain ⟨⟨rfl, h2⟩, h3⟩ := hb
    split at h2
    · rename_i i hi'
      simp only [beq_iff_eq] at h2
      subst h2
      have hle : n.toNat * i.size + i.size ≤ us.toList.length := by
        have h4 : n.toNat + 1 ≤ m := by omega
        calc n.toNat * i.size + i.size = (n.toNat + 1) * i.size := by rw [Nat.add_mul, Nat.one_mul]
          _ ≤ m * i.size := Nat.mul_le_mul_right _ h4
          _ = us.toList.length := by simpa using hl.symm
      have := part_ok (w := w) h3 (cs := us.toList) (off := n.toNat * i.size) hle
      simp only [Array.toArray_toList] at this
      simp [Instr.index, asIntOf, run_underlying hu, h0, h1, size_run hi', this]
    · cases h2
  · cases hb

theorem conv_rune_yes {t t' : TypeId} {d : TypeDesc} {x : Operand} {k : IntKind} {n : Int} (h : o.op = .convert t t' x) (hs : P.underlying t = some d) (hd : P.underlying t' = some .string) (hx : a.eval x = .int k n) :
    Yes P o a w (.string (Utf8.encode n)) w :=
  yes_of (s := convert t t' (.int k n)) (by unfold execOp; rw [h]; simp only [hx]) (by
    unfold convert
    rw [Sem.run_bind, run_underlying hs]
    simp only [Result.andThen_ok]
    rw [Sem.run_bind, run_underlying hd]
    cases d <;> simp [Conv.intToString])
theorem conv_same_yes {t t' : TypeId} {d : TypeDesc} {x : Operand} {s : ByteArray} (h : o.op = .convert t t' x) (hs : P.underlying t = some d) (hd : P.underlying t' = some .string) (hx : a.eval x = .string s) :
    Yes P o a w (.string s) w :=
  yes_of (s := convert t t' (.string s)) (by unfold execOp; rw [h]; simp only [hx]) (by
    unfold convert
    rw [Sem.run_bind, run_underlying hs]
    simp only [Result.andThen_ok]
    rw [Sem.run_bind, run_underlying hd]
    cases d <;> simp)


/-! Parts of strings and of shared lists -/

/-- A bound that is given, or not. -/
def BndOk (lo : Option Value) (e l : Nat) : Prop := (lo = none ∧ l = e) ∨ ∃ k, lo = some (.int k (l : Int))

theorem bounds_run {isSlice : Bool} {len cap l h : Nat} {lo hi : Option Value} (hl : BndOk lo 0 l) (hh : BndOk hi len h) (h1 : l ≤ h) (h2 : h ≤ cap) :
    (Instr.sliceBounds isSlice len cap lo hi none).run P w = .ok (l, h, cap) w := by
  unfold Instr.sliceBounds
  rcases hh with ⟨rfl, rfl⟩ | ⟨k, rfl⟩ <;> rcases hl with ⟨rfl, rfl⟩ | ⟨k', rfl⟩
  · simp
  · have e1 : (0 : Int) ≤ (l : Int) ∧ (l : Int) ≤ (h : Int) := ⟨by omega, by omega⟩
    simp [Instr.sliceBound, asIntOf, h1]
  · simp [Instr.sliceBound, asIntOf, h2]
  · simp [Instr.sliceBound, asIntOf, h1, h2]

theorem slc_str_yes {t : TypeId} {x : Operand} {lo hi : Option Operand} {s : ByteArray} {l h : Nat} (hop : o.op = .slice t x lo hi none) (ht : P.underlying t = some .string) (hx : a.eval x = .string s)
    (hl : BndOk (lo.map a.eval) 0 l) (hh : BndOk (hi.map a.eval) s.size h) (h1 : l ≤ h) (h2 : h ≤ s.size) : Yes P o a w (.string (s.extract l h)) w := by
  refine yes_of (s := Instr.sliceAt t (.string s) (lo.map a.eval) (hi.map a.eval) none) (by unfold execOp; rw [hop]; simp only [hx, Option.map_none]) ?_
  unfold Instr.sliceAt
  rw [Sem.run_bind, run_underlying ht]
  simp only [Result.andThen_ok]
  unfold Instr.slice
  rw [Sem.run_bind, run_underlying ht]
  simp [bounds_run hl hh h1 h2]

theorem slc_sl_yes {t e : TypeId} {x : Operand} {lo hi : Option Operand} {i : TypeInfo} {q : Option Addr} {len cap l h : Nat} (hop : o.op = .slice t x lo hi none) (ht : P.underlying t = some (.slice e)) (he : P.info? e = some i) (hx : a.eval x = .slice q len cap)
    (hl : BndOk (lo.map a.eval) 0 l) (hh : BndOk (hi.map a.eval) len h) (h1 : l ≤ h) (h2 : h ≤ cap) : Yes P o a w (.slice (if cap = l then q else q.map (·.add (l * i.size))) (h - l) (cap - l)) w := by
  refine yes_of (s := Instr.sliceAt t (.slice q len cap) (lo.map a.eval) (hi.map a.eval) none) (by unfold execOp; rw [hop]; simp only [hx, Option.map_none]) ?_
  unfold Instr.sliceAt
  rw [Sem.run_bind, run_underlying ht]
  simp only [Result.andThen_ok]
  unfold Instr.slice
  rw [Sem.run_bind, run_underlying ht]
  simp [bounds_run hl hh h1 h2, size_run he]

theorem ShRs.drop {b sz : Nat} : ∀ (n : Nat) {k : Nat} {rs : Rows}, ShRs w B b k sz rs → ShRs w B b (k + n * sz) sz (rs.drop n)
  | 0, k, rs, h => by simpa using h
  | n + 1, k, [], h => by simp [ShRs]
  | n + 1, k, r :: rs, h => by
    simp only [ShRs] at h
    have := ShRs.drop n h.2.2
    simp only [List.drop_succ_cons]
    rwa [show k + (n + 1) * sz = k + sz + n * sz by rw [Nat.add_mul, Nat.one_mul]; omega]
theorem ShRs.take {b sz : Nat} : ∀ (n : Nat) {k : Nat} {rs : Rows}, ShRs w B b k sz rs → ShRs w B b k sz (rs.take n)
  | 0, k, rs, h => by simp [ShRs]
  | n + 1, k, [], h => by simp [ShRs]
  | n + 1, k, r :: rs, h => by
    simp only [ShRs] at h
    simp only [List.take_succ_cons, ShRs]
    exact ⟨h.1, h.2.1, ShRs.take n h.2.2⟩

/-- A part of a shared list is shared. -/
theorem slc_sh_rep {rows : Rows} {q : Option Addr} {len cap l h sz : Nat} (hv : RepV w B ρ r (.t (.sl false rows)) (.slice q len cap)) (h1 : l ≤ h) (h2 : h ≤ rows.length) (hsz : ∀ row ∈ rows, row.length = sz) :
    len = rows.length ∧ rows.length ≤ cap ∧ RepV w B ρ r (.t (.sl false ((rows.drop l).take (h - l)))) (.slice (if cap = l then q else q.map (·.add (l * sz))) (h - l) (cap - l)) := by
  simp only [RepV, ShC] at hv
  obtain ⟨⟨q', cap', e, g1, g2, g3⟩, _⟩ := hv
  injection e with e1 e2 e3
  subst e1 e2 e3
  refine ⟨rfl, g1, ?_⟩
  have hlen : ((rows.drop l).take (h - l)).length = h - l := by simp; omega
  simp only [RepV, ShC]
  refine ⟨⟨_, _, by rw [hlen], by rw [hlen]; omega, by omega, ?_⟩, rfl⟩
  by_cases hlh : l = h
  · subst hlh
    left; simp
  · right
    have hlt : l < rows.length := by omega
    rcases g3 with g3 | ⟨b, k, sz', rfl, g4, g5, g6⟩
    · subst g3; simp at hlt
    · have hs : sz' = sz := by
        have hm : rows[l] ∈ rows := List.getElem_mem hlt
        have e1 := hsz _ hm
        have : ∀ {rs : Rows} {k : Nat}, ShRs w B b k sz' rs → ∀ row ∈ rs, row.length = sz' := by
          intro rs
          induction rs with
          | nil => intro k _ row h; cases h
          | cons r rs ih =>
            intro k h row hr
            simp only [ShRs] at h
            rcases List.mem_cons.1 hr with hr | hr
            · rw [hr]; exact h.1
            · exact ih h.2.2 row hr
        rw [← e1, this g6 _ hm]
      subst hs
      refine ⟨b, k + l * sz', sz', ?_, g4, g5, ShRs.take _ (ShRs.drop l g6)⟩
      rw [if_neg (by omega)]
      simp only [Option.map_some, add_addr]

/-! Bytes as a string -/
theorem bytes_sh {b : Nat} : ∀ {rows : Rows} {k : Nat} {l : List UInt8}, bytesOf rows = some l → ShRs w B b k 1 rows → ∃ us, us.length = rows.length ∧ Cells w b k us ∧ us.map (fun u => match u with | .int .u8 n => some (UInt8.ofNat n.toNat) | _ => none) = l.map some
  | [], k, l, h, hr => by
    simp only [bytesOf, Option.some.injEq] at h
    subst h
    exact ⟨[], rfl, fun j u h => by simp at h, rfl⟩
  | row :: rows, k, l, h, hr => by
    unfold bytesOf at h
    split at h
    · cases ‹_ :: _ = []›
    · rename_i n rs he
      cases he
      obtain ⟨l', h1, rfl⟩ := Option.map_eq_some_iff.1 h
      simp only [ShRs, ShR] at hr
      obtain ⟨_, ⟨⟨u, g1, _, g2⟩, _⟩, g3⟩ := hr
      simp only [ShC] at g2
      subst g2
      obtain ⟨us, i1, i2, i3⟩ := bytes_sh h1 g3
      exact ⟨_ :: us, by simp [i1], Cells.cons g1 i2, by simp [i3]⟩
    · cases h

theorem OwRs.sh1 {b : Nat} : ∀ {rows : Rows} {k : Nat} {l : List UInt8} {S : Nat → Prop}, bytesOf rows = some l → OwRs w B b k 1 rows S → ShRs w B b k 1 rows
  | [], k, l, S, h, hr => by simp [ShRs]
  | row :: rows, k, l, S, h, hr => by
    unfold bytesOf at h
    split at h
    · cases ‹_ :: _ = []›
    · rename_i n rs he
      cases he
      obtain ⟨l', h1, rfl⟩ := Option.map_eq_some_iff.1 h
      simp only [OwRs, OwR] at hr
      obtain ⟨S1, S2, g0, ⟨u, _, _, g1, g2, g3, _, _⟩, g4, _⟩ := hr
      simp only [OwC] at g3
      obtain ⟨rfl, _⟩ := g3
      simp only [ShRs, ShR]
      refine ⟨rfl, ⟨⟨_, g1, g2, by simp only [ShC]⟩, trivial⟩, OwRs.sh1 h1 g4⟩
    · cases h

theorem bytes_run {b k : Nat} {us : List Value} {l : List UInt8} {n cap : Nat} (hn : us.length = n) (hc : Cells w b k us) (hu : us.map (fun u => match u with | .int .u8 n => some (UInt8.ofNat n.toNat) | _ => none) = l.map some) :
    (Conv.bytesToString (.slice (some ⟨b, k, none⟩) n cap)).run P w = .ok (.string ⟨l.toArray⟩) w := by
  subst hn
  unfold Conv.bytesToString
  have hl : (loadCells ⟨b, k, none⟩ us.length).run P w = .ok us.toArray w := run_loadCells_list w ⟨b, k, none⟩ us (fun j v hj => by rw [add_addr]; exact hc j v hj)
  simp only [Sem.run_bind, hl, Result.andThen_ok]
  have key : ∀ (g : Value → ByteArray → Sem (ForInStep ByteArray)), (∀ n s, (g (.int .u8 n) s).run P w = .ok (.yield (s.push (UInt8.ofNat n.toNat))) w) →
      ∀ (us : List Value) (l : List UInt8) (s : ByteArray), us.map (fun u => match u with | .int .u8 n => some (UInt8.ofNat n.toNat) | _ => none) = l.map some → (forIn us s g).run P w = .ok ⟨s.data ++ l.toArray⟩ w := by
    intro g hg us
    induction us with
    | nil => intro l s h; cases l <;> simp at h ⊢
    | cons u us ih =>
      intro l s h
      cases l with
      | nil => simp at h
      | cons x l =>
        simp only [List.map_cons, List.cons.injEq] at h
        obtain ⟨h1, h2⟩ := h
        split at h1
        · rename_i n
          simp only [Option.some.injEq] at h1
          subst h1
          have := ih l (s.push (UInt8.ofNat n.toNat)) h2
          simp only [List.forIn_cons, Sem.run_bind, hg, Result.andThen_ok]
          rw [this]
          congr 2
          cases s
          simp [ByteArray.push]
        · cases h1
  simp
  rw [key _ (fun n s => by simp) us l _ hu]
  have he : ByteArray.empty.data = #[] := rfl
  simp [he]

/-! A struct is put together -/
def plB (P : Program) (t : TypeId) (i : Nat) : Option (Nat × Nat) := match P.underlying t with
  | some (.struct fs) => fs[i]?.bind fun f => (P.info? f.type).map fun ti => (f.offset, ti.size)
  | some (.array _ e) => (P.info? e).map fun ti => (i * ti.size, ti.size)
  | _ => none
def bldInfo (P : Program) (t : TypeId) : Bool := match P.underlying t with
  | some (.struct fs) => fs.toList.all fun f => (P.info? f.type).isSome
  | some (.array _ e) => (P.info? e).isSome
  | _ => false
def agBld (P : Program) (t : TypeId) : List (Nat × Nat × Opd) → List (Nat × Operand) → Bool
  | [], [] => true
  | (off, sz, x) :: ps, (i, y) :: qs => plB P t i == some (off, sz) && agO x y && agBld P t ps qs
  | _, _ => false

theorem RepVs.set {vs : List V} {us : List Value} (h : RepVs w B ρ r vs us) {v : V} {u : Value} (hv : RepV w B ρ r v u) : ∀ (k : Nat), RepVs w B ρ r (vs.set k v) (us.set k u) := by
  intro k
  induction vs generalizing us k with
  | nil => simp only [RepVs] at h; subst h; simp [RepVs]
  | cons a vs ih =>
    simp only [RepVs] at h
    obtain ⟨b, us', rfl, h1, h2⟩ := h
    cases k with
    | zero => simp only [List.set_cons_zero, RepVs]; exact ⟨u, us', rfl, hv, h2⟩
    | succ k => simp only [List.set_cons_succ, RepVs]; exact ⟨b, us'.set k u, rfl, h1, ih h2 k⟩

theorem bldP_rep (off : Nat) : ∀ {vs : List V} {ws : List Value} {cs : List V} {arr : Array Value} (k : Nat), RepVs w B ρ r cs arr.toList → RepVs w B ρ r vs ws →
    RepVs w B ρ r (bldP cs (off + k) vs) ((ws.zipIdx k).foldl (fun cs (q : Value × Nat) => cs.setIfInBounds (off + q.2) q.1) arr).toList
  | [], ws, cs, arr, k, hc, hv => by
    simp only [RepVs] at hv
    subst hv
    exact hc
  | v :: vs, ws, cs, arr, k, hc, hv => by
    simp only [RepVs] at hv
    obtain ⟨u, us, rfl, h1, h2⟩ := hv
    simp only [bldP, List.zipIdx_cons, List.foldl_cons]
    have : RepVs w B ρ r (cs.set (off + k) v) (arr.setIfInBounds (off + k) u).toList := by
      rw [Array.toList_setIfInBounds]
      exact RepVs.set hc h1 _
    exact bldP_rep off (k + 1) this h2

theorem bldP_length : ∀ (vs : List V) (cs : List V) (k : Nat), (bldP cs k vs).length = cs.length
  | [], cs, k => rfl
  | v :: vs, cs, k => by simp [bldP, bldP_length vs]

theorem fill_ok (hI : Slots w B ρ r s a) {P : Program} {t : TypeId} (place : Nat → Option (Nat × Nat)) (hpl : ∀ i q, plB P t i = some q → place i = some q) :
    ∀ {ps : List (Nat × Nat × Opd)} {qs : List (Nat × Operand)} {cs cs' : List V} {arr : Array Value}, agBld P t ps qs = true → RepVs w B ρ r cs arr.toList → bld s cs ps = some cs' →
      ∃ arr', Instr.fill place arr (qs.map fun q => (q.1, a.eval q.2)) = some arr' ∧ RepVs w B ρ r cs' arr'.toList
  | [], qs, cs, cs', arr, hag, hc, hb => by
    cases qs with
    | cons q qs => simp [agBld] at hag
    | nil =>
      simp only [bld, Option.some.injEq] at hb
      subst hb
      exact ⟨arr, rfl, hc⟩
  | (off, sz, x) :: ps, qs, cs, cs', arr, hag, hc, hb => by
    cases qs with
    | nil => simp [agBld] at hag
    | cons q qs =>
      obtain ⟨i, y⟩ := q
      simp only [agBld, Bool.and_eq_true, beq_iff_eq] at hag
      obtain ⟨⟨h1, h2⟩, h3⟩ := hag
      simp only [bld] at hb
      split at hb
      · rename_i hcond
        obtain ⟨g1, g2, g3⟩ := hcond
        have hx := hI.eval h2
        have hcells := cellsOf_rep hx (by intro e; rw [e] at g1; cases g1)
        have hsz : (a.eval y).cells.size = sz := by rw [← g2, ← RepVs.length hcells]; simp
        have hle : ¬ (off + (a.eval y).cells.size > arr.size) := by
          have := RepVs.length hc
          rw [hsz]
          have : arr.size = cs.length := by rw [← this]; simp
          omega
        have hrep := bldP_rep (w := w) (B := B) (ρ := ρ) (r := r) off 0 hc hcells
        obtain ⟨arr', e1, e2⟩ := fill_ok hI place hpl h3 hrep hb
        refine ⟨arr', ?_, e2⟩
        simp only [List.map_cons, Instr.fill, hpl i _ h1]
        rw [if_neg (by simp [hsz]; omega)]
        rw [← e1]
        congr 1
        rw [← Array.foldl_toList, Array.toList_zipIdx]
      · cases hb

theorem mapM_run {α β : Type} {f : α → Sem β} {g : α → β} : ∀ {l : List α}, (∀ x ∈ l, (f x).run P w = .ok (g x) w) → (l.mapM f).run P w = .ok (l.map g) w
  | [], h => by simp
  | x :: l, h => by
    rw [List.mapM_cons]
    simp only [Sem.run_bind, h x (List.mem_cons_self ..), Result.andThen_ok, mapM_run fun y hy => h y (List.mem_cons_of_mem _ hy)]
    simp

theorem build_yes {t : TypeId} {qs : Array (Nat × Operand)} {z : List T} {ps : List (Nat × Nat × Opd)} (h : o.op = .build t qs) (hz : zeroB P t z = true) (hi : bldInfo P t = true) (hag : agBld P t ps qs.toList = true) (hs : Slots w B ρ r s a) {cs : List V} (hb : bld s (z.map fun c => match c with | .sl true [] => V.nil | c => V.t c) ps = some cs) :
    ∃ u, Yes P o a w u w ∧ RepV w B ρ r (.agg cs) u := by
  obtain ⟨i, v, g1, g2, g3, _, _⟩ := zeroB_spec hz
  obtain ⟨h1, _, _⟩ := eqZ_reps (w := w) (B := B) (ρ := ρ) (r := r) g3
  unfold bldInfo at hi
  split at hi
  · rename_i fs hu
    let place : Nat → Option (Nat × Nat) := fun i => (fs.map fun f => (f.offset, match P.info? f.type with | some ti => ti.size | none => 0))[i]?
    have hpl : ∀ i q, plB P t i = some q → place i = some q := by
      intro i q hq
      unfold plB at hq
      rw [hu] at hq
      obtain ⟨f, e1, e2⟩ := Option.bind_eq_some_iff.1 hq
      obtain ⟨ti, e3, e4⟩ := Option.map_eq_some_iff.1 e2
      subst e4
      simp [place, e1, e3]
    obtain ⟨arr', e1, e2⟩ := fill_ok hs place hpl hag h1 hb
    refine ⟨.agg arr', ?_, by simp only [RepV]; exact ⟨arr', rfl, e2⟩⟩
    refine yes_of (s := Instr.build t (qs.map fun (i, x) => (i, a.eval x))) (by unfold execOp; rw [h]) ?_
    unfold Instr.build
    rw [Sem.run_bind, zero_run g1 g2]
    simp only [Result.andThen_ok]
    rw [Sem.run_bind, run_underlying hu]
    simp only [Result.andThen_ok]
    have hm : (fs.mapM fun f => (do pure (f.offset, ← sizeOf f.type) : Sem (Nat × Nat))).run P w = .ok (fs.map fun f => (f.offset, match P.info? f.type with | some ti => ti.size | none => 0)) w := by
      have hl := mapM_run (P := P) (w := w) (f := fun f : Field => (do pure (f.offset, ← sizeOf f.type) : Sem (Nat × Nat))) (g := fun f => (f.offset, match P.info? f.type with | some ti => ti.size | none => 0)) (l := fs.toList) (fun f hf => by
        have := List.all_eq_true.1 hi f hf
        obtain ⟨ti, hti⟩ := Option.isSome_iff_exists.1 this
        simp [size_run hti, hti])
      rw [Array.mapM_eq_mapM_toList]
      simp only [map_eq_pure_bind, Sem.run_bind, hl, Result.andThen_ok]
      simp [← Array.toList_map]
    rw [Sem.run_bind, hm]
    simp only [Result.andThen_ok]
    have e1' : Instr.fill (fun x => (fs.map fun f => (f.offset, match P.info? f.type with | some ti => ti.size | none => 0))[x]?) v.cells (qs.map fun x => (x.1, a.eval x.2)).toList = some arr' := by
      rw [Array.toList_map]; exact e1
    simp only [e1']
    rfl
  · rename_i n e hu
    obtain ⟨ti, hti⟩ := Option.isSome_iff_exists.1 hi
    let place : Nat → Option (Nat × Nat) := fun i => some (i * ti.size, ti.size)
    have hpl : ∀ i q, plB P t i = some q → place i = some q := by
      intro i q hq
      unfold plB at hq
      rw [hu] at hq
      simp only [hti, Option.map_some, Option.some.injEq] at hq
      subst hq
      rfl
    obtain ⟨arr', e1, e2⟩ := fill_ok hs place hpl hag h1 hb
    refine ⟨.agg arr', ?_, by simp only [RepV]; exact ⟨arr', rfl, e2⟩⟩
    refine yes_of (s := Instr.build t (qs.map fun (i, x) => (i, a.eval x))) (by unfold execOp; rw [h]) ?_
    unfold Instr.build
    rw [Sem.run_bind, zero_run g1 g2]
    simp only [Result.andThen_ok]
    rw [Sem.run_bind, run_underlying hu]
    simp only [Result.andThen_ok]
    rw [Sem.run_bind, size_run hti]
    simp only [Result.andThen_ok]
    have e1' : Instr.fill (fun i => some (i * ti.size, ti.size)) v.cells (qs.map fun x => (x.1, a.eval x.2)).toList = some arr' := by
      rw [Array.toList_map]; exact e1
    simp only [e1']
    rfl
  · cases hi

theorem equalIn_nil (d : Nat) (t e : TypeId) (q : Option Addr) (n c n' c' : Nat) (h : P.underlying t = some (.slice e)) :
    (Op.equalIn (d + 1) t (.slice q n c) (.slice none n' c')).run P w = .ok q.isNone w := by
  cases q <;> simp [Op.equalIn, run_underlying h]
theorem eqn_yes {op : BinOp} {t e ty : TypeId} {x : Operand} {q : Option Addr} {n cap : Nat} (h : o.op = .binOp op t x (.const (.slice none 0 0)) ty) (ho : op = .eql ∨ op = .neq) (ht : P.underlying t = some (.slice e)) (hx : a.eval x = .slice q n cap) :
    Yes P o a w (.bool (if op = .neq then !q.isNone else q.isNone)) w := by
  have hc : a.eval (.const (.slice none 0 0)) = .slice none 0 0 := rfl
  refine yes_of (s := do eqGuard op t x (.const (.slice none 0 0)) (.slice q n cap) (.slice none 0 0); binOp op t (.slice q n cap) (.slice none 0 0)) (by unfold execOp; rw [h]; simp only [hx, hc]) ?_
  have hg : (eqGuard op t x (.const (.slice none 0 0)) (.slice q n cap) (.slice none 0 0)).run P w = .ok () w := by
    rcases ho with rfl | rfl <;> simp [eqGuard]
  rw [Sem.run_bind, hg]
  simp only [Result.andThen_ok]
  rcases ho with rfl | rfl
  · simp only [binOp]
    simp [Op.equal, Op.maxDepth, equalIn_nil 9999 t e q n cap 0 0 ht]
  · simp only [binOp]
    simp [Op.equal, Op.maxDepth, equalIn_nil 9999 t e q n cap 0 0 ht]
end
end TT
