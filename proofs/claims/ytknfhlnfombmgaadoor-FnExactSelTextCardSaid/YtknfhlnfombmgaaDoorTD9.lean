import Derived.Test.YtknfhlnfombmgaaDoorTD8
import Derived.Laws.MakeOwn
set_option linter.unusedVariables false
set_option linter.unusedSimpArgs false
namespace TT
open Go

/-! ### New roots -/

section
variable {P : Program} {c : Ctx} {w w' : World} {B : Nat → Prop} {ρ : Id → Loc} {Sf : Id → Nat → Prop} {X : Nat → Prop} {r : R} {a : Act} {o : Oper}

theorem push_old {w w' : World} {ob : Obj} (hw : w'.heap = w.heap.push ob) {b : Nat} (hb : b < w.heap.size) : w'.heap[b]? = w.heap[b]? := by
  rw [hw, Array.getElem?_push, if_neg (by omega)]
theorem push_new {w w' : World} {ob : Obj} (hw : w'.heap = w.heap.push ob) : w'.heap[w.heap.size]? = some ob := by
  rw [hw, Array.getElem?_push, if_pos rfl]

theorem OwS.inHeap {q : Option Addr} {cap : Nat} {rows : Rows} {S : Nat → Prop} (h : OwS w B q cap rows S) : InHeap w S :=
  OwC.inHeap (OwC_sl.2 ⟨q, cap, rfl, h⟩)

theorem EntRep.inHeap {id : Id} {S : Nat → Prop} {e : Ent} (h : EntRep c w B ρ r id S e) : InHeap w S := by
  cases e with
  | dead => exact fun b hb => absurd hb (h b)
  | mem rows stt fx => exact OwS.inHeap h.1

theorem Inv.kept_push (hI : Inv c w B ρ Sf X r) {ob : Obj} (hw : w'.heap = w.heap.push ob) (id : Id) : Kept w w' B ρ r id := by
  intro rows stt fx hg
  obtain ⟨h1, _⟩ := hI.mem hg
  exact ⟨Sf id, h1, fun b hb => push_old hw (OwS.inHeap h1 b hb)⟩

theorem Inv.alloc (hI : Inv c w B ρ Sf X r) {cur : Array Value} {e : TypeId} (hw : w'.heap = w.heap.push (.cells cur e (0, 0))) (hos : w'.os = w.os) (htp : w'.tape = w.tape) (hout : w'.output = w.output)
    {rows : Rows} {cap sz d : Nat} {S : Nat → Prop} (hd : d < r.length) (hr : r.getD d [] = []) (ho : OwRs w' B w.heap.size 0 sz rows S) (hlen : rows.length ≤ cap) (hnil : rows = [] → cap = 0) (hcap : cap ≤ maxLen) (hsz : cur.size = cap * sz) (h0 : 0 < sz) (hS : ∀ b, S b → X b) :
    ∃ ρ' Sf', Inv c w' B ρ' Sf' (fun _ => False) (r.set d [.mem rows 0 false]) ∧ (∀ v u, RepV w B ρ r v u → RepV w' B ρ' (r.set d [.mem rows 0 false]) v u) ∧ ρ' (d, 0) = (some ⟨w.heap.size, 0, none⟩, cap) := by
  have hsame : ∀ D : Nat → Prop, (∀ b, D b → b < w.heap.size) → Same D w w' := fun D h b hb => push_old hw (h b hb)
  let ρ' : Id → Loc := fun id => if id.1 = d then (some ⟨w.heap.size, 0, none⟩, cap) else ρ id
  let Sf' : Id → Nat → Prop := fun id b => if id.1 = d then id.2 = 0 ∧ (b = w.heap.size ∨ S b) else Sf id b
  have hρ : ∀ id : Id, id.1 ≠ d → ρ' id = ρ id := fun id h => if_neg h
  have hclaims : ∀ v u, RepV w B ρ r v u → RepV w' B ρ' (r.set d [.mem rows 0 false]) v u := fun v u h =>
    claims_new hd hr hρ (claims_world (fun _ h => h) (hsame B hI.inB) (hI.kept_push hw) h)
  have hsub : ∀ id b, Sf' id b → (id.1 = d ∧ id.2 = 0 ∧ (b = w.heap.size ∨ X b)) ∨ (id.1 ≠ d ∧ Sf id b) := by
    intro id b h
    by_cases e1 : id.1 = d
    · have h' : id.2 = 0 ∧ (b = w.heap.size ∨ S b) := by simpa only [Sf', if_pos e1] using h
      exact .inl ⟨e1, h'.1, h'.2.imp (fun h => h) (hS b)⟩
    · exact .inr ⟨e1, by simpa only [Sf', if_neg e1] using h⟩
  have hlt : ∀ id b, Sf id b → b < w.heap.size := fun id b h => (hI.ents id).inHeap b h
  refine ⟨ρ', Sf', ?_, hclaims, if_pos rfl⟩
  constructor
  · intro id
    rw [getE_new hd hr]
    by_cases e1 : id.1 = d
    · rw [if_pos e1]
      have hS' : Sf' id = fun b => id.2 = 0 ∧ (b = w.heap.size ∨ S b) := funext fun b => by simp only [Sf', if_pos e1]
      rw [hS']
      obtain ⟨i1, i2⟩ := id
      cases i2 with
      | zero =>
        simp only [List.getD_cons_zero]
        have hq : ρ' (i1, 0) = (some ⟨w.heap.size, 0, none⟩, cap) := if_pos e1
        unfold EntRep
        rw [hq]
        refine ⟨.inr ⟨w.heap.size, sz, e, cur, S, rfl, push_new hw, ⟨hlen, hnil⟩, hcap, hsz, h0, ⟨fun b => ?_, ?_⟩, ho⟩, fun h => by cases h⟩
        · simp
        · rintro b rfl hb
          exact absurd (hI.inX _ (hS _ hb)) (by omega)
      | succ n => exact fun b hb => by simp at hb
    · rw [if_neg e1]
      have hS' : Sf' id = Sf id := funext fun b => by simp only [Sf', if_neg e1]
      rw [hS']
      have h1 := hI.ents id
      cases he : getE r id with
      | dead => rw [he] at h1; exact h1
      | mem rows1 stt fx =>
        rw [he] at h1
        exact ⟨by rw [hρ id e1]; exact OwS.same (fun _ h => h) (hsame B hI.inB) (hsame _ (hlt id)) h1.1, fun h => by rw [hρ id e1]; exact h1.2 h⟩
  · intro id id' b h h'
    rcases hsub id b h with ⟨a1, a2, a3⟩ | ⟨a1, a2⟩ <;> rcases hsub id' b h' with ⟨b1, b2, b3⟩ | ⟨b1, b2⟩
    · exact Prod.ext (a1.trans b1.symm) (a2.trans b2.symm)
    · rcases a3 with rfl | a3
      · exact absurd (hlt id' _ b2) (by omega)
      · exact absurd b2 (hI.xd id' b a3)
    · rcases b3 with rfl | b3
      · exact absurd (hlt id _ a2) (by omega)
      · exact absurd a2 (hI.xd id b b3)
    · exact hI.disj id id' b a2 b2
  · intro id b h
    rcases hsub id b h with ⟨a1, a2, a3⟩ | ⟨a1, a2⟩
    · rcases a3 with rfl | a3
      · exact fun hb => absurd (hI.inB _ hb) (by omega)
      · exact hI.xb b a3
    · exact hI.nb id b a2
  · exact fun b h => h.elim
  · exact fun id b h => h.elim
  · exact fun b hb => by rw [hw, Array.size_push]; exact Nat.lt_succ_of_lt (hI.inB b hb)
  · exact fun b h => h.elim
  · intro id b h
    rcases hsub id b h with ⟨a1, a2, a3⟩ | ⟨a1, a2⟩
    · rcases a3 with rfl | a3
      · exact .inr hI.size
      · exact hI.ownX b a3
    · exact hI.own id b a2
  · exact fun b h => h.elim
  · exact hI.old
  · exact hI.sh
  · rw [hw, Array.size_push]; exact Nat.le_succ_of_le hI.size
  · intro b hb hn
    rw [push_old hw (Nat.lt_of_lt_of_le hb hI.size)]
    exact hI.frame b hb hn
  · rw [hos]; exact hI.os
  · rw [htp]; exact hI.tape
  · rw [hout]; exact hI.output

theorem there_set {d : Nat} {es : List Ent} (hd : d < r.length) {k : Nat} (hk : k < es.length) : There (r.set d es) (d, k) := by
  simp [There, List.getD, hd, hk]

theorem new_ref {d cap : Nat} {rows : Rows} {q : Option Addr} {B' : Nat → Prop} {ρ' : Id → Loc} (hd : d < r.length) (hr : r.getD d [] = []) (hρ : ρ' (d, 0) = (q, cap)) (hc : rows.length ≤ cap) :
    RepV w' B' ρ' (r.set d [.mem rows 0 false]) (.ref (d, 0) rows.length) (.slice q rows.length cap) := by
  simp only [RepV]
  refine ⟨there_set hd (by simp), ⟨q, cap, rfl, hc⟩, ?_⟩
  intro rows' stt fx hg
  rw [getE_new hd hr, if_pos rfl] at hg
  simp only [List.getD_cons_zero, Ent.mem.injEq] at hg
  obtain ⟨rfl, rfl, rfl⟩ := hg
  exact ⟨Nat.le_refl _, fun _ => by rw [hρ]⟩

theorem new_ptr {d cap b : Nat} {row : List T} {B' : Nat → Prop} {ρ' : Id → Loc} (hd : d < r.length) (hr : r.getD d [] = []) (hρ : ρ' (d, 0) = (some ⟨b, 0, none⟩, cap)) :
    RepV w' B' ρ' (r.set d [.mem [row] 0 false]) (.ptr (d, 0) [] 0 0 1 0) (.pointer (some ⟨b, 0, none⟩)) := by
  simp only [RepV]
  refine ⟨there_set hd (by simp), _, rfl, ?_⟩
  intro rows' stt fx hg
  rw [getE_new hd hr, if_pos rfl] at hg
  simp only [List.getD_cons_zero, Ent.mem.injEq] at hg
  obtain ⟨rfl, rfl, rfl⟩ := hg
  refine ⟨fun _ => by simp, fun h => absurd rfl h, fun _ _ => ⟨fun h => absurd rfl h, fun row' hr' hl => ⟨b, 0, ⟨by rw [hρ], row', by simpa [getP] using hr', hl, by omega⟩, rfl⟩⟩⟩

/-- Rows that are values, with what they own. -/
def OwVss (w : World) (B : Nat → Prop) (sz : Nat) : Rows → List (List Value) → (Nat → Prop) → Prop
  | [], uss, S => uss = [] ∧ Emp S
  | t :: ts, uss, S => ∃ us uss' S1 S2, uss = us :: uss' ∧ t.length = sz ∧ OwVs w B t us S1 ∧ OwVss w B sz ts uss' S2 ∧ Split S S1 S2

theorem OwVss.same {B' : Nat → Prop} (hB : ∀ b, B b → B' b) (h : Same B w w') {sz : Nat} : ∀ {ts : Rows} {us : List (List Value)} {S : Nat → Prop}, Same S w w' → OwVss w B sz ts us S → OwVss w' B' sz ts us S
  | [], us, S, _, hh => by simpa only [OwVss] using hh
  | t :: ts, us, S, hS, hh => by
    simp only [OwVss] at hh ⊢
    obtain ⟨u, us', S1, S2, rfl, h0, h1, h2, h3⟩ := hh
    exact ⟨u, us', S1, S2, rfl, h0, OwVs.same hB h (fun x hx => hS x (h3.left hx)) h1, OwVss.same hB h (fun x hx => hS x (h3.right hx)) h2, h3⟩

theorem OwRs.of_values {b sz : Nat} : ∀ {ts : Rows} {uss : List (List Value)} {S : Nat → Prop} {o : Nat}, OwVss w B sz ts uss S → (∀ (j : Nat) u, uss.flatten[j]? = some u → w.cell? ⟨b, o + j, none⟩ = some u) → OwRs w B b o sz ts S
  | [], us, S, o, h, hc => by simp only [OwVss] at h; simp only [OwRs]; exact h.2
  | t :: ts, us, S, o, h, hc => by
    simp only [OwVss] at h
    obtain ⟨u, us', S1, S2, rfl, h0, h1, h2, h3⟩ := h
    have hl : u.length = sz := by rw [OwVs.length h1, h0]
    simp only [OwRs]
    refine ⟨S1, S2, h0, OwR.of_values h1 (fun j v hj => ?_), OwRs.of_values h2 (fun j v hj => ?_), h3⟩
    · refine hc j v ?_
      have hlt := (List.getElem?_eq_some_iff.1 hj).1
      rw [List.flatten_cons, List.getElem?_append_left hlt]; exact hj
    · have := hc (sz + j) v (by rw [List.flatten_cons, List.getElem?_append_right (by omega), hl, Nat.add_sub_cancel_left]; exact hj)
      rwa [show o + sz + j = o + (sz + j) by omega]

/-- A new variable's cells. -/
theorem cells_new {ob : Array Value} {e : TypeId} (hw : w'.heap = w.heap.push (.cells ob e (0, 0))) {o j : Nat} : w'.cell? ⟨w.heap.size, o + j, none⟩ = ob[o + j]? := cell_row (push_new hw)

def zeroB (P : Program) (t : TypeId) (z : List T) : Bool := match P.info? t with
  | some i => (match i.zero with | some v => eqZ z v.cells.toList && !z.isEmpty && i.size == z.length | none => false)
  | none => false

theorem zeroB_spec {t : TypeId} {z : List T} (h : zeroB P t z = true) : ∃ i v, P.info? t = some i ∧ i.zero = some v ∧ eqZ z v.cells.toList = true ∧ z ≠ [] ∧ i.size = z.length := by
  unfold zeroB at h
  cases hi : P.info? t with
  | none => rw [hi] at h; cases h
  | some i =>
    rw [hi] at h
    cases hz : i.zero with
    | none => simp only [hz] at h; cases h
    | some v =>
      simp only [hz, Bool.and_eq_true, Bool.not_eq_true', beq_iff_eq] at h
      exact ⟨i, v, rfl, hz, h.1.1, fun e => by rw [e] at h; simp at h, h.2⟩

/-- alloc. -/
theorem alloc_ok (hI : Inv c w B ρ Sf (fun _ => False) r) {t : TypeId} {z : List T} (h : o.op = .alloc t) (hz : zeroB P t z = true) {d : Nat} (hd : d < r.length) (hr : r.getD d [] = []) :
    ∃ w' u ρ' Sf', Yes P o a w u w' ∧ Inv c w' B ρ' Sf' (fun _ => False) (r.set d [.mem [z] 0 false]) ∧ (∀ v u, RepV w B ρ r v u → RepV w' B ρ' (r.set d [.mem [z] 0 false]) v u) ∧ RepV w' B ρ' (r.set d [.mem [z] 0 false]) (.ptr (d, 0) [] 0 0 1 0) u := by
  obtain ⟨i, v, hi, hv, he, hne, hsz⟩ := zeroB_spec hz
  obtain ⟨_, g2, g3⟩ := eqZ_reps (w := w.alloc (.cells v.cells t)) (B := B) (ρ := ρ) (r := r) he
  have hw : (w.alloc (.cells v.cells t)).heap = w.heap.push (.cells v.cells t (0, 0)) := rfl
  obtain ⟨ρ', Sf', k1, k2, k3⟩ := hI.alloc (w' := w.alloc (.cells v.cells t)) (rows := [z]) (cap := 1) (sz := z.length) (S := fun _ => False) hw rfl rfl rfl hd hr
    (OwRs.of_values (uss := [v.cells.toList]) (by
      simp only [OwVss]
      exact ⟨_, _, _, _, rfl, trivial, g2, ⟨rfl, fun _ h => h⟩, ⟨fun b => by simp, fun b (h : False) => h.elim⟩⟩) (fun j u hj => by
        rw [cells_new hw]
        simpa using hj)) (by simp) (by simp) (by decide) (by rw [Nat.one_mul, g3]; simp) (by cases z with | nil => exact absurd rfl hne | cons x xs => simp) (fun _ h => h)
  refine ⟨_, .pointer (some ⟨w.heap.size, 0, none⟩), ρ', Sf', ?_, k1, k2, new_ptr hd hr k3⟩
  refine yes_of (s := Instr.alloc t true (.tuple #[])) (by unfold execOp; rw [h]) ?_
  simp only [Instr.alloc]
  rw [Sem.run_bind, zero_run hi hv]
  simp [newVar, newRow]

theorem cells_one {u : Value} (h : u.oneCell' = true) : u.cells = #[u] := by
  cases u <;> first | rfl | (simp [Value.oneCell'] at h)

theorem cellsOf_rep {v : V} {u : Value} (hv : RepV w B ρ r v u) (hd : v ≠ .dead) : RepVs w B ρ r (cellsOf v) u.cells.toList := by
  have one : ∀ {v : V}, RepV w B ρ r v u → u.cells = #[u] → RepVs w B ρ r [v] u.cells.toList := by
    intro v h1 h2
    rw [h2]
    simp only [RepVs]
    exact ⟨u, [], rfl, h1, rfl⟩
  cases v with
  | agg cs =>
    simp only [RepV] at hv
    obtain ⟨us, rfl, h⟩ := hv
    exact h
  | dead => exact absurd rfl hd
  | t c => refine one hv ?_; simp only [RepV] at hv; exact cells_one hv.2
  | nil => refine one hv ?_; simp only [RepV] at hv; rw [hv]; rfl
  | ref id n => refine one hv ?_; simp only [RepV] at hv; obtain ⟨_, ⟨q, cap, rfl, _⟩, _⟩ := hv; rfl
  | sub id p i c n st => refine one hv ?_; simp only [RepV] at hv; obtain ⟨_, ⟨q, cap, rfl, _⟩, _⟩ := hv; rfl
  | ptr id p i off n st => refine one hv ?_; simp only [RepV] at hv; obtain ⟨_, ad, rfl, _⟩ := hv; rfl
  | pp cs => refine one hv ?_; simp only [RepV] at hv; obtain ⟨b, k, rfl, _⟩ := hv; rfl
  | fn f cs => refine one hv ?_; simp only [RepV] at hv; obtain ⟨us, rfl, _⟩ := hv; rfl
  | tup cs => refine one hv ?_; simp only [RepV] at hv; obtain ⟨us, rfl, _⟩ := hv; rfl
  | vb id off st cs => refine one hv ?_; simp only [RepV] at hv; obtain ⟨_, ⟨ad, rfl, _⟩, _⟩ := hv; rfl

theorem takes_dead {α : Type} {call : CallF} {d : Nat} {k : List T → M α} {x : α × R} : (takes (cellsOf .dead) k).run call d r ≠ some x := by
  simp [cellsOf, takes, take, M.run]

/-- What goes into one new row of memory. -/
theorem put_row (hI : Inv c w B ρ Sf X r) {cur : Array Value} {e : TypeId} (hw : w'.heap = w.heap.push (.cells cur e (0, 0))) (hos : w'.os = w.os) (htp : w'.tape = w.tape) (hout : w'.output = w.output)
    {rows : Rows} {uss : List (List Value)} {cap sz d : Nat} {S : Nat → Prop} (hd : d < r.length) (hr : r.getD d [] = []) (ho : OwVss w B sz rows uss S) (hcur : ∀ (j : Nat) u, uss.flatten[j]? = some u → cur[j]? = some u)
    (hlen : rows.length ≤ cap) (hnil : rows = [] → cap = 0) (hcap : cap ≤ maxLen) (hsz : cur.size = cap * sz) (h0 : 0 < sz) (hS : ∀ b, S b → X b) :
    ∃ ρ' Sf', Inv c w' B ρ' Sf' (fun _ => False) (r.set d [.mem rows 0 false]) ∧ (∀ v u, RepV w B ρ r v u → RepV w' B ρ' (r.set d [.mem rows 0 false]) v u) ∧ ρ' (d, 0) = (some ⟨w.heap.size, 0, none⟩, cap) := by
  have hsame : ∀ D : Nat → Prop, (∀ b, D b → b < w.heap.size) → Same D w w' := fun D h b hb => push_old hw (h b hb)
  refine hI.alloc hw hos htp hout hd hr (OwRs.of_values (OwVss.same (fun _ h => h) (hsame B hI.inB) (hsame S fun b hb => hI.inX b (hS b hb)) ho) fun j u hj => ?_) hlen hnil hcap hsz h0 hS
  rw [cells_new hw, Nat.zero_add]
  exact hcur j u hj

theorem OwVss.single {ts : List T} {us : List Value} {S : Nat → Prop} (h : OwVs w B ts us S) : OwVss w B ts.length [ts] [us] S := by
  simp only [OwVss]
  exact ⟨us, [], S, fun _ => False, rfl, trivial, h, ⟨rfl, fun _ h => h⟩, ⟨fun b => by simp, fun b _ h => h.elim⟩⟩

theorem getD_len {r r' : R} {d : Nat} (h : ∀ t, (r'.getD t []).length = (r.getD t []).length) (h0 : r.getD d [] = []) : r'.getD d [] = [] := by
  have := h d
  rw [h0] at this
  exact List.length_eq_zero_iff.1 this

theorem new_run {α : Type} {call : CallF} {d : Nat} {es : List Ent} {m : M α} {x : α × R} (h : (M.new es m).run call d r = some x) : d < r.length ∧ r.getD d [] = [] ∧ m.run call d (r.set d es) = some x := by
  simp only [M.run] at h
  split at h
  · rename_i hh
    simp only [Bool.and_eq_true, decide_eq_true_eq, List.isEmpty_iff] at hh
    exact ⟨hh.1, hh.2, h⟩
  · cases h

/-- box. -/
theorem box_ok (hI : Inv c w B ρ Sf (fun _ => False) r) {t : TypeId} {y : Operand} {v : V} (h : o.op = .box t y) (hv : RepV w B ρ r v (a.eval y)) {call : CallF} {d : Nat} {x : V × R}
    (hrun : (takes (cellsOf v) fun ts => if ts.isEmpty then M.fail else M.new [.mem [ts] 0 false] (M.ret (.ptr (d, 0) [] 0 0 1 0))).run call d r = some x) :
    ∃ w' u ρ' Sf', Yes P o a w u w' ∧ Inv c w' B ρ' Sf' (fun _ => False) x.2 ∧ x.2.length = r.length ∧ (∀ v u, RepV w B ρ r v u → RepV w' B ρ' x.2 v u) ∧ RepV w' B ρ' x.2 x.1 u := by
  have hnd : v ≠ .dead := fun e => by subst e; exact takes_dead hrun
  obtain ⟨ts, S, Sf1, r1, g1, g2, g3, g4, g5, g6, g7⟩ := takes_run hrun hI (cellsOf_rep hv hnd)
  split at g1
  · simp [M.run] at g1
  · rename_i hne
    obtain ⟨hd, hr, g1⟩ := new_run g1
    simp only [M.run, Option.some.injEq] at g1
    subst g1
    have hw : (w.alloc (.cells (a.eval y).cells t)).heap = w.heap.push (.cells (a.eval y).cells t (0, 0)) := rfl
    have hl := OwVs.length g2
    obtain ⟨ρ', Sf', k1, k2, k3⟩ := put_row g3 (w' := w.alloc (.cells (a.eval y).cells t)) hw rfl rfl rfl hd hr (cap := 1) (OwVss.single g2) (fun j u hj => by simpa using hj) (by simp) (by simp) (by decide)
      (by rw [Nat.one_mul, ← hl]; simp) (by cases ts with | nil => simp at hne | cons x xs => simp) (fun b hb => .inr hb)
    refine ⟨_, .pointer (some ⟨w.heap.size, 0, none⟩), ρ', Sf', ?_, k1, by rw [List.length_set, g5.size], fun v u hh => k2 v u (g5.claims v u hh), new_ptr hd hr k3⟩
    refine yes_of (s := Instr.box t (a.eval y)) (by unfold execOp; rw [h]) ?_
    simp [Instr.box, newVar, newRow]

/-! ### Boxes whose cells stand in the slot -/
theorem RepV.one {v : V} {u : Value} (h : RepV w B ρ r v u) (h1 : v.one = true) : u.oneCell' = true := by
  cases v with
  | t c => simp only [RepV] at h; exact h.2
  | nil => simp only [RepV] at h; rw [h]; rfl
  | ref id n => simp only [RepV] at h; obtain ⟨_, ⟨q, cap, rfl, _⟩, _⟩ := h; rfl
  | sub id p i c n st => simp only [RepV] at h; obtain ⟨_, ⟨q, cap, rfl, _⟩, _⟩ := h; rfl
  | ptr id p i off n st => simp only [RepV] at h; obtain ⟨_, ad, rfl, _⟩ := h; rfl
  | _ => simp [V.one] at h1
theorem OwVs.holes {w' : World} {B' : Nat → Prop} : ∀ {cs : List V} {us : List Value}, RepVs w B ρ r cs us → cs.all V.one = true → OwVs w' B' (List.replicate cs.length .hole) us (fun _ => False)
  | [], us, h, _ => by simp only [RepVs] at h; subst h; exact ⟨rfl, fun _ h => h⟩
  | v :: cs, us, h, h1 => by
    simp only [RepVs] at h
    obtain ⟨u, us', rfl, g1, g2⟩ := h
    simp only [List.all_cons, Bool.and_eq_true] at h1
    simp only [List.length_cons, List.replicate_succ, OwVs]
    exact ⟨u, us', fun _ => False, fun _ => False, rfl, g1.one h1.1, by simp only [OwC]; exact fun _ h => h, OwVs.holes g2 h1.2, ⟨fun b => by simp, fun b h _ => h⟩⟩
theorem vbox_ok (hI : Inv c w B ρ Sf (fun _ => False) r) {t : TypeId} {y : Operand} {cs : List V} (h : o.op = .box t y) (hv : RepV w B ρ r (.agg cs) (a.eval y)) {call : CallF} {d : Nat} {x : V × R}
    (hrun : (if cs.isEmpty || !cs.all V.one then M.fail else M.new [.mem [List.replicate cs.length .hole] 0 false] (M.ret (.vb (d, 0) 0 0 cs))).run call d r = some x) :
    ∃ w' u ρ' Sf', Yes P o a w u w' ∧ Inv c w' B ρ' Sf' (fun _ => False) x.2 ∧ x.2.length = r.length ∧ (∀ v u, RepV w B ρ r v u → RepV w' B ρ' x.2 v u) ∧ RepV w' B ρ' x.2 x.1 u := by
  split at hrun
  · simp [M.run] at hrun
  · rename_i hne
    obtain ⟨hd, hr, g1⟩ := new_run hrun
    simp only [M.run, Option.some.injEq] at g1
    subst g1
    have hv0 := hv
    simp only [RepV] at hv
    obtain ⟨us, hu, hvs⟩ := hv
    have hl := RepVs.length hvs
    simp only [Bool.or_eq_true, Bool.not_eq_true', not_or, Bool.not_eq_false, Bool.not_eq_true] at hne
    obtain ⟨hne, hone⟩ := hne
    have hcells : (a.eval y).cells = us := by rw [hu]; rfl
    have hw : (w.alloc (.cells (a.eval y).cells t)).heap = w.heap.push (.cells (a.eval y).cells t (0, 0)) := rfl
    have hO : OwVss w B cs.length [List.replicate cs.length .hole] [us.toList] (fun _ => False) := by
      have := OwVss.single (OwVs.holes (w' := w) (B' := B) hvs hone)
      rw [List.length_replicate] at this
      exact this
    obtain ⟨ρ', Sf', k1, k2, k3⟩ := put_row hI (w' := w.alloc (.cells (a.eval y).cells t)) hw rfl rfl rfl hd hr (cap := 1) hO (fun j u hj => by rw [hcells]; simpa using hj) (by simp) (by simp) (by decide)
      (by rw [Nat.one_mul, hcells, ← hl]; simp) (by cases cs with | nil => simp at hne | cons x xs => simp) (fun b hb => hb.elim)
    refine ⟨_, .pointer (some ⟨w.heap.size, 0, none⟩), ρ', Sf', ?_, k1, by rw [List.length_set], k2, ?_⟩
    · refine yes_of (s := Instr.box t (a.eval y)) (by unfold execOp; rw [h]) ?_
      simp [Instr.box, newVar, newRow]
    · have hp := new_ptr (w' := w.alloc (.cells (a.eval y).cells t)) (B' := B) (row := List.replicate cs.length .hole) hd hr k3
      have h2 := k2 _ _ hv0
      simp only [RepV] at hp h2 ⊢
      obtain ⟨p1, p2⟩ := hp
      obtain ⟨us', e1, e2⟩ := h2
      rw [hu] at e1
      cases e1
      refine ⟨p1, p2, us.toList, e2, fun rows stt fx hg => ?_⟩
      rw [getE_new hd hr, if_pos rfl] at hg
      simp only [List.getD, List.getElem?_cons_zero, Option.getD_some, Ent.mem.injEq] at hg
      obtain ⟨rfl, rfl, rfl⟩ := hg
      refine ⟨by simp, Nat.le_refl _, fun _ _ => ⟨_, w.heap.size, rfl, by rw [List.length_replicate, hl], by rw [k3], fun j u hj => ?_⟩⟩
      have := cells_new (w := w) hw (o := 0) (j := j)
      rw [Nat.zero_add] at this
      rw [this, hcells]
      simpa using hj

end
end TT
