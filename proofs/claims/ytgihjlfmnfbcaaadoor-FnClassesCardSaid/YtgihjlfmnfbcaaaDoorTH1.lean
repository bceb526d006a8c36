import Derived.Test.YtgihjlfmnfbcaaaDoorTE
set_option linter.unusedVariables false
set_option linter.unusedSimpArgs false
namespace TT
open Go Go.RowKit
inductive Fr where
 | th (b : K)
 | lv (id : Nat)
 | hk (hs : List H)
structure Cx where
 na : Nat
 sh : List Nat
 res : List RK
def Hv (cl : List Nat) : AC := fun f args => if cl.contains f then (match args with
 | [.t (.sl false [])] => some ⟨[.t (.sl true [])], []⟩
 | _ => none) else none
abbrev Pb := List E4 → Option BU
def Pc : List (Nat × Pb) → AC
 | [], f, args => none
 | p :: l, f, args => if p.1 == f then p.2 args else Pc l f args
structure TH where
 ft : LL
 cl : List Nat
 lb : List (Nat × Pb) := []
def Pd (E : TH) : AC := fun f args => match Hv E.cl f args with
 | some r => some r
 | none => Pc E.lb f args
noncomputable abbrev dn (E : TH) : AC := den E.ft (Pd E)
theorem OI {cl : List Nat} {f : FuncId} (h : cl.contains f = false) (args : List E4) : Hv cl f args = none := by simp only [Hv, h, Bool.false_eq_true, if_false]
theorem MK : ∀ {l : List (Nat × Pb)} {f : FuncId}, (l.all fun p => p.1 != f) = true → ∀ args, Pc l f args = none
 | [], f, _, args => rfl
 | p :: l, f, h, args => by
  simp only [List.all_cons, Bool.and_eq_true, bne_iff_ne] at h
  have h1 : (p.1 == f) = false := by simpa using h.1
  simp only [Pc, h1, Bool.false_eq_true, if_false]
  exact MK h.2 args
theorem TI {E : TH} {f : FuncId} (h : E.cl.contains f = false) (h2 : (E.lb.all fun p => p.1 != f) = true) (args : List E4) : Pd E f args = none := by
 simp only [Pd, OI h, MK h2]
def KY (G : Gt) (P : Program) (f : FuncId) (g : Pb) : Prop := ∀ args res, g args = some res → IN P f = true ∧ ∀ w B L us ls, AN w B args us L ls → (∀ b, L b → ¬ B b) → (∀ b, B b → b < w.heap.size) → G.ok B w → Calls P f us.toArray w (RJ w B L ls res)
theorem KZ {G : Gt} {P : Program} : ∀ {l : List (Nat × Pb)}, (∀ p ∈ l, KY G P p.1 p.2) → By G P (Pc l)
 | [], h => fun f args res hr => by simp [Pc] at hr
 | p :: l, h => fun f args res hr => by
  simp only [Pc] at hr
  split at hr
  ·rename_i e
   have e : p.1 = f := by simpa using e
   subst e
   exact h p (List.mem_cons_self ..) args res hr
  ·exact KZ (fun q hq => h q (List.mem_cons_of_mem _ hq)) f args res hr
theorem ML {G : Gt} {P : Program} {E : TH} (h : By G P (Hv E.cl)) (h2 : ∀ p ∈ E.lb, KY G P p.1 p.2) : By G P (Pd E) := fun f args res hr => by
 unfold Pd at hr
 cases hc : Hv E.cl f args with
 | some r => rw [hc] at hr; cases hr; exact h f args _ hc
 | none => rw [hc] at hr; exact KZ h2 f args res hr
theorem Pe {G : Gt} {P : Program} {FT : LL} : By G P (Pd ⟨FT, [], []⟩) := ML (fun f args res h => by simp [Hv] at h) (fun p hp => by cases hp)
theorem Pf {w w' : World} {B : Nat → Prop} (hB : ∀ b, B b → b < w.heap.size) (hb : Below w.heap.size w w') {vs : List Value} (h1 : ∀ v ∈ vs, v.oneCell' = true) : RJ w B (fun _ => False) [] ⟨vs.map fun v => .t (.v v), []⟩ (.returned (KK vs)) w' := by
 obtain ⟨os, tp, ou, sz, fr⟩ := hb
 have hv : ∀ vs : List Value, (∀ v ∈ vs, v.oneCell' = true) → Bo w' B (vs.map fun v => .t (.v v)) vs (fun _ => False) := by
  intro vs
  induction vs with
  | nil => intro _; simp only [List.map_nil, Bo]; exact ⟨trivial, fun _ h => h⟩
  | cons v vs ih =>
   intro h1
   simp only [List.map_cons, Bo]
   exact ⟨v, vs, fun _ => False, fun _ => False, rfl, ⟨by simp only [C8]; exact ⟨trivial, fun _ h => h⟩, h1 v (List.mem_cons_self ..)⟩, ih fun u hu => h1 u (List.mem_cons_of_mem _ hu), ⟨fun b => by simp, fun b h _ => h⟩⟩
 refine ⟨B, fun _ => False, fun _ => False, vs, ?_⟩
 exact { val := rfl, vals := hv vs h1, after := by simp only [AP]; exact ⟨trivial, fun _ h => h⟩, dis := fun _ h => h.elim, nr := fun _ h => h.elim, na := fun _ h => h.elim, old := fun _ h => h, sh := fun _ h => .inl h, ownr := fun _ h => h.elim, owna := fun _ h => h.elim,
         inB := fun b hb => Nat.lt_of_lt_of_le (hB b hb) sz, frame := fun b hb _ => fr b hb, size := sz, os := os, tape := tp, output := ou }
theorem Ka {w : World} {B : Nat → Prop} : ∀ {vs us : List Value} {L : Nat → Prop} {ls : List CE}, AN w B (vs.map fun v => .t (.v v)) us L ls → us = vs ∧ (∀ b, ¬ L b) ∧ ls = []
 | [], us, L, ls, h => by simp only [List.map_nil, AN] at h; exact ⟨h.1, h.2.1, h.2.2⟩
 | v :: vs, us, L, ls, h => by
  simp only [List.map_cons, AN] at h
  obtain ⟨u, us', S1, S2, l1, l2, rfl, h1, h2, h3, rfl⟩ := h
  simp only [AV, CF] at h1
  obtain ⟨rfl, _, e1, rfl⟩ := h1
  obtain ⟨rfl, e2, rfl⟩ := Ka h2
  exact ⟨rfl, fun b hb => ((h3.1 b).1 hb).elim (e1 b) (e2 b), rfl⟩
theorem Mv {G : Gt} {P : Program} {f : FuncId} {g : Pb} (hc : IN P f = true) (h : ∀ args res, g args = some res → ∃ vs rs : List Value, args = vs.map (fun v => .t (.v v)) ∧ res = ⟨rs.map fun v => .t (.v v), []⟩ ∧ (∀ v ∈ rs, v.oneCell' = true) ∧
  ∀ w B, G.ok B w → Calls P f vs.toArray w fun e w' => e = .returned (KK rs) ∧ Below w.heap.size w w') : KY G P f g := fun args res hr => by
 refine ⟨hc, fun w B L us ls hA hL hB hG => ?_⟩
 obtain ⟨vs, rs, rfl, rfl, h1, h2⟩ := h args res hr
 obtain ⟨rfl, hE, rfl⟩ := Ka hA
 have hL0 : L = fun _ => False := funext fun b => propext ⟨fun h => hE b h, fun h => h.elim⟩
 subst hL0
 refine Calls.mono (h2 w B hG) ?_
 rintro e w' ⟨rfl, hb⟩
 exact Pf hB hb h1
noncomputable section
variable (FT : TH)
def fin (c : Cx) (s : List V) (r : R) : Option BU :=
 ((LK s c.res M.ret).run (fun _ _ => none) 0 r).bind fun o => if Gg o.2 c.na = c.sh then some { vals := o.1, after := K9 o.2 c.na } else none
def un (c : Cx) : List Fr → Ex × St → Option BU
 | [], q => match q.1 with
  | .exit _ => none
  | _ => fin c q.2.s q.2.r
 | .th b :: F, q => (TD FT.ft (Pd FT) b q).bind (un c F)
 | .lv id :: F, q => un c F (TE id q)
 | .hk hs :: F, q => (TF hs q).bind (un c F)
def gn (c : Cx) (F : List Fr) (s : List V) (r : R) : Option BU := un FT c F (.normal, ⟨s, r⟩)
def gx (c : Cx) (F : List Fr) (id : Nat) (s : List V) (r : R) : Option BU := un FT c F (.exit id, ⟨s, r⟩)
def gr (c : Cx) (F : List Fr) (s : List V) (r : R) : Option BU := un FT c F (.ret, ⟨s, r⟩)
def ev (c : Cx) (k : K) (F : List Fr) (s : List V) (r : R) : Option BU := (rk FT.ft (Pd FT) k ⟨s, r⟩).bind (un FT c F)
theorem YL (c : Cx) (s : List V) (r : R) : gn FT c [] s r = fin c s r := rfl
theorem Zx (c : Cx) (b : K) (F : List Fr) (s : List V) (r : R) : gn FT c (.th b :: F) s r = ev FT c b F s r := rfl
theorem Zy (c : Cx) (id : Nat) (F : List Fr) (s : List V) (r : R) : gn FT c (.lv id :: F) s r = gn FT c F s r := rfl
theorem Zz (c : Cx) (b : K) (F : List Fr) (id : Nat) (s : List V) (r : R) : gx FT c (.th b :: F) id s r = gx FT c F id s r := rfl
theorem a6 (c : Cx) (hs : List H) (F : List Fr) (id : Nat) (s : List V) (r : R) : gx FT c (.hk hs :: F) id s r = gx FT c F id s r := rfl
theorem a7 (c : Cx) (j : Nat) (F : List Fr) (id : Nat) (s : List V) (r : R) : gx FT c (.lv j :: F) id s r = if id = j then gn FT c F s r else gx FT c F id s r := by
 simp only [gx, gn, un, TE]; split <;> rfl
theorem YM (c : Cx) (id : Nat) (s : List V) (r : R) : gx FT c [] id s r = none := rfl
theorem a8 (c : Cx) (b : K) (F : List Fr) (s : List V) (r : R) : gr FT c (.th b :: F) s r = gr FT c F s r := rfl
theorem aA (c : Cx) (hs : List H) (F : List Fr) (s : List V) (r : R) : gr FT c (.hk hs :: F) s r = gr FT c F s r := rfl
theorem aB (c : Cx) (j : Nat) (F : List Fr) (s : List V) (r : R) : gr FT c (.lv j :: F) s r = gr FT c F s r := rfl
theorem YN (c : Cx) (s : List V) (r : R) : gr FT c [] s r = fin c s r := rfl
def hn (c : Cx) (hs : List H) (F : List Fr) (s : List V) (r : R) : Option BU := (Fs hs ⟨s, r⟩).bind fun st => gn FT c F st.s st.r
theorem aC (c : Cx) (hs : List H) (F : List Fr) (s : List V) (r : R) : gn FT c (.hk hs :: F) s r = hn FT c hs F s r := by
 simp only [gn, un, TF, hn]; cases Fs hs ⟨s, r⟩ <;> rfl
theorem YO (c : Cx) (F : List Fr) (s : List V) (r : R) : hn FT c [] F s r = gn FT c F s r := rfl
def OJ : List Nat → List V → List V
 | [], s => s
 | t :: ts, s => OJ ts (s.set t .dead)
theorem TJ (ts : List Nat) : ∀ s, ts.foldl (fun s t => s.set t V.dead) s = OJ ts s := by
 induction ts with
 | nil => intro s; rfl
 | cons t ts ih => intro s; exact ih _
theorem Vk (c : Cx) (ts : List Nat) (hs : List H) (F : List Fr) (s : List V) (r : R) : hn FT c (.kill ts :: hs) F s r = hn FT c hs F (OJ ts s) r := by
 simp only [hn, Fs, Jz, TJ, Option.bind_some]
def clS (ts : List Nat) (i : Nat) : List V → List V
 | [] => []
 | v :: vs => E9 ts i v :: clS ts (i + 1) vs
def clR (ts : List Nat) (i : Nat) : R → R
 | [] => []
 | v :: vs => FJ ts i v :: clR ts (i + 1) vs
theorem Pg (ts : List Nat) : ∀ (s : List V) (i : Nat), s.mapIdx (fun j => E9 ts (i + j)) = clS ts i s
 | [], i => rfl
 | v :: vs, i => by
  rw [List.mapIdx_cons]
  simp only [clS, Nat.add_zero]
  congr 1
  rw [← Pg ts vs (i + 1)]
  congr 1; funext j; rw [show i + (j + 1) = i + 1 + j by omega]
theorem TK (ts : List Nat) : ∀ (s : R) (i : Nat), s.mapIdx (fun j => FJ ts (i + j)) = clR ts i s
 | [], i => rfl
 | v :: vs, i => by
  rw [List.mapIdx_cons]
  simp only [clR, Nat.add_zero]
  congr 1
  rw [← TK ts vs (i + 1)]
  congr 1; funext j; rw [show i + (j + 1) = i + 1 + j by omega]
theorem TL (c : Cx) (ts : List Nat) (hs : List H) (F : List Fr) (s : List V) (r : R) : hn FT c (.clean ts :: hs) F s r = hn FT c hs F (clS ts 0 s) (clR ts 0 r) := by
 have h1 := Pg ts s 0
 have h2 := TK ts r 0
 simp only [Nat.zero_add] at h1 h2
 simp only [hn, Fs, Jz, Option.bind_some, ← h1, ← h2]
def Ph (r : R) : V → Option (V × R)
 | .ref id n => match A9 r id with
  | .mem rows _ fx => if rows.length = n ∧ fx = false then some (.t (.sl false (AG rows)), AS r id .dead) else none
  | .dead => if n = 0 then some (.t (.sl false []), AS r id .dead) else none
 | .nil => some (.t (.sl false []), r)
 | .t (.sl o rows) => some (.t (.sl o rows), r)
 | .ptr id p i off n _ => if p.isEmpty && (i == 0 && n == 1) then (match A9 r id with
  | .mem [cells] _ fx => if off < cells.length ∧ fx = false then some (.pp ((D7 cells).drop off), AS r id .dead) else none
  | _ => none) else none
 | _ => none
def aD (r : R) (id : Id) (off : Nat) : BO → Option (V × R)
 | .mem [cells] _ fx => if off < cells.length ∧ fx = false then some (.pp ((D7 cells).drop off), AS r id .dead) else none
 | _ => none
theorem TM (r : R) (id : Id) (off st : Nat) : Ph r (.ptr id [] 0 off 1 st) = aD r id off (A9 r id) := rfl
theorem TN (r : R) (id : Id) (off : Nat) (cells : List T) (st : Nat) (fx : Bool) : aD r id off (.mem [cells] st fx) = if off < cells.length ∧ fx = false then some (.pp ((D7 cells).drop off), AS r id .dead) else none := rfl
def TO (r : R) (id : Id) (n : Nat) : BO → Option (V × R)
 | .mem rows _ fx => if rows.length = n ∧ fx = false then some (.t (.sl false (AG rows)), AS r id .dead) else none
 | .dead => if n = 0 then some (.t (.sl false []), AS r id .dead) else none
theorem OK (r : R) (id : Id) (n : Nat) : Ph r (.ref id n) = TO r id n (A9 r id) := by
 simp only [Ph]; cases A9 r id <;> rfl
theorem TP (r : R) (id : Id) (n : Nat) (rows : Rows) (st : Nat) (fx : Bool) : TO r id n (.mem rows st fx) = if rows.length = n ∧ fx = false then some (.t (.sl false (AG rows)), AS r id .dead) else none := rfl
theorem TQ (r : R) : Ph r .nil = some (.t (.sl false []), r) := rfl
theorem YP (r : R) (o : Bool) (rows : Rows) : Ph r (.t (.sl o rows)) = some (.t (.sl o rows), r) := rfl
theorem Ra (c : Cx) (t : Nat) (hs : List H) (F : List Fr) (s : List V) (r : R) : hn FT c (.freeze t :: hs) F s r = (Ph r (s.getD t .dead)).bind fun q => hn FT c hs F (s.set t q.1) q.2 := by
 simp only [hn, Fs, Jz]
 generalize s.getD t .dead = v
 cases v <;> try rfl
 ·rename_i q; cases q <;> rfl
 ·rename_i id n
  rw [OK]
  simp only [EF, M.run]
  cases A9 r id with
  | dead =>
   simp only [TO]
   split <;> rfl
  | mem rows st fx =>
   simp only [TO]
   split <;> rfl
 ·rename_i id p i off n st
  simp only [Ph, EF]
  by_cases h : (p.isEmpty && (i == 0 && n == 1)) = true
  ·rw [if_pos h, if_pos h]
   simp only [M.run]
   generalize A9 r id = e
   cases e with
   | dead => rfl
   | mem rows st fx =>
    cases rows with
    | nil => rfl
    | cons cells rest =>
     cases rest with
     | cons _ _ => rfl
     | nil =>
      simp only
      by_cases h2 : off < cells.length ∧ fx = false
      ·rw [if_pos h2, if_pos h2]; rfl
      ·rw [if_neg h2, if_neg h2]; rfl
  ·rw [if_neg h, if_neg h]; rfl
def Vl (c : Cx) (t d : Nat) (hs : List H) (F : List Fr) (s : List V) (r : R) : V → Option BU
 | .nil => if d < r.length && (r.getD d []).isEmpty then hn FT c hs F (s.set t (.ref (d, 0) 0)) (r.set d [.mem [] 0 false]) else none
 | .ref _ _ => hn FT c hs F s r
 | _ => none
theorem TR (c : Cx) (t d : Nat) (hs : List H) (F : List Fr) (s : List V) (r : R) : Vl FT c t d hs F s r .nil = if d < r.length && (r.getD d []).isEmpty then hn FT c hs F (s.set t (.ref (d, 0) 0)) (r.set d [.mem [] 0 false]) else none := rfl
theorem TS (c : Cx) (t d : Nat) (hs : List H) (F : List Fr) (s : List V) (r : R) (id : Id) (n : Nat) : Vl FT c t d hs F s r (.ref id n) = hn FT c hs F s r := rfl
theorem YQ (c : Cx) (t d : Nat) (hs : List H) (F : List Fr) (s : List V) (r : R) : hn FT c (.own t d :: hs) F s r = Vl FT c t d hs F s r (s.getD t .dead) := by
 simp only [hn, Fs, Jz]
 generalize s.getD t .dead = v
 cases v <;> try rfl
 simp only [Vl]
 split <;> rfl
def TU (c : Cx) (t d : Nat) (id : Id) (n : Nat) (hs : List H) (F : List Fr) (s : List V) (r : R) : BO → List BO → Option BU
 | .mem rows _ false, [.dead] => if rows.length = n ∧ id.1 ≠ d then hn FT c hs F ((clS [id.1, d] 0 s).set t (.ref (d, 0) n)) ((r.set id.1 []).set d [.mem rows 0 false]) else none
 | _, _ => none
def Xm (c : Cx) (t d : Nat) (hs : List H) (F : List Fr) (s : List V) (r : R) : V → Option BU
 | .ref id n => TU FT c t d id n hs F s r (A9 r id) (r.getD d [])
 | _ => none
theorem MM (c : Cx) (t d : Nat) (hs : List H) (F : List Fr) (s : List V) (r : R) (id : Id) (n : Nat) : Xm FT c t d hs F s r (.ref id n) = TU FT c t d id n hs F s r (A9 r id) (r.getD d []) := rfl
theorem MN (c : Cx) (t d : Nat) (id : Id) (n : Nat) (hs : List H) (F : List Fr) (s : List V) (r : R) (rows : Rows) (st : Nat) : TU FT c t d id n hs F s r (.mem rows st false) [.dead] = if rows.length = n ∧ id.1 ≠ d then hn FT c hs F ((clS [id.1, d] 0 s).set t (.ref (d, 0) n)) ((r.set id.1 []).set d [.mem rows 0 false]) else none := rfl
theorem Vm (c : Cx) (t d : Nat) (hs : List H) (F : List Fr) (s : List V) (r : R) : hn FT c (.home t d :: hs) F s r = Xm FT c t d hs F s r (s.getD t .dead) := by
 simp only [hn, Fs, Jz]
 generalize s.getD t .dead = v
 cases v <;> try rfl
 rename_i id n
 have h1 := Pg [id.1, d] s 0
 simp only [Nat.zero_add] at h1
 rw [MM]
 simp only
 generalize A9 r id = e
 generalize r.getD d [] = l
 cases e with
 | dead => rfl
 | mem rows st fx =>
  cases fx with
  | true => rfl
  | false =>
   match l with
   | [] => rfl
   | [.dead] =>
    rw [MN]
    by_cases hc : rows.length = n ∧ id.1 ≠ d
    ·simp only [if_pos hc, ← h1]; rfl
    ·simp only [if_neg hc]; rfl
   | .mem .. :: _ => rfl
   | .dead :: _ :: _ => rfl
def Qz (c : Cx) (d k : Nat) (rows : Rows) (stt : Nat) (fx : Bool) (hs : List H) (F : List Fr) (s : List V) (r : R) : Option T → Option BU
 | some (.sl true rs) => hn FT c hs F s (AS r (d, 0) (.mem (AO rows [] 0 k (.sl false (AG rs))) stt fx))
 | some (.sl false _) => hn FT c hs F s r
 | _ => none
def Xn (c : Cx) (d k : Nat) (hs : List H) (F : List Fr) (s : List V) (r : R) : BO → Option BU
 | .mem rows stt fx => Qz FT c d k rows stt fx hs F s r (AX rows [] 0 k)
 | _ => none
theorem MO (c : Cx) (d k : Nat) (hs : List H) (F : List Fr) (s : List V) (r : R) (rows : Rows) (stt : Nat) (fx : Bool) : Xn FT c d k hs F s r (.mem rows stt fx) = Qz FT c d k rows stt fx hs F s r (AX rows [] 0 k) := rfl
theorem TV (c : Cx) (d k : Nat) (rows : Rows) (stt : Nat) (fx : Bool) (hs : List H) (F : List Fr) (s : List V) (r : R) (rs : Rows) : Qz FT c d k rows stt fx hs F s r (some (.sl true rs)) = hn FT c hs F s (AS r (d, 0) (.mem (AO rows [] 0 k (.sl false (AG rs))) stt fx)) := rfl
theorem TW (c : Cx) (d k : Nat) (rows : Rows) (stt : Nat) (fx : Bool) (hs : List H) (F : List Fr) (s : List V) (r : R) (rs : Rows) : Qz FT c d k rows stt fx hs F s r (some (.sl false rs)) = hn FT c hs F s r := rfl
theorem Vn (c : Cx) (d k : Nat) (hs : List H) (F : List Fr) (s : List V) (r : R) : hn FT c (.frzc d k :: hs) F s r = Xn FT c d k hs F s r (A9 r (d, 0)) := by
 simp only [hn, Fs, Jz]
 generalize A9 r (d, 0) = e
 cases e with
 | dead => rfl
 | mem rows stt fx =>
  simp only [MO]
  generalize AX rows [] 0 k = o
  match o with
  | none => rfl
  | some (.v x) => rfl
  | some .hole => rfl
  | some (.sl false rs) => rfl
  | some (.sl true rs) => rfl
def Vo (c : Cx) (d : Nat) (hs : List H) (F : List Fr) (s : List V) (r : R) : BO → Option BU
 | .mem rows st fx => hn FT c hs F s (AS r (d, 0) (.mem rows st fx))
 | .dead => none
theorem TX (c : Cx) (d : Nat) (hs : List H) (F : List Fr) (s : List V) (r : R) (rows : Rows) (st : Nat) (fx : Bool) : Vo FT c d hs F s r (.mem rows st fx) = hn FT c hs F s (AS r (d, 0) (.mem rows st fx)) := rfl
theorem YR (c : Cx) (d : Nat) (hs : List H) (F : List Fr) (s : List V) (r : R) : hn FT c (.opn d :: hs) F s r = Vo FT c d hs F s r (A9 r (d, 0)) := by
 simp only [hn, Fs, Jz]
 cases he : A9 r (d, 0) with
 | dead => rfl
 | mem rows st fx =>
  have hth : AD r (d, 0) := Ar (by rw [he]; simp)
  have := MD hth
  rw [he] at this
  simp only [Vo, this]
  rfl
def TY (c : Cx) (d k : Nat) (rows : Rows) (stt : Nat) (fx : Bool) (hs : List H) (F : List Fr) (s : List V) (r : R) : Option T → Option BU
 | some (.sl true rs) => hn FT c hs F s (AS r (d, 0) (.mem (AO rows [] 0 k (.sl true (AG rs))) (stt + 1) fx))
 | _ => none
def Xo (c : Cx) (d k : Nat) (hs : List H) (F : List Fr) (s : List V) (r : R) : BO → Option BU
 | .mem rows stt fx => TY FT c d k rows stt fx hs F s r (AX rows [] 0 k)
 | _ => none
theorem MP (c : Cx) (d k : Nat) (hs : List H) (F : List Fr) (s : List V) (r : R) (rows : Rows) (stt : Nat) (fx : Bool) : Xo FT c d k hs F s r (.mem rows stt fx) = TY FT c d k rows stt fx hs F s r (AX rows [] 0 k) := rfl
theorem TZ (c : Cx) (d k : Nat) (rows : Rows) (stt : Nat) (fx : Bool) (hs : List H) (F : List Fr) (s : List V) (r : R) (rs : Rows) : TY FT c d k rows stt fx hs F s r (some (.sl true rs)) = hn FT c hs F s (AS r (d, 0) (.mem (AO rows [] 0 k (.sl true (AG rs))) (stt + 1) fx)) := rfl
theorem Vp (c : Cx) (d k : Nat) (hs : List H) (F : List Fr) (s : List V) (r : R) : hn FT c (.frzb d k :: hs) F s r = Xo FT c d k hs F s r (A9 r (d, 0)) := by
 simp only [hn, Fs, Jz]
 generalize A9 r (d, 0) = e
 cases e with
 | dead => rfl
 | mem rows stt fx =>
  simp only [MP]
  generalize AX rows [] 0 k = o
  match o with
  | none => rfl
  | some (.v x) => rfl
  | some .hole => rfl
  | some (.sl false rs) => rfl
  | some (.sl true rs) => rfl
def Xp (c : Cx) (d k : Nat) (hs : List H) (F : List Fr) (s : List V) (r : R) : BO → Option BU
 | .mem rows stt fx => hn FT c hs F s (AS r (d, k) (.mem (AG rows) (stt + 1) fx))
 | _ => none
theorem Rb (c : Cx) (d k : Nat) (hs : List H) (F : List Fr) (s : List V) (r : R) (rows : Rows) (stt : Nat) (fx : Bool) : Xp FT c d k hs F s r (.mem rows stt fx) = hn FT c hs F s (AS r (d, k) (.mem (AG rows) (stt + 1) fx)) := rfl
theorem Vq (c : Cx) (d k : Nat) (hs : List H) (F : List Fr) (s : List V) (r : R) : hn FT c (.frzr d k :: hs) F s r = Xp FT c d k hs F s r (A9 r (d, k)) := by
 simp only [hn, Fs, Jz]
 generalize A9 r (d, k) = e
 cases e with
 | dead => rfl
 | mem rows stt fx => rfl
theorem aE (c : Cx) (hs : List H) (k : K) (F : List Fr) (s : List V) (r : R) : ev FT c (.hp hs k) F s r = hn FT c hs (.th k :: F) s r := by
 simp only [ev, Zw, hn, Option.bind_assoc]; rfl
theorem Vr (c : Cx) (F : List Fr) (s : List V) (r : R) : ev FT c .skip F s r = gn FT c F s r := by simp only [ev, Vg]; rfl
theorem aF (c : Cx) (id : Nat) (F : List Fr) (s : List V) (r : R) : ev FT c (.ex id) F s r = gx FT c F id s r := by simp only [ev, Zv]; rfl
theorem YS (c : Cx) (F : List Fr) (s : List V) (r : R) : ev FT c .ret F s r = gr FT c F s r := by simp only [ev, YH]; rfl
theorem YT (c : Cx) (a b : K) (F : List Fr) (s : List V) (r : R) : ev FT c (.seq a b) F s r = ev FT c a (.th b :: F) s r := by simp only [ev, YI, Option.bind_assoc]; rfl
theorem YU (c : Cx) (id : Nat) (b : K) (F : List Fr) (s : List V) (r : R) : ev FT c (.blk id b) F s r = ev FT c b (.lv id :: F) s r := by
 simp only [ev, YJ]; cases rk FT.ft (Pd FT) b ⟨s, r⟩ <;> rfl
theorem ax (c : Cx) (hs : List H) (k : K) (F : List Fr) (s : List V) (r : R) : ev FT c (.h hs k) F s r = ev FT c k (.hk hs :: F) s r := by simp only [ev, av, Option.bind_assoc]; rfl
theorem EH (c : Cx) (b : K) (F : List Fr) (s : List V) (r : R) : ev FT c (.loop b) F s r = ev FT c b (.th (.loop b) :: F) s r := by
 simp only [ev]; rw [Vi, Option.bind_assoc]; rfl
def ck (c : Cx) (v : V) (a b : K) (F : List Fr) (s : List V) (r : R) : Option BU := match v with
 | .t (.v (.bool true)) => ev FT c a F s r
 | .t (.v (.bool false)) => ev FT c b F s r
 | _ => none
theorem Vs (c : Cx) (x : An) (a b : K) (F : List Fr) (s : List V) (r : R) : ev FT c (.cond x a b) F s r = ck FT c (A1 s x) a b F s r := by
 simp only [ev, Vh, ck, ckV]; split <;> simp_all
theorem Vt (c : Cx) (a b : K) (F : List Fr) (s : List V) (r : R) : ck FT c (.t (.v (.bool true))) a b F s r = ev FT c a F s r := rfl
theorem Ta (c : Cx) (a b : K) (F : List Fr) (s : List V) (r : R) : ck FT c (.t (.v (.bool false))) a b F s r = ev FT c b F s r := rfl
def an (c : Cx) (dr : Bool) (d : Option Nat) (es : List Da) (F : List Fr) (s : List V) (q : V × R) : Option BU :=
 ev FT c (.reg dr es) F (match d with | some t => s.set t q.1 | none => s) q.2
def opR (dr : Bool) (d : Nat) (o : O) (rd wr : List Nat) (s : List V) (r : R) : Option (V × R) :=
 if dr then (AL s d o).runA (dn FT) d rd wr r else (AL s d o).run (dn FT) d r
theorem YV (c : Cx) (dr : Bool) (F : List Fr) (s : List V) (r : R) : ev FT c (.reg dr []) F s r = gn FT c F s r := by simp only [ev, Hu]; rfl
theorem Vu (c : Cx) (dr : Bool) (t : Nat) (es : List Da) (F : List Fr) (s : List V) (v : V) (r : R) : an FT c dr (some t) es F s (v, r) = ev FT c (.reg dr es) F (s.set t v) r := rfl
theorem Vv (c : Cx) (dr : Bool) (es : List Da) (F : List Fr) (s : List V) (v : V) (r : R) : an FT c dr none es F s (v, r) = ev FT c (.reg dr es) F s r := rfl
theorem Xq (c : Cx) (dr : Bool) (d : Option Nat) (o : O) (rd wr : List Nat) (es : List Da) (F : List Fr) (s : List V) (r : R) :
  ev FT c (.reg dr (⟨d, none, o, rd, wr⟩ :: es)) F s r = (opR FT dr (d.getD 0) o rd wr s r).bind (an FT c dr d es F s) := by
 simp only [ev, Hu, BZ, B9, CI, Option.bind_some, if_true, opR]
 cases dr <;> simp only [if_true, if_false, Bool.false_eq_true]
 ·cases M.run (dn FT) (d.getD 0) (AL s (d.getD 0) o) r with
  | none => rfl
  | some q => cases d <;> simp [an, ev, Hu, St.put]
 ·cases M.runA (dn FT) (d.getD 0) rd wr (AL s (d.getD 0) o) r with
  | none => rfl
  | some q => cases d <;> simp [an, ev, Hu, St.put]
def gd (c : Cx) (dr : Bool) (v : V) (w : Bool) (d : Option Nat) (o : O) (rd wr : List Nat) (es : List Da) (F : List Fr) (s : List V) (r : R) : Option BU := match v with
 | .t (.v (.bool b)) => if b == w then (opR FT dr (d.getD 0) o rd wr s r).bind (an FT c dr d es F s) else an FT c dr d es F s (.tup [], r)
 | .tup [] => an FT c dr d es F s (.tup [], r)
 | _ => none
theorem aG (c : Cx) (dr : Bool) (d : Option Nat) (t : Nat) (w : Bool) (o : O) (rd wr : List Nat) (es : List Da) (F : List Fr) (s : List V) (r : R) :
  ev FT c (.reg dr (⟨d, some (t, w), o, rd, wr⟩ :: es)) F s r = gd FT c dr (s.getD t .dead) w d o rd wr es F s r := by
 have h0 := Xq FT c dr d o rd wr es F s r
 simp only [ev, Hu, BZ, B9, CI, Option.bind_some, if_true] at h0
 simp only [ev, Hu, BZ, B9, CI]
 generalize s.getD t .dead = v
 have hs : (Option.map (fun st' => (Ex.normal, st')) ((some ((⟨s, r⟩ : St).put d (V.tup []))).bind (BZ (dn FT) dr es))).bind (un FT c F) = an FT c dr d es F s (.tup [], r) := by
  cases d <;> simp [an, ev, Hu, St.put]
 have e0 : gd FT c dr v w d o rd wr es F s r = (match v with
  | .t (.v (.bool b)) => if b == w then (opR FT dr (d.getD 0) o rd wr s r).bind (an FT c dr d es F s) else an FT c dr d es F s (.tup [], r)
  | .tup [] => an FT c dr d es F s (.tup [], r)
  | _ => none) := rfl
 rw [e0]
 match v with
 | .t (.v (.bool b)) =>
  simp only [Option.bind_some]
  split
  ·rw [← h0]
  ·exact hs
 | .tup [] => exact hs
 | .nil | .agg _ | .ref _ _ | .sub .. | .ptr .. | .pp _ | .fn _ _ | .vb .. | .vw .. | .dead | .tup (_ :: _) => rfl
 | .t .hole | .t (.sl _ _) => rfl
 | .t (.v x) => cases x <;> first | rfl | (simp only [Option.bind_some]; split; (rw [← h0]); exact hs)
theorem Vw (c : Cx) (dr : Bool) (w : Bool) (d : Option Nat) (o : O) (rd wr : List Nat) (es : List Da) (F : List Fr) (s : List V) (r : R) :
  gd FT c dr (.tup []) w d o rd wr es F s r = an FT c dr d es F s (.tup [], r) := rfl
theorem aH (c : Cx) (dr : Bool) (d : Option Nat) (o : O) (rd wr : List Nat) (es : List Da) (F : List Fr) (s : List V) (r : R) :
  gd FT c dr (.t (.v (.bool true))) true d o rd wr es F s r = (opR FT dr (d.getD 0) o rd wr s r).bind (an FT c dr d es F s) := rfl
theorem aI (c : Cx) (dr : Bool) (d : Option Nat) (o : O) (rd wr : List Nat) (es : List Da) (F : List Fr) (s : List V) (r : R) :
  gd FT c dr (.t (.v (.bool false))) false d o rd wr es F s r = (opR FT dr (d.getD 0) o rd wr s r).bind (an FT c dr d es F s) := rfl
theorem aJ (c : Cx) (dr : Bool) (d : Option Nat) (o : O) (rd wr : List Nat) (es : List Da) (F : List Fr) (s : List V) (r : R) :
  gd FT c dr (.t (.v (.bool true))) false d o rd wr es F s r = an FT c dr d es F s (.tup [], r) := rfl
theorem aK (c : Cx) (dr : Bool) (d : Option Nat) (o : O) (rd wr : List Nat) (es : List Da) (F : List Fr) (s : List V) (r : R) :
  gd FT c dr (.t (.v (.bool false))) true d o rd wr es F s r = an FT c dr d es F s (.tup [], r) := rfl
theorem AU {f : FuncId} {fn : F} {args : List E4} (hf : FT.ft f = some fn) (hx : Pd FT f args = none) (hl : args.length ≤ fn.nt) (hc : fn.co = none := by rfl) :
  dn FT f args = ev FT ⟨args.length, Gg (enter fn.nt args).r args.length, fn.res⟩ fn.body [] (enter fn.nt args).s (enter fn.nt args).r := by
 unfold dn
 rw [YK FT.ft (Pd FT) hf hx hl hc]
 simp only [ev]
 show (rk FT.ft (Pd FT) fn.body (enter fn.nt args)).bind _ = (rk FT.ft (Pd FT) fn.body (enter fn.nt args)).bind _
 congr 1
end
end TT
