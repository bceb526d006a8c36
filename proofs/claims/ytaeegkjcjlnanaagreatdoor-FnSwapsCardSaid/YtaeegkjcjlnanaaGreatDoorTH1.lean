import Derived.Test.YtaeegkjcjlnanaaGreatDoorTE
set_option linter.unusedVariables false
set_option linter.unusedSimpArgs false
namespace TT
open Go Go.RowKit
inductive Fr where
 | th (b : K)
 | lv (id : Nat)
 | hk (hs : List H)
structure Cx where
 na : Nat
 sh : List Nat
 res : List RK
def Lv (cl : List Nat) : AN := fun f args => if cl.contains f then (match args with
 | [.t (.sl false [])] => some ⟨[.t (.sl true [])], []⟩
 | _ => none) else none
abbrev Y0 := List GA → Option Am
def lQ : List (Nat × Y0) → AN
 | [], f, args => none
 | p :: l, f, args => if p.1 == f then p.2 args else lQ l f args
structure Env where
 ft : br
 cl : List Nat
 lb : List (Nat × Y0) := []
def Sw (E : Env) : AN := fun f args => match Lv E.cl f args with
 | some r => some r
 | none => lQ E.lb f args
noncomputable abbrev dn (E : Env) : AN := den E.ft (Sw E)
theorem jL {cl : List Nat} {f : FuncId} (h : cl.contains f = false) (args : List GA) : Lv cl f args = none := by simp only [Lv, h, Bool.false_eq_true, if_false]
theorem lR {cl : List Nat} {f : FuncId} (h : cl.contains f = true) : Lv cl f [.t (.sl false [])] = some ⟨[.t (.sl true [])], []⟩ := by simp only [Lv, h, if_true]
theorem jM {cl : List Nat} {f : FuncId} (r : List T) (rs : Rows) : Lv cl f [.t (.sl false (r :: rs))] = none := by simp only [Lv]; split <;> rfl
theorem fS {G : Gt} {P : Program} {call0 : AN} {cl : List Nat} (hS : DZ G P call0) (h : ∀ f, cl.contains f = true → ∀ q cap, call0 f [.t (.v (.slice q 0 cap))] = some ⟨[.t (.sl true [])], []⟩) : DZ G P (Lv cl) := by
 intro f args res hr
 unfold Lv at hr
 split at hr
 ·rename_i hc
  split at hr
  ·cases hr
   refine ⟨(hS f _ _ (h f hc none 0)).1, fun w B L us ls hA hL hB hG => ?_⟩
   simp only [AX] at hA
   obtain ⟨u, us', L1, L2, ls1, ls2, rfl, h1, ⟨rfl, h3, h4⟩, h5, h6⟩ := hA
   simp only [Au] at h1
   obtain ⟨g1, g2, g3, g4⟩ := h1
   simp only [Dq] at g1
   obtain ⟨q, cap, rfl, _⟩ := g1
   refine (hS f _ _ (h f hc q cap)).2 w B L _ ls ?_ hL hB hG
   simp only [AX]
   refine ⟨_, [], L1, L2, ls1, ls2, rfl, ?_, ⟨rfl, h3, h4⟩, h5, h6⟩
   simp only [Au, Dq]
   exact ⟨rfl, g2, g3, g4⟩
  ·cases hr
 ·cases hr
theorem WD : ∀ {l : List (Nat × Y0)} {f : FuncId}, (l.all fun p => p.1 != f) = true → ∀ args, lQ l f args = none
 | [], f, _, args => rfl
 | p :: l, f, h, args => by
  simp only [List.all_cons, Bool.and_eq_true, bne_iff_ne] at h
  have h1 : (p.1 == f) = false := by simpa using h.1
  simp only [lQ, h1, Bool.false_eq_true, if_false]
  exact WD h.2 args
theorem qh {E : Env} {f : FuncId} (h : E.cl.contains f = false) (h2 : (E.lb.all fun p => p.1 != f) = true) (args : List GA) : Sw E f args = none := by
 simp only [Sw, jL h, WD h2]
theorem fT {E : Env} {f : FuncId} (h : E.cl.contains f = true) : Sw E f [.t (.sl false [])] = some ⟨[.t (.sl true [])], []⟩ := by simp only [Sw, lR h]
theorem ZX {E : Env} {f : FuncId} (h2 : (E.lb.all fun p => p.1 != f) = true) (r : List T) (rs : Rows) : Sw E f [.t (.sl false (r :: rs))] = none := by
 simp only [Sw, jM, WD h2]
def OV (G : Gt) (P : Program) (f : FuncId) (g : Y0) : Prop := ∀ args res, g args = some res → OB P f = true ∧ ∀ w B L us ls, AX w B args us L ls → (∀ b, L b → ¬ B b) → (∀ b, B b → b < w.heap.size) → G.ok B w → Calls P f us.toArray w (o4 w B L ls res)
theorem ZY {G : Gt} {P : Program} : ∀ {l : List (Nat × Y0)}, (∀ p ∈ l, OV G P p.1 p.2) → DZ G P (lQ l)
 | [], h => fun f args res hr => by simp [lQ] at hr
 | p :: l, h => fun f args res hr => by
  simp only [lQ] at hr
  split at hr
  ·rename_i e
   have e : p.1 = f := by simpa using e
   subst e
   exact h p (List.mem_cons_self ..) args res hr
  ·exact ZY (fun q hq => h q (List.mem_cons_of_mem _ hq)) f args res hr
theorem eK {G : Gt} {P : Program} {E : Env} (h : DZ G P (Lv E.cl)) (h2 : ∀ p ∈ E.lb, OV G P p.1 p.2) : DZ G P (Sw E) := fun f args res hr => by
 unfold Sw at hr
 cases hc : Lv E.cl f args with
 | some r => rw [hc] at hr; cases hr; exact h f args _ hc
 | none => rw [hc] at hr; exact ZY h2 f args res hr
theorem lS {G : Gt} {P : Program} {FT : br} : DZ G P (Sw ⟨FT, [], []⟩) := eK (fun f args res h => by simp [Lv] at h) (fun p hp => by cases hp)
theorem ZZ {w w' : World} {B : Nat → Prop} (hB : ∀ b, B b → b < w.heap.size) (hb : Below w.heap.size w w') {vs : List Value} (h1 : ∀ v ∈ vs, v.oneCell' = true) : o4 w B (fun _ => False) [] ⟨vs.map fun v => .t (.v v), []⟩ (.returned (ZK vs)) w' := by
 obtain ⟨os, tp, ou, sz, fr⟩ := hb
 have hv : ∀ vs : List Value, (∀ v ∈ vs, v.oneCell' = true) → DM w' B (vs.map fun v => .t (.v v)) vs (fun _ => False) := by
  intro vs
  induction vs with
  | nil => intro _; simp only [List.map_nil, DM]; exact ⟨trivial, fun _ h => h⟩
  | cons v vs ih =>
   intro h1
   simp only [List.map_cons, DM]
   exact ⟨v, vs, fun _ => False, fun _ => False, rfl, ⟨by simp only [Ep]; exact ⟨trivial, fun _ h => h⟩, h1 v (List.mem_cons_self ..)⟩, ih fun u hu => h1 u (List.mem_cons_of_mem _ hu), ⟨fun b => by simp, fun b h _ => h⟩⟩
 refine ⟨B, fun _ => False, fun _ => False, vs, ?_⟩
 exact { val := rfl, vals := hv vs h1, after := by simp only [Ag]; exact ⟨trivial, fun _ h => h⟩, dis := fun _ h => h.elim, nr := fun _ h => h.elim, na := fun _ h => h.elim, old := fun _ h => h, sh := fun _ h => .inl h, ownr := fun _ h => h.elim, owna := fun _ h => h.elim,
         inB := fun b hb => Nat.lt_of_lt_of_le (hB b hb) sz, frame := fun b hb _ => fr b hb, size := sz, os := os, tape := tp, output := ou }
theorem Za {w : World} {B : Nat → Prop} : ∀ {vs us : List Value} {L : Nat → Prop} {ls : List Ek}, AX w B (vs.map fun v => .t (.v v)) us L ls → us = vs ∧ (∀ b, ¬ L b) ∧ ls = []
 | [], us, L, ls, h => by simp only [List.map_nil, AX] at h; exact ⟨h.1, h.2.1, h.2.2⟩
 | v :: vs, us, L, ls, h => by
  simp only [List.map_cons, AX] at h
  obtain ⟨u, us', S1, S2, l1, l2, rfl, h1, h2, h3, rfl⟩ := h
  simp only [Au, Dq] at h1
  obtain ⟨rfl, _, e1, rfl⟩ := h1
  obtain ⟨rfl, e2, rfl⟩ := Za h2
  exact ⟨rfl, fun b hb => ((h3.1 b).1 hb).elim (e1 b) (e2 b), rfl⟩
theorem Ml {G : Gt} {P : Program} {f : FuncId} {g : Y0} (hc : OB P f = true) (h : ∀ args res, g args = some res → ∃ vs rs : List Value, args = vs.map (fun v => .t (.v v)) ∧ res = ⟨rs.map fun v => .t (.v v), []⟩ ∧ (∀ v ∈ rs, v.oneCell' = true) ∧
  ∀ w B, G.ok B w → Calls P f vs.toArray w fun e w' => e = .returned (ZK rs) ∧ Below w.heap.size w w') : OV G P f g := fun args res hr => by
 refine ⟨hc, fun w B L us ls hA hL hB hG => ?_⟩
 obtain ⟨vs, rs, rfl, rfl, h1, h2⟩ := h args res hr
 obtain ⟨rfl, hE, rfl⟩ := Za hA
 have hL0 : L = fun _ => False := funext fun b => propext ⟨fun h => hE b h, fun h => h.elim⟩
 subst hL0
 refine Calls.mono (h2 w B hG) ?_
 rintro e w' ⟨rfl, hb⟩
 exact ZZ hB hb h1
noncomputable section
variable (FT : Env)
def fin (c : Cx) (s : List V) (r : R) : Option Am :=
 ((bq s c.res M.ret).run (fun _ _ => none) 0 r).bind fun o => if MP o.2 c.na = c.sh then some { vals := o.1, after := ZA o.2 c.na } else none
def un (c : Cx) : List Fr → Ex × St → Option Am
 | [], q => match q.1 with
  | .exit _ => none
  | _ => fin c q.2.s q.2.r
 | .th b :: F, q => (qd FT.ft (Sw FT) b q).bind (un c F)
 | .lv id :: F, q => un c F (qe id q)
 | .hk hs :: F, q => (qf hs q).bind (un c F)
def gn (c : Cx) (F : List Fr) (s : List V) (r : R) : Option Am := un FT c F (.normal, ⟨s, r⟩)
def gx (c : Cx) (F : List Fr) (id : Nat) (s : List V) (r : R) : Option Am := un FT c F (.exit id, ⟨s, r⟩)
def gr (c : Cx) (F : List Fr) (s : List V) (r : R) : Option Am := un FT c F (.ret, ⟨s, r⟩)
def ev (c : Cx) (k : K) (F : List Fr) (s : List V) (r : R) : Option Am := (rk FT.ft (Sw FT) k ⟨s, r⟩).bind (un FT c F)
theorem yK (c : Cx) (s : List V) (r : R) : gn FT c [] s r = fin c s r := rfl
theorem A0I (c : Cx) (b : K) (F : List Fr) (s : List V) (r : R) : gn FT c (.th b :: F) s r = ev FT c b F s r := rfl
theorem A0J (c : Cx) (id : Nat) (F : List Fr) (s : List V) (r : R) : gn FT c (.lv id :: F) s r = gn FT c F s r := rfl
theorem A0K (c : Cx) (b : K) (F : List Fr) (id : Nat) (s : List V) (r : R) : gx FT c (.th b :: F) id s r = gx FT c F id s r := rfl
theorem A0L (c : Cx) (hs : List H) (F : List Fr) (id : Nat) (s : List V) (r : R) : gx FT c (.hk hs :: F) id s r = gx FT c F id s r := rfl
theorem A0M (c : Cx) (j : Nat) (F : List Fr) (id : Nat) (s : List V) (r : R) : gx FT c (.lv j :: F) id s r = if id = j then gn FT c F s r else gx FT c F id s r := by
 simp only [gx, gn, un, qe]; split <;> rfl
theorem yL (c : Cx) (id : Nat) (s : List V) (r : R) : gx FT c [] id s r = none := rfl
theorem A0N (c : Cx) (b : K) (F : List Fr) (s : List V) (r : R) : gr FT c (.th b :: F) s r = gr FT c F s r := rfl
theorem A0O (c : Cx) (hs : List H) (F : List Fr) (s : List V) (r : R) : gr FT c (.hk hs :: F) s r = gr FT c F s r := rfl
theorem A0P (c : Cx) (j : Nat) (F : List Fr) (s : List V) (r : R) : gr FT c (.lv j :: F) s r = gr FT c F s r := rfl
theorem yM (c : Cx) (s : List V) (r : R) : gr FT c [] s r = fin c s r := rfl
def hn (c : Cx) (hs : List H) (F : List Fr) (s : List V) (r : R) : Option Am := (Pv hs ⟨s, r⟩).bind fun st => gn FT c F st.s st.r
theorem A0Q (c : Cx) (hs : List H) (F : List Fr) (s : List V) (r : R) : gn FT c (.hk hs :: F) s r = hn FT c hs F s r := by
 simp only [gn, un, qf, hn]; cases Pv hs ⟨s, r⟩ <;> rfl
theorem yN (c : Cx) (F : List Fr) (s : List V) (r : R) : hn FT c [] F s r = gn FT c F s r := rfl
def jN : List Nat → List V → List V
 | [], s => s
 | t :: ts, s => jN ts (s.set t .dead)
theorem qi (ts : List Nat) : ∀ s, ts.foldl (fun s t => s.set t V.dead) s = jN ts s := by
 induction ts with
 | nil => intro s; rfl
 | cons t ts ih => intro s; exact ih _
theorem uZ (c : Cx) (ts : List Nat) (hs : List H) (F : List Fr) (s : List V) (r : R) : hn FT c (.kill ts :: hs) F s r = hn FT c hs F (jN ts s) r := by
 simp only [hn, Pv, doH, qi, Option.bind_some]
def clS (ts : List Nat) (i : Nat) : List V → List V
 | [] => []
 | v :: vs => K0 ts i v :: clS ts (i + 1) vs
def clR (ts : List Nat) (i : Nat) : R → R
 | [] => []
 | v :: vs => NT ts i v :: clR ts (i + 1) vs
theorem lU (ts : List Nat) : ∀ (s : List V) (i : Nat), s.mapIdx (fun j => K0 ts (i + j)) = clS ts i s
 | [], i => rfl
 | v :: vs, i => by
  rw [List.mapIdx_cons]
  simp only [clS, Nat.add_zero]
  congr 1
  rw [← lU ts vs (i + 1)]
  congr 1; funext j; rw [show i + (j + 1) = i + 1 + j by omega]
theorem qj (ts : List Nat) : ∀ (s : R) (i : Nat), s.mapIdx (fun j => NT ts (i + j)) = clR ts i s
 | [], i => rfl
 | v :: vs, i => by
  rw [List.mapIdx_cons]
  simp only [clR, Nat.add_zero]
  congr 1
  rw [← qj ts vs (i + 1)]
  congr 1; funext j; rw [show i + (j + 1) = i + 1 + j by omega]
theorem qk (c : Cx) (ts : List Nat) (hs : List H) (F : List Fr) (s : List V) (r : R) : hn FT c (.clean ts :: hs) F s r = hn FT c hs F (clS ts 0 s) (clR ts 0 r) := by
 have h1 := lU ts s 0
 have h2 := qj ts r 0
 simp only [Nat.zero_add] at h1 h2
 simp only [hn, Pv, doH, Option.bind_some, ← h1, ← h2]
def lV (r : R) : V → Option (V × R)
 | .ref id n => match AK r id with
  | .mem rows _ fx => if rows.length = n ∧ fx = false then some (.t (.sl false (AV rows)), Bc r id .dead) else none
  | .dead => none
 | .nil => some (.t (.sl false []), r)
 | .t (.sl o rows) => some (.t (.sl o rows), r)
 | .ptr id p i off n _ => if p.isEmpty && (i == 0 && n == 1) then (match AK r id with
  | .mem [cells] _ fx => if off < cells.length ∧ fx = false then some (.pp ((GB cells).drop off), Bc r id .dead) else none
  | _ => none) else none
 | _ => none
def A0R (r : R) (id : Id) (off : Nat) : DK → Option (V × R)
 | .mem [cells] _ fx => if off < cells.length ∧ fx = false then some (.pp ((GB cells).drop off), Bc r id .dead) else none
 | _ => none
theorem ql (r : R) (id : Id) (off st : Nat) : lV r (.ptr id [] 0 off 1 st) = A0R r id off (AK r id) := rfl
theorem qm (r : R) (id : Id) (off : Nat) (cells : List T) (st : Nat) (fx : Bool) : A0R r id off (.mem [cells] st fx) = if off < cells.length ∧ fx = false then some (.pp ((GB cells).drop off), Bc r id .dead) else none := rfl
def yO (r : R) (id : Id) (n : Nat) : DK → Option (V × R)
 | .mem rows _ fx => if rows.length = n ∧ fx = false then some (.t (.sl false (AV rows)), Bc r id .dead) else none
 | .dead => none
theorem jO (r : R) (id : Id) (n : Nat) : lV r (.ref id n) = yO r id n (AK r id) := by
 simp only [lV]; cases AK r id <;> rfl
theorem qn (r : R) (id : Id) (n : Nat) (rows : Rows) (st : Nat) (fx : Bool) : yO r id n (.mem rows st fx) = if rows.length = n ∧ fx = false then some (.t (.sl false (AV rows)), Bc r id .dead) else none := rfl
theorem qo (r : R) : lV r .nil = some (.t (.sl false []), r) := rfl
theorem yP (r : R) (o : Bool) (rows : Rows) : lV r (.t (.sl o rows)) = some (.t (.sl o rows), r) := rfl
theorem oE (c : Cx) (t : Nat) (hs : List H) (F : List Fr) (s : List V) (r : R) : hn FT c (.freeze t :: hs) F s r = (lV r (s.getD t .dead)).bind fun q => hn FT c hs F (s.set t q.1) q.2 := by
 simp only [hn, Pv, doH]
 generalize s.getD t .dead = v
 cases v <;> try rfl
 ·rename_i q; cases q <;> rfl
 ·rename_i id n
  rw [jO]
  simp only [Kb, M.run]
  cases AK r id with
  | dead => rfl
  | mem rows st fx =>
   simp only [yO]
   split <;> rfl
 ·rename_i id p i off n st
  simp only [lV, Kb]
  by_cases h : (p.isEmpty && (i == 0 && n == 1)) = true
  ·rw [if_pos h, if_pos h]
   simp only [M.run]
   generalize AK r id = e
   cases e with
   | dead => rfl
   | mem rows st fx =>
    cases rows with
    | nil => rfl
    | cons cells rest =>
     cases rest with
     | cons _ _ => rfl
     | nil =>
      simp only
      by_cases h2 : off < cells.length ∧ fx = false
      ·rw [if_pos h2, if_pos h2]; rfl
      ·rw [if_neg h2, if_neg h2]; rfl
  ·rw [if_neg h, if_neg h]; rfl
def ua (c : Cx) (t d : Nat) (hs : List H) (F : List Fr) (s : List V) (r : R) : V → Option Am
 | .nil => if d < r.length && (r.getD d []).isEmpty then hn FT c hs F (s.set t (.ref (d, 0) 0)) (r.set d [.mem [] 0 false]) else none
 | .ref _ _ => hn FT c hs F s r
 | _ => none
theorem qp (c : Cx) (t d : Nat) (hs : List H) (F : List Fr) (s : List V) (r : R) : ua FT c t d hs F s r .nil = if d < r.length && (r.getD d []).isEmpty then hn FT c hs F (s.set t (.ref (d, 0) 0)) (r.set d [.mem [] 0 false]) else none := rfl
theorem qr (c : Cx) (t d : Nat) (hs : List H) (F : List Fr) (s : List V) (r : R) (id : Id) (n : Nat) : ua FT c t d hs F s r (.ref id n) = hn FT c hs F s r := rfl
theorem yQ (c : Cx) (t d : Nat) (hs : List H) (F : List Fr) (s : List V) (r : R) : hn FT c (.own t d :: hs) F s r = ua FT c t d hs F s r (s.getD t .dead) := by
 simp only [hn, Pv, doH]
 generalize s.getD t .dead = v
 cases v <;> try rfl
 simp only [ua]
 split <;> rfl
def qt (c : Cx) (t d : Nat) (id : Id) (n : Nat) (hs : List H) (F : List Fr) (s : List V) (r : R) : DK → List DK → Option Am
 | .mem rows _ false, [.dead] => if rows.length = n ∧ id.1 ≠ d then hn FT c hs F ((clS [id.1, d] 0 s).set t (.ref (d, 0) n)) ((r.set id.1 []).set d [.mem rows 0 false]) else none
 | _, _ => none
def xV (c : Cx) (t d : Nat) (hs : List H) (F : List Fr) (s : List V) (r : R) : V → Option Am
 | .ref id n => qt FT c t d id n hs F s r (AK r id) (r.getD d [])
 | _ => none
theorem eL (c : Cx) (t d : Nat) (hs : List H) (F : List Fr) (s : List V) (r : R) (id : Id) (n : Nat) : xV FT c t d hs F s r (.ref id n) = qt FT c t d id n hs F s r (AK r id) (r.getD d []) := rfl
theorem eM (c : Cx) (t d : Nat) (id : Id) (n : Nat) (hs : List H) (F : List Fr) (s : List V) (r : R) (rows : Rows) (st : Nat) : qt FT c t d id n hs F s r (.mem rows st false) [.dead] = if rows.length = n ∧ id.1 ≠ d then hn FT c hs F ((clS [id.1, d] 0 s).set t (.ref (d, 0) n)) ((r.set id.1 []).set d [.mem rows 0 false]) else none := rfl
theorem ub (c : Cx) (t d : Nat) (hs : List H) (F : List Fr) (s : List V) (r : R) : hn FT c (.home t d :: hs) F s r = xV FT c t d hs F s r (s.getD t .dead) := by
 simp only [hn, Pv, doH]
 generalize s.getD t .dead = v
 cases v <;> try rfl
 rename_i id n
 have h1 := lU [id.1, d] s 0
 simp only [Nat.zero_add] at h1
 rw [eL]
 simp only
 generalize AK r id = e
 generalize r.getD d [] = l
 cases e with
 | dead => rfl
 | mem rows st fx =>
  cases fx with
  | true => rfl
  | false =>
   match l with
   | [] => rfl
   | [.dead] =>
    rw [eM]
    by_cases hc : rows.length = n ∧ id.1 ≠ d
    ·simp only [if_pos hc, ← h1]; rfl
    ·simp only [if_neg hc]; rfl
   | .mem .. :: _ => rfl
   | .dead :: _ :: _ => rfl
def nR (c : Cx) (d k : Nat) (rows : Rows) (stt : Nat) (fx : Bool) (hs : List H) (F : List Fr) (s : List V) (r : R) : Option T → Option Am
 | some (.sl true rs) => hn FT c hs F s (Bc r (d, 0) (.mem (An rows [] 0 k (.sl false (AV rs))) stt fx))
 | some (.sl false _) => hn FT c hs F s r
 | _ => none
def xW (c : Cx) (d k : Nat) (hs : List H) (F : List Fr) (s : List V) (r : R) : DK → Option Am
 | .mem rows stt fx => nR FT c d k rows stt fx hs F s r (BD rows [] 0 k)
 | _ => none
theorem eN (c : Cx) (d k : Nat) (hs : List H) (F : List Fr) (s : List V) (r : R) (rows : Rows) (stt : Nat) (fx : Bool) : xW FT c d k hs F s r (.mem rows stt fx) = nR FT c d k rows stt fx hs F s r (BD rows [] 0 k) := rfl
theorem qu (c : Cx) (d k : Nat) (rows : Rows) (stt : Nat) (fx : Bool) (hs : List H) (F : List Fr) (s : List V) (r : R) (rs : Rows) : nR FT c d k rows stt fx hs F s r (some (.sl true rs)) = hn FT c hs F s (Bc r (d, 0) (.mem (An rows [] 0 k (.sl false (AV rs))) stt fx)) := rfl
theorem qv (c : Cx) (d k : Nat) (rows : Rows) (stt : Nat) (fx : Bool) (hs : List H) (F : List Fr) (s : List V) (r : R) (rs : Rows) : nR FT c d k rows stt fx hs F s r (some (.sl false rs)) = hn FT c hs F s r := rfl
theorem uc (c : Cx) (d k : Nat) (hs : List H) (F : List Fr) (s : List V) (r : R) : hn FT c (.frzc d k :: hs) F s r = xW FT c d k hs F s r (AK r (d, 0)) := by
 simp only [hn, Pv, doH]
 generalize AK r (d, 0) = e
 cases e with
 | dead => rfl
 | mem rows stt fx =>
  simp only [eN]
  generalize BD rows [] 0 k = o
  match o with
  | none => rfl
  | some (.v x) => rfl
  | some .hole => rfl
  | some (.sl false rs) => rfl
  | some (.sl true rs) => rfl
def qw (c : Cx) (d k : Nat) (rows : Rows) (stt : Nat) (fx : Bool) (hs : List H) (F : List Fr) (s : List V) (r : R) : Option T → Option Am
 | some (.sl true rs) => hn FT c hs F s (Bc r (d, 0) (.mem (An rows [] 0 k (.sl true (AV rs))) (stt + 1) fx))
 | _ => none
def xX (c : Cx) (d k : Nat) (hs : List H) (F : List Fr) (s : List V) (r : R) : DK → Option Am
 | .mem rows stt fx => qw FT c d k rows stt fx hs F s r (BD rows [] 0 k)
 | _ => none
theorem eO (c : Cx) (d k : Nat) (hs : List H) (F : List Fr) (s : List V) (r : R) (rows : Rows) (stt : Nat) (fx : Bool) : xX FT c d k hs F s r (.mem rows stt fx) = qw FT c d k rows stt fx hs F s r (BD rows [] 0 k) := rfl
theorem qx (c : Cx) (d k : Nat) (rows : Rows) (stt : Nat) (fx : Bool) (hs : List H) (F : List Fr) (s : List V) (r : R) (rs : Rows) : qw FT c d k rows stt fx hs F s r (some (.sl true rs)) = hn FT c hs F s (Bc r (d, 0) (.mem (An rows [] 0 k (.sl true (AV rs))) (stt + 1) fx)) := rfl
theorem ud (c : Cx) (d k : Nat) (hs : List H) (F : List Fr) (s : List V) (r : R) : hn FT c (.frzb d k :: hs) F s r = xX FT c d k hs F s r (AK r (d, 0)) := by
 simp only [hn, Pv, doH]
 generalize AK r (d, 0) = e
 cases e with
 | dead => rfl
 | mem rows stt fx =>
  simp only [eO]
  generalize BD rows [] 0 k = o
  match o with
  | none => rfl
  | some (.v x) => rfl
  | some .hole => rfl
  | some (.sl false rs) => rfl
  | some (.sl true rs) => rfl
def xY (c : Cx) (d k : Nat) (hs : List H) (F : List Fr) (s : List V) (r : R) : DK → Option Am
 | .mem rows stt fx => hn FT c hs F s (Bc r (d, k) (.mem (AV rows) (stt + 1) fx))
 | _ => none
theorem oG (c : Cx) (d k : Nat) (hs : List H) (F : List Fr) (s : List V) (r : R) (rows : Rows) (stt : Nat) (fx : Bool) : xY FT c d k hs F s r (.mem rows stt fx) = hn FT c hs F s (Bc r (d, k) (.mem (AV rows) (stt + 1) fx)) := rfl
theorem ue (c : Cx) (d k : Nat) (hs : List H) (F : List Fr) (s : List V) (r : R) : hn FT c (.frzr d k :: hs) F s r = xY FT c d k hs F s r (AK r (d, k)) := by
 simp only [hn, Pv, doH]
 generalize AK r (d, k) = e
 cases e with
 | dead => rfl
 | mem rows stt fx => rfl
theorem A0S (c : Cx) (hs : List H) (k : K) (F : List Fr) (s : List V) (r : R) : ev FT c (.hp hs k) F s r = hn FT c hs (.th k :: F) s r := by
 simp only [ev, A0H, hn, Option.bind_assoc]; rfl
theorem uf (c : Cx) (F : List Fr) (s : List V) (r : R) : ev FT c .skip F s r = gn FT c F s r := by simp only [ev, uU]; rfl
theorem A0T (c : Cx) (id : Nat) (F : List Fr) (s : List V) (r : R) : ev FT c (.ex id) F s r = gx FT c F id s r := by simp only [ev, A0G]; rfl
theorem yR (c : Cx) (F : List Fr) (s : List V) (r : R) : ev FT c .ret F s r = gr FT c F s r := by simp only [ev, yG]; rfl
theorem yS (c : Cx) (a b : K) (F : List Fr) (s : List V) (r : R) : ev FT c (.seq a b) F s r = ev FT c a (.th b :: F) s r := by simp only [ev, yH, Option.bind_assoc]; rfl
theorem yT (c : Cx) (id : Nat) (b : K) (F : List Fr) (s : List V) (r : R) : ev FT c (.blk id b) F s r = ev FT c b (.lv id :: F) s r := by
 simp only [ev, yI]; cases rk FT.ft (Sw FT) b ⟨s, r⟩ <;> rfl
theorem A16 (c : Cx) (hs : List H) (k : K) (F : List Fr) (s : List V) (r : R) : ev FT c (.h hs k) F s r = ev FT c k (.hk hs :: F) s r := by simp only [ev, A15, Option.bind_assoc]; rfl
theorem AZ (c : Cx) (b : K) (F : List Fr) (s : List V) (r : R) : ev FT c (.loop b) F s r = ev FT c b (.th (.loop b) :: F) s r := by
 simp only [ev]; rw [uW, Option.bind_assoc]; rfl
def ck (c : Cx) (v : V) (a b : K) (F : List Fr) (s : List V) (r : R) : Option Am := match v with
 | .t (.v (.bool true)) => ev FT c a F s r
 | .t (.v (.bool false)) => ev FT c b F s r
 | _ => none
theorem ug (c : Cx) (x : Cd) (a b : K) (F : List Fr) (s : List V) (r : R) : ev FT c (.cond x a b) F s r = ck FT c (A6 s x) a b F s r := by
 simp only [ev, uV, ck, ckV]; split <;> simp_all
theorem uh (c : Cx) (a b : K) (F : List Fr) (s : List V) (r : R) : ck FT c (.t (.v (.bool true))) a b F s r = ev FT c a F s r := rfl
theorem qy (c : Cx) (a b : K) (F : List Fr) (s : List V) (r : R) : ck FT c (.t (.v (.bool false))) a b F s r = ev FT c b F s r := rfl
def an (c : Cx) (dr : Bool) (d : Option Nat) (es : List IT) (F : List Fr) (s : List V) (q : V × R) : Option Am :=
 ev FT c (.reg dr es) F (match d with | some t => s.set t q.1 | none => s) q.2
def opR (dr : Bool) (d : Nat) (o : O) (rd wr : List Nat) (s : List V) (r : R) : Option (V × R) :=
 if dr then (Av s d o).runA (dn FT) d rd wr r else (Av s d o).run (dn FT) d r
theorem yU (c : Cx) (dr : Bool) (F : List Fr) (s : List V) (r : R) : ev FT c (.reg dr []) F s r = gn FT c F s r := by simp only [ev, U2]; rfl
theorem ui (c : Cx) (dr : Bool) (t : Nat) (es : List IT) (F : List Fr) (s : List V) (v : V) (r : R) : an FT c dr (some t) es F s (v, r) = ev FT c (.reg dr es) F (s.set t v) r := rfl
theorem uj (c : Cx) (dr : Bool) (es : List IT) (F : List Fr) (s : List V) (v : V) (r : R) : an FT c dr none es F s (v, r) = ev FT c (.reg dr es) F s r := rfl
theorem xZ (c : Cx) (dr : Bool) (d : Option Nat) (o : O) (rd wr : List Nat) (es : List IT) (F : List Fr) (s : List V) (r : R) :
  ev FT c (.reg dr (⟨d, none, o, rd, wr⟩ :: es)) F s r = (opR FT dr (d.getD 0) o rd wr s r).bind (an FT c dr d es F s) := by
 simp only [ev, U2, DL, Ce, FB, Option.bind_some, if_true, opR]
 cases dr <;> simp only [if_true, if_false, Bool.false_eq_true]
 ·cases M.run (dn FT) (d.getD 0) (Av s (d.getD 0) o) r with
  | none => rfl
  | some q => cases d <;> simp [an, ev, U2, St.put]
 ·cases M.runA (dn FT) (d.getD 0) rd wr (Av s (d.getD 0) o) r with
  | none => rfl
  | some q => cases d <;> simp [an, ev, U2, St.put]
def gd (c : Cx) (dr : Bool) (v : V) (w : Bool) (d : Option Nat) (o : O) (rd wr : List Nat) (es : List IT) (F : List Fr) (s : List V) (r : R) : Option Am := match v with
 | .t (.v (.bool b)) => if b == w then (opR FT dr (d.getD 0) o rd wr s r).bind (an FT c dr d es F s) else an FT c dr d es F s (.tup [], r)
 | .tup [] => an FT c dr d es F s (.tup [], r)
 | _ => none
theorem A0U (c : Cx) (dr : Bool) (d : Option Nat) (t : Nat) (w : Bool) (o : O) (rd wr : List Nat) (es : List IT) (F : List Fr) (s : List V) (r : R) :
  ev FT c (.reg dr (⟨d, some (t, w), o, rd, wr⟩ :: es)) F s r = gd FT c dr (s.getD t .dead) w d o rd wr es F s r := by
 have h0 := xZ FT c dr d o rd wr es F s r
 simp only [ev, U2, DL, Ce, FB, Option.bind_some, if_true] at h0
 simp only [ev, U2, DL, Ce, FB]
 generalize s.getD t .dead = v
 have hs : (Option.map (fun st' => (Ex.normal, st')) ((some ((⟨s, r⟩ : St).put d (V.tup []))).bind (DL (dn FT) dr es))).bind (un FT c F) = an FT c dr d es F s (.tup [], r) := by
  cases d <;> simp [an, ev, U2, St.put]
 have e0 : gd FT c dr v w d o rd wr es F s r = (match v with
  | .t (.v (.bool b)) => if b == w then (opR FT dr (d.getD 0) o rd wr s r).bind (an FT c dr d es F s) else an FT c dr d es F s (.tup [], r)
  | .tup [] => an FT c dr d es F s (.tup [], r)
  | _ => none) := rfl
 rw [e0]
 match v with
 | .t (.v (.bool b)) =>
  simp only [Option.bind_some]
  split
  ·rw [← h0]
  ·exact hs
 | .tup [] => exact hs
 | .nil | .agg _ | .ref _ _ | .sub .. | .ptr .. | .pp _ | .fn _ _ | .vb .. | .dead | .tup (_ :: _) => rfl
 | .t .hole | .t (.sl _ _) => rfl
 | .t (.v x) => cases x <;> first | rfl | (simp only [Option.bind_some]; split; (rw [← h0]); exact hs)
theorem uk (c : Cx) (dr : Bool) (w : Bool) (d : Option Nat) (o : O) (rd wr : List Nat) (es : List IT) (F : List Fr) (s : List V) (r : R) :
  gd FT c dr (.tup []) w d o rd wr es F s r = an FT c dr d es F s (.tup [], r) := rfl
theorem A0V (c : Cx) (dr : Bool) (d : Option Nat) (o : O) (rd wr : List Nat) (es : List IT) (F : List Fr) (s : List V) (r : R) :
  gd FT c dr (.t (.v (.bool true))) true d o rd wr es F s r = (opR FT dr (d.getD 0) o rd wr s r).bind (an FT c dr d es F s) := rfl
theorem A0W (c : Cx) (dr : Bool) (d : Option Nat) (o : O) (rd wr : List Nat) (es : List IT) (F : List Fr) (s : List V) (r : R) :
  gd FT c dr (.t (.v (.bool false))) false d o rd wr es F s r = (opR FT dr (d.getD 0) o rd wr s r).bind (an FT c dr d es F s) := rfl
theorem A0X (c : Cx) (dr : Bool) (d : Option Nat) (o : O) (rd wr : List Nat) (es : List IT) (F : List Fr) (s : List V) (r : R) :
  gd FT c dr (.t (.v (.bool true))) false d o rd wr es F s r = an FT c dr d es F s (.tup [], r) := rfl
theorem A0Y (c : Cx) (dr : Bool) (d : Option Nat) (o : O) (rd wr : List Nat) (es : List IT) (F : List Fr) (s : List V) (r : R) :
  gd FT c dr (.t (.v (.bool false))) true d o rd wr es F s r = an FT c dr d es F s (.tup [], r) := rfl
theorem A9 {f : FuncId} {fn : F} {args : List GA} (hf : FT.ft f = some fn) (hx : Sw FT f args = none) (hl : args.length ≤ fn.nt) (hc : fn.co = none := by rfl) :
  dn FT f args = ev FT ⟨args.length, MP (enter fn.nt args).r args.length, fn.res⟩ fn.body [] (enter fn.nt args).s (enter fn.nt args).r := by
 unfold dn
 rw [yJ FT.ft (Sw FT) hf hx hl hc]
 simp only [ev]
 show (rk FT.ft (Sw FT) fn.body (enter fn.nt args)).bind _ = (rk FT.ft (Sw FT) fn.body (enter fn.nt args)).bind _
 congr 1
theorem ul {f : FuncId} {fn : F} {k : K2} {args : List GA} (hf : FT.ft f = some fn) (hx : Sw FT f args = none) (hl : args.length ≤ fn.nt) (hc : fn.co = some k) {q : Am}
  (h1 : ev FT ⟨args.length, MP (enter fn.nt args).r args.length, fn.res⟩ (k.pick true) [] (enter fn.nt args).s (enter fn.nt args).r = some q)
  (h2 : ev FT ⟨args.length, MP (enter fn.nt args).r args.length, fn.res⟩ (k.pick false) [] (enter fn.nt args).s (enter fn.nt args).r = some q) : dn FT f args = some q := by
 have key : ∀ body : K, ev FT ⟨args.length, MP (enter fn.nt args).r args.length, fn.res⟩ body [] (enter fn.nt args).s (enter fn.nt args).r = (rk FT.ft (Sw FT) body (enter fn.nt args)).bind (uX fn.nt fn.res args) := by
  intro body
  simp only [ev]
  show (rk FT.ft (Sw FT) body (enter fn.nt args)).bind _ = (rk FT.ft (Sw FT) body (enter fn.nt args)).bind _
  congr 1
 rw [key] at h1 h2
 exact uY FT.ft (Sw FT) hf hx hl hc h1 h2
end
end TT
