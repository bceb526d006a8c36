import Derived.Test.YtaeegkjcjlnanaaGreatDoorTE
set_option linter.unusedVariables false
set_option linter.unusedSimpArgs false
namespace TT
open Go Go.RowKit
inductive Fr where
 | th (b : K)
 | lv (id : Nat)
 | hk (hs : List H)
structure Cx where
 na : Nat
 sh : List Nat
 res : List RK
def LW (cl : List Nat) : AN := fun f args => if cl.contains f then (match args with
 | [.t (.sl false [])] => some ⟨[.t (.sl true [])], []⟩
 | _ => none) else none
abbrev X4 := List Fy → Option Ap
def jr : List (Nat × X4) → AN
 | [], f, args => none
 | p :: l, f, args => if p.1 == f then p.2 args else jr l f args
structure Env where
 ft : aN
 cl : List Nat
 lb : List (Nat × X4) := []
def SD (E : Env) : AN := fun f args => match LW E.cl f args with
 | some r => some r
 | none => jr E.lb f args
noncomputable abbrev dn (E : Env) : AN := den E.ft (SD E)
theorem gl {cl : List Nat} {f : FuncId} (h : cl.contains f = false) (args : List Fy) : LW cl f args = none := by simp only [LW, h, Bool.false_eq_true, if_false]
theorem js {cl : List Nat} {f : FuncId} (h : cl.contains f = true) : LW cl f [.t (.sl false [])] = some ⟨[.t (.sl true [])], []⟩ := by simp only [LW, h, if_true]
theorem gm {cl : List Nat} {f : FuncId} (r : List T) (rs : Rows) : LW cl f [.t (.sl false (r :: rs))] = none := by simp only [LW]; split <;> rfl
theorem dc {G : Gt} {P : Program} {call0 : AN} {cl : List Nat} (hS : DV G P call0) (h : ∀ f, cl.contains f = true → ∀ q cap, call0 f [.t (.v (.slice q 0 cap))] = some ⟨[.t (.sl true [])], []⟩) : DV G P (LW cl) := by
 intro f args res hr
 unfold LW at hr
 split at hr
 ·rename_i hc
  split at hr
  ·cases hr
   refine ⟨(hS f _ _ (h f hc none 0)).1, fun w B L us ls hA hL hB hG => ?_⟩
   simp only [AY] at hA
   obtain ⟨u, us', L1, L2, ls1, ls2, rfl, h1, ⟨rfl, h3, h4⟩, h5, h6⟩ := hA
   simp only [Au] at h1
   obtain ⟨g1, g2, g3, g4⟩ := h1
   simp only [Dm] at g1
   obtain ⟨q, cap, rfl, _⟩ := g1
   refine (hS f _ _ (h f hc q cap)).2 w B L _ ls ?_ hL hB hG
   simp only [AY]
   refine ⟨_, [], L1, L2, ls1, ls2, rfl, ?_, ⟨rfl, h3, h4⟩, h5, h6⟩
   simp only [Au, Dm]
   exact ⟨rfl, g2, g3, g4⟩
  ·cases hr
 ·cases hr
theorem VL : ∀ {l : List (Nat × X4)} {f : FuncId}, (l.all fun p => p.1 != f) = true → ∀ args, jr l f args = none
 | [], f, _, args => rfl
 | p :: l, f, h, args => by
  simp only [List.all_cons, Bool.and_eq_true, bne_iff_ne] at h
  have h1 : (p.1 == f) = false := by simpa using h.1
  simp only [jr, h1, Bool.false_eq_true, if_false]
  exact VL h.2 args
theorem pI {E : Env} {f : FuncId} (h : E.cl.contains f = false) (h2 : (E.lb.all fun p => p.1 != f) = true) (args : List Fy) : SD E f args = none := by
 simp only [SD, gl h, VL h2]
theorem de {E : Env} {f : FuncId} (h : E.cl.contains f = true) : SD E f [.t (.sl false [])] = some ⟨[.t (.sl true [])], []⟩ := by simp only [SD, js h]
theorem YQ {E : Env} {f : FuncId} (h2 : (E.lb.all fun p => p.1 != f) = true) (r : List T) (rs : Rows) : SD E f [.t (.sl false (r :: rs))] = none := by
 simp only [SD, gm, VL h2]
def Nv (G : Gt) (P : Program) (f : FuncId) (g : X4) : Prop := ∀ args res, g args = some res → Nb P f = true ∧ ∀ w B L us ls, AY w B args us L ls → (∀ b, L b → ¬ B b) → (∀ b, B b → b < w.heap.size) → G.ok B w → Calls P f us.toArray w (mS w B L ls res)
theorem YR {G : Gt} {P : Program} : ∀ {l : List (Nat × X4)}, (∀ p ∈ l, Nv G P p.1 p.2) → DV G P (jr l)
 | [], h => fun f args res hr => by simp [jr] at hr
 | p :: l, h => fun f args res hr => by
  simp only [jr] at hr
  split at hr
  ·rename_i e
   have e : p.1 = f := by simpa using e
   subst e
   exact h p (List.mem_cons_self ..) args res hr
  ·exact YR (fun q hq => h q (List.mem_cons_of_mem _ hq)) f args res hr
theorem cR {G : Gt} {P : Program} {E : Env} (h : DV G P (LW E.cl)) (h2 : ∀ p ∈ E.lb, Nv G P p.1 p.2) : DV G P (SD E) := fun f args res hr => by
 unfold SD at hr
 cases hc : LW E.cl f args with
 | some r => rw [hc] at hr; cases hr; exact h f args _ hc
 | none => rw [hc] at hr; exact YR h2 f args res hr
theorem jt {G : Gt} {P : Program} {FT : aN} : DV G P (SD ⟨FT, [], []⟩) := cR (fun f args res h => by simp [LW] at h) (fun p hp => by cases hp)
theorem YS {w w' : World} {B : Nat → Prop} (hB : ∀ b, B b → b < w.heap.size) (hb : Below w.heap.size w w') {vs : List Value} (h1 : ∀ v ∈ vs, v.oneCell' = true) : mS w B (fun _ => False) [] ⟨vs.map fun v => .t (.v v), []⟩ (.returned (YD vs)) w' := by
 obtain ⟨os, tp, ou, sz, fr⟩ := hb
 have hv : ∀ vs : List Value, (∀ v ∈ vs, v.oneCell' = true) → DJ w' B (vs.map fun v => .t (.v v)) vs (fun _ => False) := by
  intro vs
  induction vs with
  | nil => intro _; simp only [List.map_nil, DJ]; exact ⟨trivial, fun _ h => h⟩
  | cons v vs ih =>
   intro h1
   simp only [List.map_cons, DJ]
   exact ⟨v, vs, fun _ => False, fun _ => False, rfl, ⟨by simp only [Ei]; exact ⟨trivial, fun _ h => h⟩, h1 v (List.mem_cons_self ..)⟩, ih fun u hu => h1 u (List.mem_cons_of_mem _ hu), ⟨fun b => by simp, fun b h _ => h⟩⟩
 refine ⟨B, fun _ => False, fun _ => False, vs, ?_⟩
 exact { val := rfl, vals := hv vs h1, after := by simp only [Ah]; exact ⟨trivial, fun _ h => h⟩, dis := fun _ h => h.elim, nr := fun _ h => h.elim, na := fun _ h => h.elim, old := fun _ h => h, sh := fun _ h => .inl h, ownr := fun _ h => h.elim, owna := fun _ h => h.elim,
         inB := fun b hb => Nat.lt_of_lt_of_le (hB b hb) sz, frame := fun b hb _ => fr b hb, size := sz, os := os, tape := tp, output := ou }
theorem YT {w : World} {B : Nat → Prop} : ∀ {vs us : List Value} {L : Nat → Prop} {ls : List Ed}, AY w B (vs.map fun v => .t (.v v)) us L ls → us = vs ∧ (∀ b, ¬ L b) ∧ ls = []
 | [], us, L, ls, h => by simp only [List.map_nil, AY] at h; exact ⟨h.1, h.2.1, h.2.2⟩
 | v :: vs, us, L, ls, h => by
  simp only [List.map_cons, AY] at h
  obtain ⟨u, us', S1, S2, l1, l2, rfl, h1, h2, h3, rfl⟩ := h
  simp only [Au, Dm] at h1
  obtain ⟨rfl, _, e1, rfl⟩ := h1
  obtain ⟨rfl, e2, rfl⟩ := YT h2
  exact ⟨rfl, fun b hb => ((h3.1 b).1 hb).elim (e1 b) (e2 b), rfl⟩
theorem MN {G : Gt} {P : Program} {f : FuncId} {g : X4} (hc : Nb P f = true) (h : ∀ args res, g args = some res → ∃ vs rs : List Value, args = vs.map (fun v => .t (.v v)) ∧ res = ⟨rs.map fun v => .t (.v v), []⟩ ∧ (∀ v ∈ rs, v.oneCell' = true) ∧
  ∀ w B, G.ok B w → Calls P f vs.toArray w fun e w' => e = .returned (YD rs) ∧ Below w.heap.size w w') : Nv G P f g := fun args res hr => by
 refine ⟨hc, fun w B L us ls hA hL hB hG => ?_⟩
 obtain ⟨vs, rs, rfl, rfl, h1, h2⟩ := h args res hr
 obtain ⟨rfl, hE, rfl⟩ := YT hA
 have hL0 : L = fun _ => False := funext fun b => propext ⟨fun h => hE b h, fun h => h.elim⟩
 subst hL0
 refine Calls.mono (h2 w B hG) ?_
 rintro e w' ⟨rfl, hb⟩
 exact YS hB hb h1
noncomputable section
variable (FT : Env)
def fin (c : Cx) (s : List V) (r : R) : Option Ap :=
 ((aM s c.res M.ret).run (fun _ _ => none) 0 r).bind fun o => if M1 o.2 c.na = c.sh then some { vals := o.1, after := Y3 o.2 c.na } else none
def un (c : Cx) : List Fr → Ex × St → Option Ap
 | [], q => match q.1 with
  | .exit _ => none
  | _ => fin c q.2.s q.2.r
 | .th b :: F, q => (pE FT.ft (SD FT) b q).bind (un c F)
 | .lv id :: F, q => un c F (pF id q)
 | .hk hs :: F, q => (pG hs q).bind (un c F)
def gn (c : Cx) (F : List Fr) (s : List V) (r : R) : Option Ap := un FT c F (.normal, ⟨s, r⟩)
def gx (c : Cx) (F : List Fr) (id : Nat) (s : List V) (r : R) : Option Ap := un FT c F (.exit id, ⟨s, r⟩)
def gr (c : Cx) (F : List Fr) (s : List V) (r : R) : Option Ap := un FT c F (.ret, ⟨s, r⟩)
def ev (c : Cx) (k : K) (F : List Fr) (s : List V) (r : R) : Option Ap := (rk FT.ft (SD FT) k ⟨s, r⟩).bind (un FT c F)
theorem wb (c : Cx) (s : List V) (r : R) : gn FT c [] s r = fin c s r := rfl
theorem yu (c : Cx) (b : K) (F : List Fr) (s : List V) (r : R) : gn FT c (.th b :: F) s r = ev FT c b F s r := rfl
theorem yv (c : Cx) (id : Nat) (F : List Fr) (s : List V) (r : R) : gn FT c (.lv id :: F) s r = gn FT c F s r := rfl
theorem yw (c : Cx) (b : K) (F : List Fr) (id : Nat) (s : List V) (r : R) : gx FT c (.th b :: F) id s r = gx FT c F id s r := rfl
theorem yx (c : Cx) (hs : List H) (F : List Fr) (id : Nat) (s : List V) (r : R) : gx FT c (.hk hs :: F) id s r = gx FT c F id s r := rfl
theorem yy (c : Cx) (j : Nat) (F : List Fr) (id : Nat) (s : List V) (r : R) : gx FT c (.lv j :: F) id s r = if id = j then gn FT c F s r else gx FT c F id s r := by
 simp only [gx, gn, un, pF]; split <;> rfl
theorem wc (c : Cx) (id : Nat) (s : List V) (r : R) : gx FT c [] id s r = none := rfl
theorem yz (c : Cx) (b : K) (F : List Fr) (s : List V) (r : R) : gr FT c (.th b :: F) s r = gr FT c F s r := rfl
theorem z6 (c : Cx) (hs : List H) (F : List Fr) (s : List V) (r : R) : gr FT c (.hk hs :: F) s r = gr FT c F s r := rfl
theorem z7 (c : Cx) (j : Nat) (F : List Fr) (s : List V) (r : R) : gr FT c (.lv j :: F) s r = gr FT c F s r := rfl
theorem we (c : Cx) (s : List V) (r : R) : gr FT c [] s r = fin c s r := rfl
def hn (c : Cx) (hs : List H) (F : List Fr) (s : List V) (r : R) : Option Ap := (PG hs ⟨s, r⟩).bind fun st => gn FT c F st.s st.r
theorem z8 (c : Cx) (hs : List H) (F : List Fr) (s : List V) (r : R) : gn FT c (.hk hs :: F) s r = hn FT c hs F s r := by
 simp only [gn, un, pG, hn]; cases PG hs ⟨s, r⟩ <;> rfl
theorem wg (c : Cx) (F : List Fr) (s : List V) (r : R) : hn FT c [] F s r = gn FT c F s r := rfl
def gp : List Nat → List V → List V
 | [], s => s
 | t :: ts, s => gp ts (s.set t .dead)
theorem pJ (ts : List Nat) : ∀ s, ts.foldl (fun s t => s.set t V.dead) s = gp ts s := by
 induction ts with
 | nil => intro s; rfl
 | cons t ts ih => intro s; exact ih _
theorem sw (c : Cx) (ts : List Nat) (hs : List H) (F : List Fr) (s : List V) (r : R) : hn FT c (.kill ts :: hs) F s r = hn FT c hs F (gp ts s) r := by
 simp only [hn, PG, doH, pJ, Option.bind_some]
def clS (ts : List Nat) (i : Nat) : List V → List V
 | [] => []
 | v :: vs => Jm ts i v :: clS ts (i + 1) vs
def clR (ts : List Nat) (i : Nat) : R → R
 | [] => []
 | v :: vs => N2 ts i v :: clR ts (i + 1) vs
theorem ju (ts : List Nat) : ∀ (s : List V) (i : Nat), s.mapIdx (fun j => Jm ts (i + j)) = clS ts i s
 | [], i => rfl
 | v :: vs, i => by
  rw [List.mapIdx_cons]
  simp only [clS, Nat.add_zero]
  congr 1
  rw [← ju ts vs (i + 1)]
  congr 1; funext j; rw [show i + (j + 1) = i + 1 + j by omega]
theorem pK (ts : List Nat) : ∀ (s : R) (i : Nat), s.mapIdx (fun j => N2 ts (i + j)) = clR ts i s
 | [], i => rfl
 | v :: vs, i => by
  rw [List.mapIdx_cons]
  simp only [clR, Nat.add_zero]
  congr 1
  rw [← pK ts vs (i + 1)]
  congr 1; funext j; rw [show i + (j + 1) = i + 1 + j by omega]
theorem pL (c : Cx) (ts : List Nat) (hs : List H) (F : List Fr) (s : List V) (r : R) : hn FT c (.clean ts :: hs) F s r = hn FT c hs F (clS ts 0 s) (clR ts 0 r) := by
 have h1 := ju ts s 0
 have h2 := pK ts r 0
 simp only [Nat.zero_add] at h1 h2
 simp only [hn, PG, doH, Option.bind_some, ← h1, ← h2]
def jv (r : R) : V → Option (V × R)
 | .ref id n => match AJ r id with
  | .mem rows _ fx => if rows.length = n ∧ fx = false then some (.t (.sl false (AX rows)), Bc r id .dead) else none
  | .dead => none
 | .nil => some (.t (.sl false []), r)
 | .t (.sl o rows) => some (.t (.sl o rows), r)
 | .ptr id p i off n _ => if p.isEmpty && (i == 0 && n == 1) then (match AJ r id with
  | .mem [cells] _ fx => if off < cells.length ∧ fx = false then some (.pp ((Fz cells).drop off), Bc r id .dead) else none
  | _ => none) else none
 | _ => none
def zA (r : R) (id : Id) (off : Nat) : DH → Option (V × R)
 | .mem [cells] _ fx => if off < cells.length ∧ fx = false then some (.pp ((Fz cells).drop off), Bc r id .dead) else none
 | _ => none
theorem pM (r : R) (id : Id) (off st : Nat) : jv r (.ptr id [] 0 off 1 st) = zA r id off (AJ r id) := rfl
theorem pN (r : R) (id : Id) (off : Nat) (cells : List T) (st : Nat) (fx : Bool) : zA r id off (.mem [cells] st fx) = if off < cells.length ∧ fx = false then some (.pp ((Fz cells).drop off), Bc r id .dead) else none := rfl
def wh (r : R) (id : Id) (n : Nat) : DH → Option (V × R)
 | .mem rows _ fx => if rows.length = n ∧ fx = false then some (.t (.sl false (AX rows)), Bc r id .dead) else none
 | .dead => none
theorem gq (r : R) (id : Id) (n : Nat) : jv r (.ref id n) = wh r id n (AJ r id) := by
 simp only [jv]; cases AJ r id <;> rfl
theorem pO (r : R) (id : Id) (n : Nat) (rows : Rows) (st : Nat) (fx : Bool) : wh r id n (.mem rows st fx) = if rows.length = n ∧ fx = false then some (.t (.sl false (AX rows)), Bc r id .dead) else none := rfl
theorem pP (r : R) : jv r .nil = some (.t (.sl false []), r) := rfl
theorem wi (r : R) (o : Bool) (rows : Rows) : jv r (.t (.sl o rows)) = some (.t (.sl o rows), r) := rfl
theorem mc (c : Cx) (t : Nat) (hs : List H) (F : List Fr) (s : List V) (r : R) : hn FT c (.freeze t :: hs) F s r = (jv r (s.getD t .dead)).bind fun q => hn FT c hs F (s.set t q.1) q.2 := by
 simp only [hn, PG, doH]
 generalize s.getD t .dead = v
 cases v <;> try rfl
 ·rename_i q; cases q <;> rfl
 ·rename_i id n
  rw [gq]
  simp only [KL, M.run]
  cases AJ r id with
  | dead => rfl
  | mem rows st fx =>
   simp only [wh]
   split <;> rfl
 ·rename_i id p i off n st
  simp only [jv, KL]
  by_cases h : (p.isEmpty && (i == 0 && n == 1)) = true
  ·rw [if_pos h, if_pos h]
   simp only [M.run]
   generalize AJ r id = e
   cases e with
   | dead => rfl
   | mem rows st fx =>
    cases rows with
    | nil => rfl
    | cons cells rest =>
     cases rest with
     | cons _ _ => rfl
     | nil =>
      simp only
      by_cases h2 : off < cells.length ∧ fx = false
      ·rw [if_pos h2, if_pos h2]; rfl
      ·rw [if_neg h2, if_neg h2]; rfl
  ·rw [if_neg h, if_neg h]; rfl
def sy (c : Cx) (t d : Nat) (hs : List H) (F : List Fr) (s : List V) (r : R) : V → Option Ap
 | .nil => if d < r.length && (r.getD d []).isEmpty then hn FT c hs F (s.set t (.ref (d, 0) 0)) (r.set d [.mem [] 0 false]) else none
 | .ref _ _ => hn FT c hs F s r
 | _ => none
theorem pQ (c : Cx) (t d : Nat) (hs : List H) (F : List Fr) (s : List V) (r : R) : sy FT c t d hs F s r .nil = if d < r.length && (r.getD d []).isEmpty then hn FT c hs F (s.set t (.ref (d, 0) 0)) (r.set d [.mem [] 0 false]) else none := rfl
theorem pR (c : Cx) (t d : Nat) (hs : List H) (F : List Fr) (s : List V) (r : R) (id : Id) (n : Nat) : sy FT c t d hs F s r (.ref id n) = hn FT c hs F s r := rfl
theorem wj (c : Cx) (t d : Nat) (hs : List H) (F : List Fr) (s : List V) (r : R) : hn FT c (.own t d :: hs) F s r = sy FT c t d hs F s r (s.getD t .dead) := by
 simp only [hn, PG, doH]
 generalize s.getD t .dead = v
 cases v <;> try rfl
 simp only [sy]
 split <;> rfl
def pS (c : Cx) (t d : Nat) (id : Id) (n : Nat) (hs : List H) (F : List Fr) (s : List V) (r : R) : DH → List DH → Option Ap
 | .mem rows _ false, [.dead] => if rows.length = n ∧ id.1 ≠ d then hn FT c hs F ((clS [id.1, d] 0 s).set t (.ref (d, 0) n)) ((r.set id.1 []).set d [.mem rows 0 false]) else none
 | _, _ => none
def vr (c : Cx) (t d : Nat) (hs : List H) (F : List Fr) (s : List V) (r : R) : V → Option Ap
 | .ref id n => pS FT c t d id n hs F s r (AJ r id) (r.getD d [])
 | _ => none
theorem cS (c : Cx) (t d : Nat) (hs : List H) (F : List Fr) (s : List V) (r : R) (id : Id) (n : Nat) : vr FT c t d hs F s r (.ref id n) = pS FT c t d id n hs F s r (AJ r id) (r.getD d []) := rfl
theorem cT (c : Cx) (t d : Nat) (id : Id) (n : Nat) (hs : List H) (F : List Fr) (s : List V) (r : R) (rows : Rows) (st : Nat) : pS FT c t d id n hs F s r (.mem rows st false) [.dead] = if rows.length = n ∧ id.1 ≠ d then hn FT c hs F ((clS [id.1, d] 0 s).set t (.ref (d, 0) n)) ((r.set id.1 []).set d [.mem rows 0 false]) else none := rfl
theorem t6 (c : Cx) (t d : Nat) (hs : List H) (F : List Fr) (s : List V) (r : R) : hn FT c (.home t d :: hs) F s r = vr FT c t d hs F s r (s.getD t .dead) := by
 simp only [hn, PG, doH]
 generalize s.getD t .dead = v
 cases v <;> try rfl
 rename_i id n
 have h1 := ju [id.1, d] s 0
 simp only [Nat.zero_add] at h1
 rw [cS]
 simp only
 generalize AJ r id = e
 generalize r.getD d [] = l
 cases e with
 | dead => rfl
 | mem rows st fx =>
  cases fx with
  | true => rfl
  | false =>
   match l with
   | [] => rfl
   | [.dead] =>
    rw [cT]
    by_cases hc : rows.length = n ∧ id.1 ≠ d
    ·simp only [if_pos hc, ← h1]; rfl
    ·simp only [if_neg hc]; rfl
   | .mem .. :: _ => rfl
   | .dead :: _ :: _ => rfl
def lh (c : Cx) (d k : Nat) (rows : Rows) (stt : Nat) (fx : Bool) (hs : List H) (F : List Fr) (s : List V) (r : R) : Option T → Option Ap
 | some (.sl true rs) => hn FT c hs F s (Bc r (d, 0) (.mem (Ao rows [] 0 k (.sl false (AX rs))) stt fx))
 | some (.sl false _) => hn FT c hs F s r
 | _ => none
def vt (c : Cx) (d k : Nat) (hs : List H) (F : List Fr) (s : List V) (r : R) : DH → Option Ap
 | .mem rows stt fx => lh FT c d k rows stt fx hs F s r (BK rows [] 0 k)
 | _ => none
theorem cU (c : Cx) (d k : Nat) (hs : List H) (F : List Fr) (s : List V) (r : R) (rows : Rows) (stt : Nat) (fx : Bool) : vt FT c d k hs F s r (.mem rows stt fx) = lh FT c d k rows stt fx hs F s r (BK rows [] 0 k) := rfl
theorem pT (c : Cx) (d k : Nat) (rows : Rows) (stt : Nat) (fx : Bool) (hs : List H) (F : List Fr) (s : List V) (r : R) (rs : Rows) : lh FT c d k rows stt fx hs F s r (some (.sl true rs)) = hn FT c hs F s (Bc r (d, 0) (.mem (Ao rows [] 0 k (.sl false (AX rs))) stt fx)) := rfl
theorem pU (c : Cx) (d k : Nat) (rows : Rows) (stt : Nat) (fx : Bool) (hs : List H) (F : List Fr) (s : List V) (r : R) (rs : Rows) : lh FT c d k rows stt fx hs F s r (some (.sl false rs)) = hn FT c hs F s r := rfl
theorem t7 (c : Cx) (d k : Nat) (hs : List H) (F : List Fr) (s : List V) (r : R) : hn FT c (.frzc d k :: hs) F s r = vt FT c d k hs F s r (AJ r (d, 0)) := by
 simp only [hn, PG, doH]
 generalize AJ r (d, 0) = e
 cases e with
 | dead => rfl
 | mem rows stt fx =>
  simp only [cU]
  generalize BK rows [] 0 k = o
  match o with
  | none => rfl
  | some (.v x) => rfl
  | some .hole => rfl
  | some (.sl false rs) => rfl
  | some (.sl true rs) => rfl
def pV (c : Cx) (d k : Nat) (rows : Rows) (stt : Nat) (fx : Bool) (hs : List H) (F : List Fr) (s : List V) (r : R) : Option T → Option Ap
 | some (.sl true rs) => hn FT c hs F s (Bc r (d, 0) (.mem (Ao rows [] 0 k (.sl true (AX rs))) (stt + 1) fx))
 | _ => none
def vu (c : Cx) (d k : Nat) (hs : List H) (F : List Fr) (s : List V) (r : R) : DH → Option Ap
 | .mem rows stt fx => pV FT c d k rows stt fx hs F s r (BK rows [] 0 k)
 | _ => none
theorem cV (c : Cx) (d k : Nat) (hs : List H) (F : List Fr) (s : List V) (r : R) (rows : Rows) (stt : Nat) (fx : Bool) : vu FT c d k hs F s r (.mem rows stt fx) = pV FT c d k rows stt fx hs F s r (BK rows [] 0 k) := rfl
theorem pW (c : Cx) (d k : Nat) (rows : Rows) (stt : Nat) (fx : Bool) (hs : List H) (F : List Fr) (s : List V) (r : R) (rs : Rows) : pV FT c d k rows stt fx hs F s r (some (.sl true rs)) = hn FT c hs F s (Bc r (d, 0) (.mem (Ao rows [] 0 k (.sl true (AX rs))) (stt + 1) fx)) := rfl
theorem t8 (c : Cx) (d k : Nat) (hs : List H) (F : List Fr) (s : List V) (r : R) : hn FT c (.frzb d k :: hs) F s r = vu FT c d k hs F s r (AJ r (d, 0)) := by
 simp only [hn, PG, doH]
 generalize AJ r (d, 0) = e
 cases e with
 | dead => rfl
 | mem rows stt fx =>
  simp only [cV]
  generalize BK rows [] 0 k = o
  match o with
  | none => rfl
  | some (.v x) => rfl
  | some .hole => rfl
  | some (.sl false rs) => rfl
  | some (.sl true rs) => rfl
def vw (c : Cx) (d k : Nat) (hs : List H) (F : List Fr) (s : List V) (r : R) : DH → Option Ap
 | .mem rows stt fx => hn FT c hs F s (Bc r (d, k) (.mem (AX rows) (stt + 1) fx))
 | _ => none
theorem mf (c : Cx) (d k : Nat) (hs : List H) (F : List Fr) (s : List V) (r : R) (rows : Rows) (stt : Nat) (fx : Bool) : vw FT c d k hs F s r (.mem rows stt fx) = hn FT c hs F s (Bc r (d, k) (.mem (AX rows) (stt + 1) fx)) := rfl
theorem tA (c : Cx) (d k : Nat) (hs : List H) (F : List Fr) (s : List V) (r : R) : hn FT c (.frzr d k :: hs) F s r = vw FT c d k hs F s r (AJ r (d, k)) := by
 simp only [hn, PG, doH]
 generalize AJ r (d, k) = e
 cases e with
 | dead => rfl
 | mem rows stt fx => rfl
theorem zB (c : Cx) (hs : List H) (k : K) (F : List Fr) (s : List V) (r : R) : ev FT c (.hp hs k) F s r = hn FT c hs (.th k :: F) s r := by
 simp only [ev, yt, hn, Option.bind_assoc]; rfl
theorem tB (c : Cx) (F : List Fr) (s : List V) (r : R) : ev FT c .skip F s r = gn FT c F s r := by simp only [ev, sn]; rfl
theorem zC (c : Cx) (id : Nat) (F : List Fr) (s : List V) (r : R) : ev FT c (.ex id) F s r = gx FT c F id s r := by simp only [ev, yr]; rfl
theorem wk (c : Cx) (F : List Fr) (s : List V) (r : R) : ev FT c .ret F s r = gr FT c F s r := by simp only [ev, wX]; rfl
theorem wl (c : Cx) (a b : K) (F : List Fr) (s : List V) (r : R) : ev FT c (.seq a b) F s r = ev FT c a (.th b :: F) s r := by simp only [ev, wY, Option.bind_assoc]; rfl
theorem wm (c : Cx) (id : Nat) (b : K) (F : List Fr) (s : List V) (r : R) : ev FT c (.blk id b) F s r = ev FT c b (.lv id :: F) s r := by
 simp only [ev, wZ]; cases rk FT.ft (SD FT) b ⟨s, r⟩ <;> rfl
theorem A00 (c : Cx) (hs : List H) (k : K) (F : List Fr) (s : List V) (r : R) : ev FT c (.h hs k) F s r = ev FT c k (.hk hs :: F) s r := by simp only [ev, zz, Option.bind_assoc]; rfl
theorem Aa (c : Cx) (b : K) (F : List Fr) (s : List V) (r : R) : ev FT c (.loop b) F s r = ev FT c b (.th (.loop b) :: F) s r := by
 simp only [ev]; rw [sr, Option.bind_assoc]; rfl
def ck (c : Cx) (v : V) (a b : K) (F : List Fr) (s : List V) (r : R) : Option Ap := match v with
 | .t (.v (.bool true)) => ev FT c a F s r
 | .t (.v (.bool false)) => ev FT c b F s r
 | _ => none
theorem tC (c : Cx) (x : Ca) (a b : K) (F : List Fr) (s : List V) (r : R) : ev FT c (.cond x a b) F s r = ck FT c (A6 s x) a b F s r := by
 simp only [ev, sq, ck, ckV]; split <;> simp_all
theorem tD (c : Cx) (a b : K) (F : List Fr) (s : List V) (r : R) : ck FT c (.t (.v (.bool true))) a b F s r = ev FT c a F s r := rfl
theorem pX (c : Cx) (a b : K) (F : List Fr) (s : List V) (r : R) : ck FT c (.t (.v (.bool false))) a b F s r = ev FT c b F s r := rfl
def an (c : Cx) (dr : Bool) (d : Option Nat) (es : List IS) (F : List Fr) (s : List V) (q : V × R) : Option Ap :=
 ev FT c (.reg dr es) F (match d with | some t => s.set t q.1 | none => s) q.2
def opR (dr : Bool) (d : Nat) (o : O) (rd wr : List Nat) (s : List V) (r : R) : Option (V × R) :=
 if dr then (Av s d o).runA (dn FT) d rd wr r else (Av s d o).run (dn FT) d r
theorem wn (c : Cx) (dr : Bool) (F : List Fr) (s : List V) (r : R) : ev FT c (.reg dr []) F s r = gn FT c F s r := by simp only [ev, TP]; rfl
theorem tE (c : Cx) (dr : Bool) (t : Nat) (es : List IS) (F : List Fr) (s : List V) (v : V) (r : R) : an FT c dr (some t) es F s (v, r) = ev FT c (.reg dr es) F (s.set t v) r := rfl
theorem tF (c : Cx) (dr : Bool) (es : List IS) (F : List Fr) (s : List V) (v : V) (r : R) : an FT c dr none es F s (v, r) = ev FT c (.reg dr es) F s r := rfl
theorem vy (c : Cx) (dr : Bool) (d : Option Nat) (o : O) (rd wr : List Nat) (es : List IS) (F : List Fr) (s : List V) (r : R) :
  ev FT c (.reg dr (⟨d, none, o, rd, wr⟩ :: es)) F s r = (opR FT dr (d.getD 0) o rd wr s r).bind (an FT c dr d es F s) := by
 simp only [ev, TP, DI, Cb, Ew, Option.bind_some, if_true, opR]
 cases dr <;> simp only [if_true, if_false, Bool.false_eq_true]
 ·cases M.run (dn FT) (d.getD 0) (Av s (d.getD 0) o) r with
  | none => rfl
  | some q => cases d <;> simp [an, ev, TP, St.put]
 ·cases M.runA (dn FT) (d.getD 0) rd wr (Av s (d.getD 0) o) r with
  | none => rfl
  | some q => cases d <;> simp [an, ev, TP, St.put]
def gd (c : Cx) (dr : Bool) (v : V) (w : Bool) (d : Option Nat) (o : O) (rd wr : List Nat) (es : List IS) (F : List Fr) (s : List V) (r : R) : Option Ap := match v with
 | .t (.v (.bool b)) => if b == w then (opR FT dr (d.getD 0) o rd wr s r).bind (an FT c dr d es F s) else an FT c dr d es F s (.tup [], r)
 | .tup [] => an FT c dr d es F s (.tup [], r)
 | _ => none
theorem zD (c : Cx) (dr : Bool) (d : Option Nat) (t : Nat) (w : Bool) (o : O) (rd wr : List Nat) (es : List IS) (F : List Fr) (s : List V) (r : R) :
  ev FT c (.reg dr (⟨d, some (t, w), o, rd, wr⟩ :: es)) F s r = gd FT c dr (s.getD t .dead) w d o rd wr es F s r := by
 have h0 := vy FT c dr d o rd wr es F s r
 simp only [ev, TP, DI, Cb, Ew, Option.bind_some, if_true] at h0
 simp only [ev, TP, DI, Cb, Ew]
 generalize s.getD t .dead = v
 have hs : (Option.map (fun st' => (Ex.normal, st')) ((some ((⟨s, r⟩ : St).put d (V.tup []))).bind (DI (dn FT) dr es))).bind (un FT c F) = an FT c dr d es F s (.tup [], r) := by
  cases d <;> simp [an, ev, TP, St.put]
 have e0 : gd FT c dr v w d o rd wr es F s r = (match v with
  | .t (.v (.bool b)) => if b == w then (opR FT dr (d.getD 0) o rd wr s r).bind (an FT c dr d es F s) else an FT c dr d es F s (.tup [], r)
  | .tup [] => an FT c dr d es F s (.tup [], r)
  | _ => none) := rfl
 rw [e0]
 match v with
 | .t (.v (.bool b)) =>
  simp only [Option.bind_some]
  split
  ·rw [← h0]
  ·exact hs
 | .tup [] => exact hs
 | .nil | .agg _ | .ref _ _ | .sub .. | .ptr .. | .pp _ | .fn _ _ | .vb .. | .dead | .tup (_ :: _) => rfl
 | .t .hole | .t (.sl _ _) => rfl
 | .t (.v x) => cases x <;> first | rfl | (simp only [Option.bind_some]; split; (rw [← h0]); exact hs)
theorem tG (c : Cx) (dr : Bool) (w : Bool) (d : Option Nat) (o : O) (rd wr : List Nat) (es : List IS) (F : List Fr) (s : List V) (r : R) :
  gd FT c dr (.tup []) w d o rd wr es F s r = an FT c dr d es F s (.tup [], r) := rfl
theorem zE (c : Cx) (dr : Bool) (d : Option Nat) (o : O) (rd wr : List Nat) (es : List IS) (F : List Fr) (s : List V) (r : R) :
  gd FT c dr (.t (.v (.bool true))) true d o rd wr es F s r = (opR FT dr (d.getD 0) o rd wr s r).bind (an FT c dr d es F s) := rfl
theorem zF (c : Cx) (dr : Bool) (d : Option Nat) (o : O) (rd wr : List Nat) (es : List IS) (F : List Fr) (s : List V) (r : R) :
  gd FT c dr (.t (.v (.bool false))) false d o rd wr es F s r = (opR FT dr (d.getD 0) o rd wr s r).bind (an FT c dr d es F s) := rfl
theorem zG (c : Cx) (dr : Bool) (d : Option Nat) (o : O) (rd wr : List Nat) (es : List IS) (F : List Fr) (s : List V) (r : R) :
  gd FT c dr (.t (.v (.bool true))) false d o rd wr es F s r = an FT c dr d es F s (.tup [], r) := rfl
theorem zH (c : Cx) (dr : Bool) (d : Option Nat) (o : O) (rd wr : List Nat) (es : List IS) (F : List Fr) (s : List V) (r : R) :
  gd FT c dr (.t (.v (.bool false))) true d o rd wr es F s r = an FT c dr d es F s (.tup [], r) := rfl
theorem A9 {f : FuncId} {fn : F} {args : List Fy} (hf : FT.ft f = some fn) (hx : SD FT f args = none) (hl : args.length ≤ fn.nt) (hc : fn.co = none := by rfl) :
  dn FT f args = ev FT ⟨args.length, M1 (enter fn.nt args).r args.length, fn.res⟩ fn.body [] (enter fn.nt args).s (enter fn.nt args).r := by
 unfold dn
 rw [wa FT.ft (SD FT) hf hx hl hc]
 simp only [ev]
 show (rk FT.ft (SD FT) fn.body (enter fn.nt args)).bind _ = (rk FT.ft (SD FT) fn.body (enter fn.nt args)).bind _
 congr 1
theorem tH {f : FuncId} {fn : F} {k : K2} {args : List Fy} (hf : FT.ft f = some fn) (hx : SD FT f args = none) (hl : args.length ≤ fn.nt) (hc : fn.co = some k) {q : Ap}
  (h1 : ev FT ⟨args.length, M1 (enter fn.nt args).r args.length, fn.res⟩ (k.pick true) [] (enter fn.nt args).s (enter fn.nt args).r = some q)
  (h2 : ev FT ⟨args.length, M1 (enter fn.nt args).r args.length, fn.res⟩ (k.pick false) [] (enter fn.nt args).s (enter fn.nt args).r = some q) : dn FT f args = some q := by
 have key : ∀ body : K, ev FT ⟨args.length, M1 (enter fn.nt args).r args.length, fn.res⟩ body [] (enter fn.nt args).s (enter fn.nt args).r = (rk FT.ft (SD FT) body (enter fn.nt args)).bind (ss fn.nt fn.res args) := by
  intro body
  simp only [ev]
  show (rk FT.ft (SD FT) body (enter fn.nt args)).bind _ = (rk FT.ft (SD FT) body (enter fn.nt args)).bind _
  congr 1
 rw [key] at h1 h2
 exact su FT.ft (SD FT) hf hx hl hc h1 h2
end
end TT
