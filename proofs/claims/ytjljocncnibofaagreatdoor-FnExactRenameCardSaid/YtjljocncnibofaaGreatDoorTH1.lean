import Derived.Test.YtjljocncnibofaaGreatDoorTE
set_option linter.unusedVariables false
set_option linter.unusedSimpArgs false
namespace TT
open Go Go.RowKit
inductive Fr where
 | th (b : K)
 | lv (id : Nat)
 | hk (hs : List H)
structure Cx where
 na : Nat
 sh : List Nat
 res : List RK
def cloneX (cl : List Nat) : CallF := fun f args => if cl.contains f then (match args with
 | [.t (.sl false [])] => some ⟨[.t (.sl true [])], []⟩
 | _ => none) else none
abbrev LibF := List Arg → Option Res
def libX : List (Nat × LibF) → CallF
 | [], f, args => none
 | p :: l, f, args => if p.1 == f then p.2 args else libX l f args
structure Env where
 ft : FTab
 cl : List Nat
 lb : List (Nat × LibF) := []
def xOf (E : Env) : CallF := fun f args => match cloneX E.cl f args with
 | some r => some r
 | none => libX E.lb f args
noncomputable abbrev dn (E : Env) : CallF := den E.ft (xOf E)
theorem cloneX_none {cl : List Nat} {f : FuncId} (h : cl.contains f = false) (args : List Arg) : cloneX cl f args = none := by simp only [cloneX, h, Bool.false_eq_true, if_false]
theorem cloneX_nil {cl : List Nat} {f : FuncId} (h : cl.contains f = true) : cloneX cl f [.t (.sl false [])] = some ⟨[.t (.sl true [])], []⟩ := by simp only [cloneX, h, if_true]
theorem cloneX_cons {cl : List Nat} {f : FuncId} (r : List T) (rs : Rows) : cloneX cl f [.t (.sl false (r :: rs))] = none := by simp only [cloneX]; split <;> rfl
theorem cloneX_v {f : FuncId} (args : List Arg) : cloneX [] f args = none := rfl
theorem cloneX_sound {G : Gt} {P : Program} {call0 : CallF} {cl : List Nat} (hS : Sound G P call0) (h : ∀ f, cl.contains f = true → ∀ q cap, call0 f [.t (.v (.slice q 0 cap))] = some ⟨[.t (.sl true [])], []⟩) : Sound G P (cloneX cl) := by
 intro f args res hr
 unfold cloneX at hr
 split at hr
 ·rename_i hc
  split at hr
  ·cases hr
   refine ⟨(hS f _ _ (h f hc none 0)).1, fun w B L us ls hA hL hB hG => ?_⟩
   simp only [ArgReps] at hA
   obtain ⟨u, us', L1, L2, ls1, ls2, rfl, h1, ⟨rfl, h3, h4⟩, h5, h6⟩ := hA
   simp only [ArgRep] at h1
   obtain ⟨g1, g2, g3, g4⟩ := h1
   simp only [ShC] at g1
   obtain ⟨q, cap, rfl, _⟩ := g1
   refine (hS f _ _ (h f hc q cap)).2 w B L _ ls ?_ hL hB hG
   simp only [ArgReps]
   refine ⟨_, [], L1, L2, ls1, ls2, rfl, ?_, ⟨rfl, h3, h4⟩, h5, h6⟩
   simp only [ArgRep, ShC]
   exact ⟨rfl, g2, g3, g4⟩
  ·cases hr
 ·cases hr
theorem libX_none : ∀ {l : List (Nat × LibF)} {f : FuncId}, (l.all fun p => p.1 != f) = true → ∀ args, libX l f args = none
 | [], f, _, args => rfl
 | p :: l, f, h, args => by
  simp only [List.all_cons, Bool.and_eq_true, bne_iff_ne] at h
  have h1 : (p.1 == f) = false := by simpa using h.1
  simp only [libX, h1, Bool.false_eq_true, if_false]
  exact libX_none h.2 args
theorem xOf_none {E : Env} {f : FuncId} (h : E.cl.contains f = false) (h2 : (E.lb.all fun p => p.1 != f) = true) (args : List Arg) : xOf E f args = none := by
 simp only [xOf, cloneX_none h, libX_none h2]
theorem xOf_nil {E : Env} {f : FuncId} (h : E.cl.contains f = true) : xOf E f [.t (.sl false [])] = some ⟨[.t (.sl true [])], []⟩ := by simp only [xOf, cloneX_nil h]
theorem xOf_cons {E : Env} {f : FuncId} (h2 : (E.lb.all fun p => p.1 != f) = true) (r : List T) (rs : Rows) : xOf E f [.t (.sl false (r :: rs))] = none := by
 simp only [xOf, cloneX_cons, libX_none h2]
theorem xOf_lib {E : Env} {f : FuncId} (h : E.cl.contains f = false) (args : List Arg) : xOf E f args = libX E.lb f args := by
 simp only [xOf, cloneX_none h]
def Sound1 (G : Gt) (P : Program) (f : FuncId) (g : LibF) : Prop := ∀ args res, g args = some res → callB P f = true ∧ ∀ w B L us ls, ArgReps w B args us L ls → (∀ b, L b → ¬ B b) → (∀ b, B b → b < w.heap.size) → G.ok B w → Calls P f us.toArray w (Post w B L ls res)
theorem libX_sound {G : Gt} {P : Program} : ∀ {l : List (Nat × LibF)}, (∀ p ∈ l, Sound1 G P p.1 p.2) → Sound G P (libX l)
 | [], h => fun f args res hr => by simp [libX] at hr
 | p :: l, h => fun f args res hr => by
  simp only [libX] at hr
  split at hr
  ·rename_i e
   have e : p.1 = f := by simpa using e
   subst e
   exact h p (List.mem_cons_self ..) args res hr
  ·exact libX_sound (fun q hq => h q (List.mem_cons_of_mem _ hq)) f args res hr
theorem xOf_sound {G : Gt} {P : Program} {E : Env} (h : Sound G P (cloneX E.cl)) (h2 : ∀ p ∈ E.lb, Sound1 G P p.1 p.2) : Sound G P (xOf E) := fun f args res hr => by
 unfold xOf at hr
 cases hc : cloneX E.cl f args with
 | some r => rw [hc] at hr; cases hr; exact h f args _ hc
 | none => rw [hc] at hr; exact libX_sound h2 f args res hr
theorem xOf0_sound {G : Gt} {P : Program} {FT : FTab} : Sound G P (xOf ⟨FT, [], []⟩) := xOf_sound (fun f args res h => by simp [cloneX] at h) (fun p hp => by cases hp)
theorem post_plain {w w' : World} {B : Nat → Prop} (hB : ∀ b, B b → b < w.heap.size) (hb : Below w.heap.size w w') {vs : List Value} (h1 : ∀ v ∈ vs, v.oneCell' = true) : Post w B (fun _ => False) [] ⟨vs.map fun v => .t (.v v), []⟩ (.returned (retV vs)) w' := by
 obtain ⟨os, tp, ou, sz, fr⟩ := hb
 have hv : ∀ vs : List Value, (∀ v ∈ vs, v.oneCell' = true) → RVReps w' B (vs.map fun v => .t (.v v)) vs (fun _ => False) := by
  intro vs
  induction vs with
  | nil => intro _; simp only [List.map_nil, RVReps]; exact ⟨trivial, fun _ h => h⟩
  | cons v vs ih =>
   intro h1
   simp only [List.map_cons, RVReps]
   exact ⟨v, vs, fun _ => False, fun _ => False, rfl, ⟨by simp only [OwC]; exact ⟨trivial, fun _ h => h⟩, h1 v (List.mem_cons_self ..)⟩, ih fun u hu => h1 u (List.mem_cons_of_mem _ hu), ⟨fun b => by simp, fun b h _ => h⟩⟩
 refine ⟨B, fun _ => False, fun _ => False, vs, ?_⟩
 exact { val := rfl, vals := hv vs h1, after := by simp only [AfterRep]; exact ⟨trivial, fun _ h => h⟩, dis := fun _ h => h.elim, nr := fun _ h => h.elim, na := fun _ h => h.elim, old := fun _ h => h, sh := fun _ h => .inl h, ownr := fun _ h => h.elim, owna := fun _ h => h.elim,
         inB := fun b hb => Nat.lt_of_lt_of_le (hB b hb) sz, frame := fun b hb _ => fr b hb, size := sz, os := os, tape := tp, output := ou }
theorem args_plain {w : World} {B : Nat → Prop} : ∀ {vs us : List Value} {L : Nat → Prop} {ls : List Lent}, ArgReps w B (vs.map fun v => .t (.v v)) us L ls → us = vs ∧ (∀ b, ¬ L b) ∧ ls = []
 | [], us, L, ls, h => by simp only [List.map_nil, ArgReps] at h; exact ⟨h.1, h.2.1, h.2.2⟩
 | v :: vs, us, L, ls, h => by
  simp only [List.map_cons, ArgReps] at h
  obtain ⟨u, us', S1, S2, l1, l2, rfl, h1, h2, h3, rfl⟩ := h
  simp only [ArgRep, ShC] at h1
  obtain ⟨rfl, _, e1, rfl⟩ := h1
  obtain ⟨rfl, e2, rfl⟩ := args_plain h2
  exact ⟨rfl, fun b hb => ((h3.1 b).1 hb).elim (e1 b) (e2 b), rfl⟩
theorem sound1_plain {G : Gt} {P : Program} {f : FuncId} {g : LibF} (hc : callB P f = true) (h : ∀ args res, g args = some res → ∃ vs rs : List Value, args = vs.map (fun v => .t (.v v)) ∧ res = ⟨rs.map fun v => .t (.v v), []⟩ ∧ (∀ v ∈ rs, v.oneCell' = true) ∧
  ∀ w B, G.ok B w → Calls P f vs.toArray w fun e w' => e = .returned (retV rs) ∧ Below w.heap.size w w') : Sound1 G P f g := fun args res hr => by
 refine ⟨hc, fun w B L us ls hA hL hB hG => ?_⟩
 obtain ⟨vs, rs, rfl, rfl, h1, h2⟩ := h args res hr
 obtain ⟨rfl, hE, rfl⟩ := args_plain hA
 have hL0 : L = fun _ => False := funext fun b => propext ⟨fun h => hE b h, fun h => h.elim⟩
 subst hL0
 refine Calls.mono (h2 w B hG) ?_
 rintro e w' ⟨rfl, hb⟩
 exact post_plain hB hb h1
noncomputable section
variable (FT : Env)
def fin (c : Cx) (s : List V) (r : R) : Option Res :=
 ((outs s c.res M.ret).run (fun _ _ => none) 0 r).bind fun o => if shape o.2 c.na = c.sh then some { vals := o.1, after := afters o.2 c.na } else none
def un (c : Cx) : List Fr → Ex × St → Option Res
 | [], q => match q.1 with
  | .exit _ => none
  | _ => fin c q.2.s q.2.r
 | .th b :: F, q => (thenK FT.ft (xOf FT) b q).bind (un c F)
 | .lv id :: F, q => un c F (leave id q)
 | .hk hs :: F, q => (hintK hs q).bind (un c F)
def gn (c : Cx) (F : List Fr) (s : List V) (r : R) : Option Res := un FT c F (.normal, ⟨s, r⟩)
def gx (c : Cx) (F : List Fr) (id : Nat) (s : List V) (r : R) : Option Res := un FT c F (.exit id, ⟨s, r⟩)
def gr (c : Cx) (F : List Fr) (s : List V) (r : R) : Option Res := un FT c F (.ret, ⟨s, r⟩)
def ev (c : Cx) (k : K) (F : List Fr) (s : List V) (r : R) : Option Res := (rk FT.ft (xOf FT) k ⟨s, r⟩).bind (un FT c F)
theorem gn_nil (c : Cx) (s : List V) (r : R) : gn FT c [] s r = fin c s r := rfl
theorem gn_th (c : Cx) (b : K) (F : List Fr) (s : List V) (r : R) : gn FT c (.th b :: F) s r = ev FT c b F s r := rfl
theorem gn_lv (c : Cx) (id : Nat) (F : List Fr) (s : List V) (r : R) : gn FT c (.lv id :: F) s r = gn FT c F s r := rfl
theorem gx_th (c : Cx) (b : K) (F : List Fr) (id : Nat) (s : List V) (r : R) : gx FT c (.th b :: F) id s r = gx FT c F id s r := rfl
theorem gx_hk (c : Cx) (hs : List H) (F : List Fr) (id : Nat) (s : List V) (r : R) : gx FT c (.hk hs :: F) id s r = gx FT c F id s r := rfl
theorem gx_lv (c : Cx) (j : Nat) (F : List Fr) (id : Nat) (s : List V) (r : R) : gx FT c (.lv j :: F) id s r = if id = j then gn FT c F s r else gx FT c F id s r := by
 simp only [gx, gn, un, leave]; split <;> rfl
theorem gx_nil (c : Cx) (id : Nat) (s : List V) (r : R) : gx FT c [] id s r = none := rfl
theorem gr_th (c : Cx) (b : K) (F : List Fr) (s : List V) (r : R) : gr FT c (.th b :: F) s r = gr FT c F s r := rfl
theorem gr_hk (c : Cx) (hs : List H) (F : List Fr) (s : List V) (r : R) : gr FT c (.hk hs :: F) s r = gr FT c F s r := rfl
theorem gr_lv (c : Cx) (j : Nat) (F : List Fr) (s : List V) (r : R) : gr FT c (.lv j :: F) s r = gr FT c F s r := rfl
theorem gr_nil (c : Cx) (s : List V) (r : R) : gr FT c [] s r = fin c s r := rfl
def hn (c : Cx) (hs : List H) (F : List Fr) (s : List V) (r : R) : Option Res := (doHs hs ⟨s, r⟩).bind fun st => gn FT c F st.s st.r
theorem gn_hk (c : Cx) (hs : List H) (F : List Fr) (s : List V) (r : R) : gn FT c (.hk hs :: F) s r = hn FT c hs F s r := by
 simp only [gn, un, hintK, hn]; cases doHs hs ⟨s, r⟩ <;> rfl
theorem hn_nil (c : Cx) (F : List Fr) (s : List V) (r : R) : hn FT c [] F s r = gn FT c F s r := rfl
def killS : List Nat → List V → List V
 | [], s => s
 | t :: ts, s => killS ts (s.set t .dead)
theorem killS_eq (ts : List Nat) : ∀ s, ts.foldl (fun s t => s.set t V.dead) s = killS ts s := by
 induction ts with
 | nil => intro s; rfl
 | cons t ts ih => intro s; exact ih _
theorem hn_kill (c : Cx) (ts : List Nat) (hs : List H) (F : List Fr) (s : List V) (r : R) : hn FT c (.kill ts :: hs) F s r = hn FT c hs F (killS ts s) r := by
 simp only [hn, doHs, doH, killS_eq, Option.bind_some]
def clS (ts : List Nat) (i : Nat) : List V → List V
 | [] => []
 | v :: vs => cleanS ts i v :: clS ts (i + 1) vs
def clR (ts : List Nat) (i : Nat) : R → R
 | [] => []
 | v :: vs => cleanR ts i v :: clR ts (i + 1) vs
theorem clS_eq (ts : List Nat) : ∀ (s : List V) (i : Nat), s.mapIdx (fun j => cleanS ts (i + j)) = clS ts i s
 | [], i => rfl
 | v :: vs, i => by
  rw [List.mapIdx_cons]
  simp only [clS, Nat.add_zero]
  congr 1
  rw [← clS_eq ts vs (i + 1)]
  congr 1; funext j; rw [show i + (j + 1) = i + 1 + j by omega]
theorem clR_eq (ts : List Nat) : ∀ (s : R) (i : Nat), s.mapIdx (fun j => cleanR ts (i + j)) = clR ts i s
 | [], i => rfl
 | v :: vs, i => by
  rw [List.mapIdx_cons]
  simp only [clR, Nat.add_zero]
  congr 1
  rw [← clR_eq ts vs (i + 1)]
  congr 1; funext j; rw [show i + (j + 1) = i + 1 + j by omega]
theorem hn_clean (c : Cx) (ts : List Nat) (hs : List H) (F : List Fr) (s : List V) (r : R) : hn FT c (.clean ts :: hs) F s r = hn FT c hs F (clS ts 0 s) (clR ts 0 r) := by
 have h1 := clS_eq ts s 0
 have h2 := clR_eq ts r 0
 simp only [Nat.zero_add] at h1 h2
 simp only [hn, doHs, doH, Option.bind_some, ← h1, ← h2]
def frzE (r : R) : V → Option (V × R)
 | .ref id n => match getE r id with
  | .mem rows _ fx => if rows.length = n ∧ fx = false then some (.t (.sl false (frzRs rows)), setE r id .dead) else none
  | .dead => none
 | .nil => some (.t (.sl false []), r)
 | .t (.sl o rows) => some (.t (.sl o rows), r)
 | .ptr id p i off n _ => if p.isEmpty && (i == 0 && n == 1) then (match getE r id with
  | .mem [cells] _ fx => if off < cells.length ∧ fx = false then some (.pp ((frzR cells).drop off), setE r id .dead) else none
  | _ => none) else none
 | _ => none
def frzP (r : R) (id : Id) (off : Nat) : Ent → Option (V × R)
 | .mem [cells] _ fx => if off < cells.length ∧ fx = false then some (.pp ((frzR cells).drop off), setE r id .dead) else none
 | _ => none
theorem frzE_ptr (r : R) (id : Id) (off st : Nat) : frzE r (.ptr id [] 0 off 1 st) = frzP r id off (getE r id) := rfl
theorem frzP_mem (r : R) (id : Id) (off : Nat) (cells : List T) (st : Nat) (fx : Bool) : frzP r id off (.mem [cells] st fx) = if off < cells.length ∧ fx = false then some (.pp ((frzR cells).drop off), setE r id .dead) else none := rfl
def frzM (r : R) (id : Id) (n : Nat) : Ent → Option (V × R)
 | .mem rows _ fx => if rows.length = n ∧ fx = false then some (.t (.sl false (frzRs rows)), setE r id .dead) else none
 | .dead => none
theorem frzE_ref (r : R) (id : Id) (n : Nat) : frzE r (.ref id n) = frzM r id n (getE r id) := by
 simp only [frzE]; cases getE r id <;> rfl
theorem frzM_mem (r : R) (id : Id) (n : Nat) (rows : Rows) (st : Nat) (fx : Bool) : frzM r id n (.mem rows st fx) = if rows.length = n ∧ fx = false then some (.t (.sl false (frzRs rows)), setE r id .dead) else none := rfl
theorem frzE_nil (r : R) : frzE r .nil = some (.t (.sl false []), r) := rfl
theorem frzE_t (r : R) (o : Bool) (rows : Rows) : frzE r (.t (.sl o rows)) = some (.t (.sl o rows), r) := rfl
theorem hn_freeze (c : Cx) (t : Nat) (hs : List H) (F : List Fr) (s : List V) (r : R) : hn FT c (.freeze t :: hs) F s r = (frzE r (s.getD t .dead)).bind fun q => hn FT c hs F (s.set t q.1) q.2 := by
 simp only [hn, doHs, doH]
 generalize s.getD t .dead = v
 cases v <;> try rfl
 ·rename_i q; cases q <;> rfl
 ·rename_i id n
  rw [frzE_ref]
  simp only [freezeV, M.run]
  cases getE r id with
  | dead => rfl
  | mem rows st fx =>
   simp only [frzM]
   split <;> rfl
 ·rename_i id p i off n st
  simp only [frzE, freezeV]
  by_cases h : (p.isEmpty && (i == 0 && n == 1)) = true
  ·rw [if_pos h, if_pos h]
   simp only [M.run]
   generalize getE r id = e
   cases e with
   | dead => rfl
   | mem rows st fx =>
    cases rows with
    | nil => rfl
    | cons cells rest =>
     cases rest with
     | cons _ _ => rfl
     | nil =>
      simp only
      by_cases h2 : off < cells.length ∧ fx = false
      ·rw [if_pos h2, if_pos h2]; rfl
      ·rw [if_neg h2, if_neg h2]; rfl
  ·rw [if_neg h, if_neg h]; rfl
def ownK (c : Cx) (t d : Nat) (hs : List H) (F : List Fr) (s : List V) (r : R) : V → Option Res
 | .nil => if d < r.length && (r.getD d []).isEmpty then hn FT c hs F (s.set t (.ref (d, 0) 0)) (r.set d [.mem [] 0 false]) else none
 | .ref _ _ => hn FT c hs F s r
 | _ => none
theorem ownK_nil (c : Cx) (t d : Nat) (hs : List H) (F : List Fr) (s : List V) (r : R) : ownK FT c t d hs F s r .nil = if d < r.length && (r.getD d []).isEmpty then hn FT c hs F (s.set t (.ref (d, 0) 0)) (r.set d [.mem [] 0 false]) else none := rfl
theorem ownK_ref (c : Cx) (t d : Nat) (hs : List H) (F : List Fr) (s : List V) (r : R) (id : Id) (n : Nat) : ownK FT c t d hs F s r (.ref id n) = hn FT c hs F s r := rfl
theorem hn_own (c : Cx) (t d : Nat) (hs : List H) (F : List Fr) (s : List V) (r : R) : hn FT c (.own t d :: hs) F s r = ownK FT c t d hs F s r (s.getD t .dead) := by
 simp only [hn, doHs, doH]
 generalize s.getD t .dead = v
 cases v <;> try rfl
 simp only [ownK]
 split <;> rfl
def homeM (c : Cx) (t d : Nat) (id : Id) (n : Nat) (hs : List H) (F : List Fr) (s : List V) (r : R) : Ent → List Ent → Option Res
 | .mem rows _ false, [.dead] => if rows.length = n ∧ id.1 ≠ d then hn FT c hs F ((clS [id.1, d] 0 s).set t (.ref (d, 0) n)) ((r.set id.1 []).set d [.mem rows 0 false]) else none
 | _, _ => none
def homeK (c : Cx) (t d : Nat) (hs : List H) (F : List Fr) (s : List V) (r : R) : V → Option Res
 | .ref id n => homeM FT c t d id n hs F s r (getE r id) (r.getD d [])
 | _ => none
theorem homeK_ref (c : Cx) (t d : Nat) (hs : List H) (F : List Fr) (s : List V) (r : R) (id : Id) (n : Nat) : homeK FT c t d hs F s r (.ref id n) = homeM FT c t d id n hs F s r (getE r id) (r.getD d []) := rfl
theorem homeM_mem (c : Cx) (t d : Nat) (id : Id) (n : Nat) (hs : List H) (F : List Fr) (s : List V) (r : R) (rows : Rows) (st : Nat) : homeM FT c t d id n hs F s r (.mem rows st false) [.dead] = if rows.length = n ∧ id.1 ≠ d then hn FT c hs F ((clS [id.1, d] 0 s).set t (.ref (d, 0) n)) ((r.set id.1 []).set d [.mem rows 0 false]) else none := rfl
theorem hn_home (c : Cx) (t d : Nat) (hs : List H) (F : List Fr) (s : List V) (r : R) : hn FT c (.home t d :: hs) F s r = homeK FT c t d hs F s r (s.getD t .dead) := by
 simp only [hn, doHs, doH]
 generalize s.getD t .dead = v
 cases v <;> try rfl
 rename_i id n
 have h1 := clS_eq [id.1, d] s 0
 simp only [Nat.zero_add] at h1
 rw [homeK_ref]
 simp only
 generalize getE r id = e
 generalize r.getD d [] = l
 cases e with
 | dead => rfl
 | mem rows st fx =>
  cases fx with
  | true => rfl
  | false =>
   match l with
   | [] => rfl
   | [.dead] =>
    rw [homeM_mem]
    by_cases hc : rows.length = n ∧ id.1 ≠ d
    ·simp only [if_pos hc, ← h1]; rfl
    ·simp only [if_neg hc]; rfl
   | .mem .. :: _ => rfl
   | .dead :: _ :: _ => rfl
def frzcM (c : Cx) (d k : Nat) (rows : Rows) (stt : Nat) (fx : Bool) (hs : List H) (F : List Fr) (s : List V) (r : R) : Option T → Option Res
 | some (.sl true rs) => hn FT c hs F s (setE r (d, 0) (.mem (setC rows [] 0 k (.sl false (frzRs rs))) stt fx))
 | some (.sl false _) => hn FT c hs F s r
 | _ => none
def frzcK (c : Cx) (d k : Nat) (hs : List H) (F : List Fr) (s : List V) (r : R) : Ent → Option Res
 | .mem rows stt fx => frzcM FT c d k rows stt fx hs F s r (getC rows [] 0 k)
 | _ => none
theorem frzcK_mem (c : Cx) (d k : Nat) (hs : List H) (F : List Fr) (s : List V) (r : R) (rows : Rows) (stt : Nat) (fx : Bool) : frzcK FT c d k hs F s r (.mem rows stt fx) = frzcM FT c d k rows stt fx hs F s r (getC rows [] 0 k) := rfl
theorem frzcM_sl (c : Cx) (d k : Nat) (rows : Rows) (stt : Nat) (fx : Bool) (hs : List H) (F : List Fr) (s : List V) (r : R) (rs : Rows) : frzcM FT c d k rows stt fx hs F s r (some (.sl true rs)) = hn FT c hs F s (setE r (d, 0) (.mem (setC rows [] 0 k (.sl false (frzRs rs))) stt fx)) := rfl
theorem frzcM_sh (c : Cx) (d k : Nat) (rows : Rows) (stt : Nat) (fx : Bool) (hs : List H) (F : List Fr) (s : List V) (r : R) (rs : Rows) : frzcM FT c d k rows stt fx hs F s r (some (.sl false rs)) = hn FT c hs F s r := rfl
theorem hn_frzc (c : Cx) (d k : Nat) (hs : List H) (F : List Fr) (s : List V) (r : R) : hn FT c (.frzc d k :: hs) F s r = frzcK FT c d k hs F s r (getE r (d, 0)) := by
 simp only [hn, doHs, doH]
 generalize getE r (d, 0) = e
 cases e with
 | dead => rfl
 | mem rows stt fx =>
  simp only [frzcK_mem]
  generalize getC rows [] 0 k = o
  match o with
  | none => rfl
  | some (.v x) => rfl
  | some .hole => rfl
  | some (.sl false rs) => rfl
  | some (.sl true rs) => rfl
def frzrK (c : Cx) (d k : Nat) (hs : List H) (F : List Fr) (s : List V) (r : R) : Ent → Option Res
 | .mem rows stt fx => hn FT c hs F s (setE r (d, k) (.mem (frzRs rows) (stt + 1) fx))
 | _ => none
theorem frzrK_mem (c : Cx) (d k : Nat) (hs : List H) (F : List Fr) (s : List V) (r : R) (rows : Rows) (stt : Nat) (fx : Bool) : frzrK FT c d k hs F s r (.mem rows stt fx) = hn FT c hs F s (setE r (d, k) (.mem (frzRs rows) (stt + 1) fx)) := rfl
theorem hn_frzr (c : Cx) (d k : Nat) (hs : List H) (F : List Fr) (s : List V) (r : R) : hn FT c (.frzr d k :: hs) F s r = frzrK FT c d k hs F s r (getE r (d, k)) := by
 simp only [hn, doHs, doH]
 generalize getE r (d, k) = e
 cases e with
 | dead => rfl
 | mem rows stt fx => rfl
theorem ev_hp (c : Cx) (hs : List H) (k : K) (F : List Fr) (s : List V) (r : R) : ev FT c (.hp hs k) F s r = hn FT c hs (.th k :: F) s r := by
 simp only [ev, rk_hp, hn, Option.bind_assoc]; rfl
theorem ev_skip (c : Cx) (F : List Fr) (s : List V) (r : R) : ev FT c .skip F s r = gn FT c F s r := by simp only [ev, rk_skip]; rfl
theorem ev_ex (c : Cx) (id : Nat) (F : List Fr) (s : List V) (r : R) : ev FT c (.ex id) F s r = gx FT c F id s r := by simp only [ev, rk_ex]; rfl
theorem ev_ret (c : Cx) (F : List Fr) (s : List V) (r : R) : ev FT c .ret F s r = gr FT c F s r := by simp only [ev, rk_ret]; rfl
theorem ev_seq (c : Cx) (a b : K) (F : List Fr) (s : List V) (r : R) : ev FT c (.seq a b) F s r = ev FT c a (.th b :: F) s r := by simp only [ev, rk_seq, Option.bind_assoc]; rfl
theorem ev_blk (c : Cx) (id : Nat) (b : K) (F : List Fr) (s : List V) (r : R) : ev FT c (.blk id b) F s r = ev FT c b (.lv id :: F) s r := by
 simp only [ev, rk_blk]; cases rk FT.ft (xOf FT) b ⟨s, r⟩ <;> rfl
theorem ev_h (c : Cx) (hs : List H) (k : K) (F : List Fr) (s : List V) (r : R) : ev FT c (.h hs k) F s r = ev FT c k (.hk hs :: F) s r := by simp only [ev, rk_h, Option.bind_assoc]; rfl
theorem ev_loop (c : Cx) (b : K) (F : List Fr) (s : List V) (r : R) : ev FT c (.loop b) F s r = ev FT c b (.th (.loop b) :: F) s r := by
 simp only [ev]; rw [rk_loop, Option.bind_assoc]; rfl
def ck (c : Cx) (v : V) (a b : K) (F : List Fr) (s : List V) (r : R) : Option Res := match v with
 | .t (.v (.bool true)) => ev FT c a F s r
 | .t (.v (.bool false)) => ev FT c b F s r
 | _ => none
theorem ev_cond (c : Cx) (x : Opd) (a b : K) (F : List Fr) (s : List V) (r : R) : ev FT c (.cond x a b) F s r = ck FT c (evalO s x) a b F s r := by
 simp only [ev, rk_cond, ck, ckV]; split <;> simp_all
theorem ck_true (c : Cx) (a b : K) (F : List Fr) (s : List V) (r : R) : ck FT c (.t (.v (.bool true))) a b F s r = ev FT c a F s r := rfl
theorem ck_false (c : Cx) (a b : K) (F : List Fr) (s : List V) (r : R) : ck FT c (.t (.v (.bool false))) a b F s r = ev FT c b F s r := rfl
def an (c : Cx) (dr : Bool) (d : Option Nat) (es : List OpE) (F : List Fr) (s : List V) (q : V × R) : Option Res :=
 ev FT c (.reg dr es) F (match d with | some t => s.set t q.1 | none => s) q.2
def opR (dr : Bool) (d : Nat) (o : O) (rd wr : List Nat) (s : List V) (r : R) : Option (V × R) :=
 if dr then (sem s d o).runA (dn FT) d rd wr r else (sem s d o).run (dn FT) d r
theorem ev_nil (c : Cx) (dr : Bool) (F : List Fr) (s : List V) (r : R) : ev FT c (.reg dr []) F s r = gn FT c F s r := by simp only [ev, rk_reg]; rfl
theorem an_some (c : Cx) (dr : Bool) (t : Nat) (es : List OpE) (F : List Fr) (s : List V) (v : V) (r : R) : an FT c dr (some t) es F s (v, r) = ev FT c (.reg dr es) F (s.set t v) r := rfl
theorem an_none (c : Cx) (dr : Bool) (es : List OpE) (F : List Fr) (s : List V) (v : V) (r : R) : an FT c dr none es F s (v, r) = ev FT c (.reg dr es) F s r := rfl
theorem ev_op (c : Cx) (dr : Bool) (d : Option Nat) (o : O) (rd wr : List Nat) (es : List OpE) (F : List Fr) (s : List V) (r : R) :
  ev FT c (.reg dr (⟨d, none, o, rd, wr⟩ :: es)) F s r = (opR FT dr (d.getD 0) o rd wr s r).bind (an FT c dr d es F s) := by
 simp only [ev, rk_reg, stepsO, stepO, guardV, Option.bind_some, if_true, opR]
 cases dr <;> simp only [if_true, if_false, Bool.false_eq_true]
 ·cases M.run (dn FT) (d.getD 0) (sem s (d.getD 0) o) r with
  | none => rfl
  | some q => cases d <;> simp [an, ev, rk_reg, St.put]
 ·cases M.runA (dn FT) (d.getD 0) rd wr (sem s (d.getD 0) o) r with
  | none => rfl
  | some q => cases d <;> simp [an, ev, rk_reg, St.put]
def gd (c : Cx) (dr : Bool) (v : V) (w : Bool) (d : Option Nat) (o : O) (rd wr : List Nat) (es : List OpE) (F : List Fr) (s : List V) (r : R) : Option Res := match v with
 | .t (.v (.bool b)) => if b == w then (opR FT dr (d.getD 0) o rd wr s r).bind (an FT c dr d es F s) else an FT c dr d es F s (.tup [], r)
 | .tup [] => an FT c dr d es F s (.tup [], r)
 | _ => none
theorem ev_gd (c : Cx) (dr : Bool) (d : Option Nat) (t : Nat) (w : Bool) (o : O) (rd wr : List Nat) (es : List OpE) (F : List Fr) (s : List V) (r : R) :
  ev FT c (.reg dr (⟨d, some (t, w), o, rd, wr⟩ :: es)) F s r = gd FT c dr (s.getD t .dead) w d o rd wr es F s r := by
 have h0 := ev_op FT c dr d o rd wr es F s r
 simp only [ev, rk_reg, stepsO, stepO, guardV, Option.bind_some, if_true] at h0
 simp only [ev, rk_reg, stepsO, stepO, guardV]
 generalize s.getD t .dead = v
 have hs : (Option.map (fun st' => (Ex.normal, st')) ((some ((⟨s, r⟩ : St).put d (V.tup []))).bind (stepsO (dn FT) dr es))).bind (un FT c F) = an FT c dr d es F s (.tup [], r) := by
  cases d <;> simp [an, ev, rk_reg, St.put]
 have e0 : gd FT c dr v w d o rd wr es F s r = (match v with
  | .t (.v (.bool b)) => if b == w then (opR FT dr (d.getD 0) o rd wr s r).bind (an FT c dr d es F s) else an FT c dr d es F s (.tup [], r)
  | .tup [] => an FT c dr d es F s (.tup [], r)
  | _ => none) := rfl
 rw [e0]
 match v with
 | .t (.v (.bool b)) =>
  simp only [Option.bind_some]
  split
  ·rw [← h0]
  ·exact hs
 | .tup [] => exact hs
 | .nil | .agg _ | .ref _ _ | .sub .. | .ptr .. | .pp _ | .fn _ _ | .vb .. | .dead | .tup (_ :: _) => rfl
 | .t .hole | .t (.sl _ _) => rfl
 | .t (.v x) => cases x <;> first | rfl | (simp only [Option.bind_some]; split; (rw [← h0]); exact hs)
theorem gd_skip (c : Cx) (dr : Bool) (w : Bool) (d : Option Nat) (o : O) (rd wr : List Nat) (es : List OpE) (F : List Fr) (s : List V) (r : R) :
  gd FT c dr (.tup []) w d o rd wr es F s r = an FT c dr d es F s (.tup [], r) := rfl
theorem gd_tt (c : Cx) (dr : Bool) (d : Option Nat) (o : O) (rd wr : List Nat) (es : List OpE) (F : List Fr) (s : List V) (r : R) :
  gd FT c dr (.t (.v (.bool true))) true d o rd wr es F s r = (opR FT dr (d.getD 0) o rd wr s r).bind (an FT c dr d es F s) := rfl
theorem gd_ff (c : Cx) (dr : Bool) (d : Option Nat) (o : O) (rd wr : List Nat) (es : List OpE) (F : List Fr) (s : List V) (r : R) :
  gd FT c dr (.t (.v (.bool false))) false d o rd wr es F s r = (opR FT dr (d.getD 0) o rd wr s r).bind (an FT c dr d es F s) := rfl
theorem gd_tf (c : Cx) (dr : Bool) (d : Option Nat) (o : O) (rd wr : List Nat) (es : List OpE) (F : List Fr) (s : List V) (r : R) :
  gd FT c dr (.t (.v (.bool true))) false d o rd wr es F s r = an FT c dr d es F s (.tup [], r) := rfl
theorem gd_ft (c : Cx) (dr : Bool) (d : Option Nat) (o : O) (rd wr : List Nat) (es : List OpE) (F : List Fr) (s : List V) (r : R) :
  gd FT c dr (.t (.v (.bool false))) true d o rd wr es F s r = an FT c dr d es F s (.tup [], r) := rfl
theorem den_ev {f : FuncId} {fn : F} {args : List Arg} (hf : FT.ft f = some fn) (hx : xOf FT f args = none) (hl : args.length ≤ fn.nt) :
  dn FT f args = ev FT ⟨args.length, shape (enter fn.nt args).r args.length, fn.res⟩ fn.body [] (enter fn.nt args).s (enter fn.nt args).r := by
 unfold dn
 rw [den_eq FT.ft (xOf FT) hf hx hl]
 simp only [ev]
 show (rk FT.ft (xOf FT) fn.body (enter fn.nt args)).bind _ = (rk FT.ft (xOf FT) fn.body (enter fn.nt args)).bind _
 congr 1
end
end TT
