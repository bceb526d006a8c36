import Derived.Test.YtaeegkjcjlnanaaGreatDoorTE
set_option linter.unusedVariables false
set_option linter.unusedSimpArgs false
namespace TT
open Go Go.RowKit
inductive Fr where
 | th (b : K)
 | lv (id : Nat)
 | hk (hs : List H)
structure Cx where
 na : Nat
 sh : List Nat
 res : List RK
def LZ (cl : List Nat) : AN := fun f args => if cl.contains f then (match args with
 | [.t (.sl false [])] => some ⟨[.t (.sl true [])], []⟩
 | _ => none) else none
abbrev XW := List Fy → Option Af
def ki : List (Nat × XW) → AN
 | [], f, args => none
 | p :: l, f, args => if p.1 == f then p.2 args else ki l f args
structure Env where
 ft : bH
 cl : List Nat
 lb : List (Nat × XW) := []
def SL (E : Env) : AN := fun f args => match LZ E.cl f args with
 | some r => some r
 | none => ki E.lb f args
noncomputable abbrev dn (E : Env) : AN := den E.ft (SL E)
theorem il {cl : List Nat} {f : FuncId} (h : cl.contains f = false) (args : List Fy) : LZ cl f args = none := by simp only [LZ, h, Bool.false_eq_true, if_false]
theorem kj {cl : List Nat} {f : FuncId} (h : cl.contains f = true) : LZ cl f [.t (.sl false [])] = some ⟨[.t (.sl true [])], []⟩ := by simp only [LZ, h, if_true]
theorem im {cl : List Nat} {f : FuncId} (r : List T) (rs : Rows) : LZ cl f [.t (.sl false (r :: rs))] = none := by simp only [LZ]; split <;> rfl
theorem ep {G : Gt} {P : Program} {call0 : AN} {cl : List Nat} (hS : DP G P call0) (h : ∀ f, cl.contains f = true → ∀ q cap, call0 f [.t (.v (.slice q 0 cap))] = some ⟨[.t (.sl true [])], []⟩) : DP G P (LZ cl) := by
 intro f args res hr
 unfold LZ at hr
 split at hr
 ·rename_i hc
  split at hr
  ·cases hr
   refine ⟨(hS f _ _ (h f hc none 0)).1, fun w B L us ls hA hL hB hG => ?_⟩
   simp only [AV] at hA
   obtain ⟨u, us', L1, L2, ls1, ls2, rfl, h1, ⟨rfl, h3, h4⟩, h5, h6⟩ := hA
   simp only [An] at h1
   obtain ⟨g1, g2, g3, g4⟩ := h1
   simp only [Df] at g1
   obtain ⟨q, cap, rfl, _⟩ := g1
   refine (hS f _ _ (h f hc q cap)).2 w B L _ ls ?_ hL hB hG
   simp only [AV]
   refine ⟨_, [], L1, L2, ls1, ls2, rfl, ?_, ⟨rfl, h3, h4⟩, h5, h6⟩
   simp only [An, Df]
   exact ⟨rfl, g2, g3, g4⟩
  ·cases hr
 ·cases hr
theorem Vo : ∀ {l : List (Nat × XW)} {f : FuncId}, (l.all fun p => p.1 != f) = true → ∀ args, ki l f args = none
 | [], f, _, args => rfl
 | p :: l, f, h, args => by
  simp only [List.all_cons, Bool.and_eq_true, bne_iff_ne] at h
  have h1 : (p.1 == f) = false := by simpa using h.1
  simp only [ki, h1, Bool.false_eq_true, if_false]
  exact Vo h.2 args
theorem qF {E : Env} {f : FuncId} (h : E.cl.contains f = false) (h2 : (E.lb.all fun p => p.1 != f) = true) (args : List Fy) : SL E f args = none := by
 simp only [SL, il h, Vo h2]
theorem eq {E : Env} {f : FuncId} (h : E.cl.contains f = true) : SL E f [.t (.sl false [])] = some ⟨[.t (.sl true [])], []⟩ := by simp only [SL, kj h]
theorem Yt {E : Env} {f : FuncId} (h2 : (E.lb.all fun p => p.1 != f) = true) (r : List T) (rs : Rows) : SL E f [.t (.sl false (r :: rs))] = none := by
 simp only [SL, im, Vo h2]
def OA (G : Gt) (P : Program) (f : FuncId) (g : XW) : Prop := ∀ args res, g args = some res → No P f = true ∧ ∀ w B L us ls, AV w B args us L ls → (∀ b, L b → ¬ B b) → (∀ b, B b → b < w.heap.size) → G.ok B w → Calls P f us.toArray w (nV w B L ls res)
theorem Yu {G : Gt} {P : Program} : ∀ {l : List (Nat × XW)}, (∀ p ∈ l, OA G P p.1 p.2) → DP G P (ki l)
 | [], h => fun f args res hr => by simp [ki] at hr
 | p :: l, h => fun f args res hr => by
  simp only [ki] at hr
  split at hr
  ·rename_i e
   have e : p.1 = f := by simpa using e
   subst e
   exact h p (List.mem_cons_self ..) args res hr
  ·exact Yu (fun q hq => h q (List.mem_cons_of_mem _ hq)) f args res hr
theorem dZ {G : Gt} {P : Program} {E : Env} (h : DP G P (LZ E.cl)) (h2 : ∀ p ∈ E.lb, OA G P p.1 p.2) : DP G P (SL E) := fun f args res hr => by
 unfold SL at hr
 cases hc : LZ E.cl f args with
 | some r => rw [hc] at hr; cases hr; exact h f args _ hc
 | none => rw [hc] at hr; exact Yu h2 f args res hr
theorem kl {G : Gt} {P : Program} {FT : bH} : DP G P (SL ⟨FT, [], []⟩) := dZ (fun f args res h => by simp [LZ] at h) (fun p hp => by cases hp)
theorem Yv {w w' : World} {B : Nat → Prop} (hB : ∀ b, B b → b < w.heap.size) (hb : Below w.heap.size w w') {vs : List Value} (h1 : ∀ v ∈ vs, v.oneCell' = true) : nV w B (fun _ => False) [] ⟨vs.map fun v => .t (.v v), []⟩ (.returned (Yg vs)) w' := by
 obtain ⟨os, tp, ou, sz, fr⟩ := hb
 have hv : ∀ vs : List Value, (∀ v ∈ vs, v.oneCell' = true) → DD w' B (vs.map fun v => .t (.v v)) vs (fun _ => False) := by
  intro vs
  induction vs with
  | nil => intro _; simp only [List.map_nil, DD]; exact ⟨trivial, fun _ h => h⟩
  | cons v vs ih =>
   intro h1
   simp only [List.map_cons, DD]
   exact ⟨v, vs, fun _ => False, fun _ => False, rfl, ⟨by simp only [Ee]; exact ⟨trivial, fun _ h => h⟩, h1 v (List.mem_cons_self ..)⟩, ih fun u hu => h1 u (List.mem_cons_of_mem _ hu), ⟨fun b => by simp, fun b h _ => h⟩⟩
 refine ⟨B, fun _ => False, fun _ => False, vs, ?_⟩
 exact { val := rfl, vals := hv vs h1, after := by simp only [Ad]; exact ⟨trivial, fun _ h => h⟩, dis := fun _ h => h.elim, nr := fun _ h => h.elim, na := fun _ h => h.elim, old := fun _ h => h, sh := fun _ h => .inl h, ownr := fun _ h => h.elim, owna := fun _ h => h.elim,
         inB := fun b hb => Nat.lt_of_lt_of_le (hB b hb) sz, frame := fun b hb _ => fr b hb, size := sz, os := os, tape := tp, output := ou }
theorem Yw {w : World} {B : Nat → Prop} : ∀ {vs us : List Value} {L : Nat → Prop} {ls : List EW}, AV w B (vs.map fun v => .t (.v v)) us L ls → us = vs ∧ (∀ b, ¬ L b) ∧ ls = []
 | [], us, L, ls, h => by simp only [List.map_nil, AV] at h; exact ⟨h.1, h.2.1, h.2.2⟩
 | v :: vs, us, L, ls, h => by
  simp only [List.map_cons, AV] at h
  obtain ⟨u, us', S1, S2, l1, l2, rfl, h1, h2, h3, rfl⟩ := h
  simp only [An, Df] at h1
  obtain ⟨rfl, _, e1, rfl⟩ := h1
  obtain ⟨rfl, e2, rfl⟩ := Yw h2
  exact ⟨rfl, fun b hb => ((h3.1 b).1 hb).elim (e1 b) (e2 b), rfl⟩
theorem MU {G : Gt} {P : Program} {f : FuncId} {g : XW} (hc : No P f = true) (h : ∀ args res, g args = some res → ∃ vs rs : List Value, args = vs.map (fun v => .t (.v v)) ∧ res = ⟨rs.map fun v => .t (.v v), []⟩ ∧ (∀ v ∈ rs, v.oneCell' = true) ∧
  ∀ w B, G.ok B w → Calls P f vs.toArray w fun e w' => e = .returned (Yg rs) ∧ Below w.heap.size w w') : OA G P f g := fun args res hr => by
 refine ⟨hc, fun w B L us ls hA hL hB hG => ?_⟩
 obtain ⟨vs, rs, rfl, rfl, h1, h2⟩ := h args res hr
 obtain ⟨rfl, hE, rfl⟩ := Yw hA
 have hL0 : L = fun _ => False := funext fun b => propext ⟨fun h => hE b h, fun h => h.elim⟩
 subst hL0
 refine Calls.mono (h2 w B hG) ?_
 rintro e w' ⟨rfl, hb⟩
 exact Yv hB hb h1
noncomputable section
variable (FT : Env)
def fin (c : Cx) (s : List V) (r : R) : Option Af :=
 ((bG s c.res M.ret).run (fun _ _ => none) 0 r).bind fun o => if M5 o.2 c.na = c.sh then some { vals := o.1, after := YW o.2 c.na } else none
def un (c : Cx) : List Fr → Ex × St → Option Af
 | [], q => match q.1 with
  | .exit _ => none
  | _ => fin c q.2.s q.2.r
 | .th b :: F, q => (qB FT.ft (SL FT) b q).bind (un c F)
 | .lv id :: F, q => un c F (qC id q)
 | .hk hs :: F, q => (qD hs q).bind (un c F)
def gn (c : Cx) (F : List Fr) (s : List V) (r : R) : Option Af := un FT c F (.normal, ⟨s, r⟩)
def gx (c : Cx) (F : List Fr) (id : Nat) (s : List V) (r : R) : Option Af := un FT c F (.exit id, ⟨s, r⟩)
def gr (c : Cx) (F : List Fr) (s : List V) (r : R) : Option Af := un FT c F (.ret, ⟨s, r⟩)
def ev (c : Cx) (k : K) (F : List Fr) (s : List V) (r : R) : Option Af := (rk FT.ft (SL FT) k ⟨s, r⟩).bind (un FT c F)
theorem xt (c : Cx) (s : List V) (r : R) : gn FT c [] s r = fin c s r := rfl
theorem zw (c : Cx) (b : K) (F : List Fr) (s : List V) (r : R) : gn FT c (.th b :: F) s r = ev FT c b F s r := rfl
theorem zx (c : Cx) (id : Nat) (F : List Fr) (s : List V) (r : R) : gn FT c (.lv id :: F) s r = gn FT c F s r := rfl
theorem zy (c : Cx) (b : K) (F : List Fr) (id : Nat) (s : List V) (r : R) : gx FT c (.th b :: F) id s r = gx FT c F id s r := rfl
theorem zz (c : Cx) (hs : List H) (F : List Fr) (id : Nat) (s : List V) (r : R) : gx FT c (.hk hs :: F) id s r = gx FT c F id s r := rfl
theorem A00 (c : Cx) (j : Nat) (F : List Fr) (id : Nat) (s : List V) (r : R) : gx FT c (.lv j :: F) id s r = if id = j then gn FT c F s r else gx FT c F id s r := by
 simp only [gx, gn, un, qC]; split <;> rfl
theorem xu (c : Cx) (id : Nat) (s : List V) (r : R) : gx FT c [] id s r = none := rfl
theorem A01 (c : Cx) (b : K) (F : List Fr) (s : List V) (r : R) : gr FT c (.th b :: F) s r = gr FT c F s r := rfl
theorem A02 (c : Cx) (hs : List H) (F : List Fr) (s : List V) (r : R) : gr FT c (.hk hs :: F) s r = gr FT c F s r := rfl
theorem A03 (c : Cx) (j : Nat) (F : List Fr) (s : List V) (r : R) : gr FT c (.lv j :: F) s r = gr FT c F s r := rfl
theorem xv (c : Cx) (s : List V) (r : R) : gr FT c [] s r = fin c s r := rfl
def hn (c : Cx) (hs : List H) (F : List Fr) (s : List V) (r : R) : Option Af := (PO hs ⟨s, r⟩).bind fun st => gn FT c F st.s st.r
theorem A04 (c : Cx) (hs : List H) (F : List Fr) (s : List V) (r : R) : gn FT c (.hk hs :: F) s r = hn FT c hs F s r := by
 simp only [gn, un, qD, hn]; cases PO hs ⟨s, r⟩ <;> rfl
theorem xw (c : Cx) (F : List Fr) (s : List V) (r : R) : hn FT c [] F s r = gn FT c F s r := rfl
def io : List Nat → List V → List V
 | [], s => s
 | t :: ts, s => io ts (s.set t .dead)
theorem qG (ts : List Nat) : ∀ s, ts.foldl (fun s t => s.set t V.dead) s = io ts s := by
 induction ts with
 | nil => intro s; rfl
 | cons t ts ih => intro s; exact ih _
theorem uH (c : Cx) (ts : List Nat) (hs : List H) (F : List Fr) (s : List V) (r : R) : hn FT c (.kill ts :: hs) F s r = hn FT c hs F (io ts s) r := by
 simp only [hn, PO, doH, qG, Option.bind_some]
def clS (ts : List Nat) (i : Nat) : List V → List V
 | [] => []
 | v :: vs => Jj ts i v :: clS ts (i + 1) vs
def clR (ts : List Nat) (i : Nat) : R → R
 | [] => []
 | v :: vs => NG ts i v :: clR ts (i + 1) vs
theorem km (ts : List Nat) : ∀ (s : List V) (i : Nat), s.mapIdx (fun j => Jj ts (i + j)) = clS ts i s
 | [], i => rfl
 | v :: vs, i => by
  rw [List.mapIdx_cons]
  simp only [clS, Nat.add_zero]
  congr 1
  rw [← km ts vs (i + 1)]
  congr 1; funext j; rw [show i + (j + 1) = i + 1 + j by omega]
theorem qH (ts : List Nat) : ∀ (s : R) (i : Nat), s.mapIdx (fun j => NG ts (i + j)) = clR ts i s
 | [], i => rfl
 | v :: vs, i => by
  rw [List.mapIdx_cons]
  simp only [clR, Nat.add_zero]
  congr 1
  rw [← qH ts vs (i + 1)]
  congr 1; funext j; rw [show i + (j + 1) = i + 1 + j by omega]
theorem qI (c : Cx) (ts : List Nat) (hs : List H) (F : List Fr) (s : List V) (r : R) : hn FT c (.clean ts :: hs) F s r = hn FT c hs F (clS ts 0 s) (clR ts 0 r) := by
 have h1 := km ts s 0
 have h2 := qH ts r 0
 simp only [Nat.zero_add] at h1 h2
 simp only [hn, PO, doH, Option.bind_some, ← h1, ← h2]
def kn (r : R) : V → Option (V × R)
 | .ref id n => match AJ r id with
  | .mem rows _ fx => if rows.length = n ∧ fx = false then some (.t (.sl false (AU rows)), BZ r id .dead) else none
  | .dead => none
 | .nil => some (.t (.sl false []), r)
 | .t (.sl o rows) => some (.t (.sl o rows), r)
 | .ptr id p i off n _ => if p.isEmpty && (i == 0 && n == 1) then (match AJ r id with
  | .mem [cells] _ fx => if off < cells.length ∧ fx = false then some (.pp ((Fz cells).drop off), BZ r id .dead) else none
  | _ => none) else none
 | _ => none
def A05 (r : R) (id : Id) (off : Nat) : DB → Option (V × R)
 | .mem [cells] _ fx => if off < cells.length ∧ fx = false then some (.pp ((Fz cells).drop off), BZ r id .dead) else none
 | _ => none
theorem qJ (r : R) (id : Id) (off st : Nat) : kn r (.ptr id [] 0 off 1 st) = A05 r id off (AJ r id) := rfl
theorem qK (r : R) (id : Id) (off : Nat) (cells : List T) (st : Nat) (fx : Bool) : A05 r id off (.mem [cells] st fx) = if off < cells.length ∧ fx = false then some (.pp ((Fz cells).drop off), BZ r id .dead) else none := rfl
def xx (r : R) (id : Id) (n : Nat) : DB → Option (V × R)
 | .mem rows _ fx => if rows.length = n ∧ fx = false then some (.t (.sl false (AU rows)), BZ r id .dead) else none
 | .dead => none
theorem ip (r : R) (id : Id) (n : Nat) : kn r (.ref id n) = xx r id n (AJ r id) := by
 simp only [kn]; cases AJ r id <;> rfl
theorem qL (r : R) (id : Id) (n : Nat) (rows : Rows) (st : Nat) (fx : Bool) : xx r id n (.mem rows st fx) = if rows.length = n ∧ fx = false then some (.t (.sl false (AU rows)), BZ r id .dead) else none := rfl
theorem qM (r : R) : kn r .nil = some (.t (.sl false []), r) := rfl
theorem xy (r : R) (o : Bool) (rows : Rows) : kn r (.t (.sl o rows)) = some (.t (.sl o rows), r) := rfl
theorem nh (c : Cx) (t : Nat) (hs : List H) (F : List Fr) (s : List V) (r : R) : hn FT c (.freeze t :: hs) F s r = (kn r (s.getD t .dead)).bind fun q => hn FT c hs F (s.set t q.1) q.2 := by
 simp only [hn, PO, doH]
 generalize s.getD t .dead = v
 cases v <;> try rfl
 ·rename_i q; cases q <;> rfl
 ·rename_i id n
  rw [ip]
  simp only [KJ, M.run]
  cases AJ r id with
  | dead => rfl
  | mem rows st fx =>
   simp only [xx]
   split <;> rfl
 ·rename_i id p i off n st
  simp only [kn, KJ]
  by_cases h : (p.isEmpty && (i == 0 && n == 1)) = true
  ·rw [if_pos h, if_pos h]
   simp only [M.run]
   generalize AJ r id = e
   cases e with
   | dead => rfl
   | mem rows st fx =>
    cases rows with
    | nil => rfl
    | cons cells rest =>
     cases rest with
     | cons _ _ => rfl
     | nil =>
      simp only
      by_cases h2 : off < cells.length ∧ fx = false
      ·rw [if_pos h2, if_pos h2]; rfl
      ·rw [if_neg h2, if_neg h2]; rfl
  ·rw [if_neg h, if_neg h]; rfl
def uI (c : Cx) (t d : Nat) (hs : List H) (F : List Fr) (s : List V) (r : R) : V → Option Af
 | .nil => if d < r.length && (r.getD d []).isEmpty then hn FT c hs F (s.set t (.ref (d, 0) 0)) (r.set d [.mem [] 0 false]) else none
 | .ref _ _ => hn FT c hs F s r
 | _ => none
theorem qN (c : Cx) (t d : Nat) (hs : List H) (F : List Fr) (s : List V) (r : R) : uI FT c t d hs F s r .nil = if d < r.length && (r.getD d []).isEmpty then hn FT c hs F (s.set t (.ref (d, 0) 0)) (r.set d [.mem [] 0 false]) else none := rfl
theorem qO (c : Cx) (t d : Nat) (hs : List H) (F : List Fr) (s : List V) (r : R) (id : Id) (n : Nat) : uI FT c t d hs F s r (.ref id n) = hn FT c hs F s r := rfl
theorem xz (c : Cx) (t d : Nat) (hs : List H) (F : List Fr) (s : List V) (r : R) : hn FT c (.own t d :: hs) F s r = uI FT c t d hs F s r (s.getD t .dead) := by
 simp only [hn, PO, doH]
 generalize s.getD t .dead = v
 cases v <;> try rfl
 simp only [uI]
 split <;> rfl
def qP (c : Cx) (t d : Nat) (id : Id) (n : Nat) (hs : List H) (F : List Fr) (s : List V) (r : R) : DB → List DB → Option Af
 | .mem rows _ false, [.dead] => if rows.length = n ∧ id.1 ≠ d then hn FT c hs F ((clS [id.1, d] 0 s).set t (.ref (d, 0) n)) ((r.set id.1 []).set d [.mem rows 0 false]) else none
 | _, _ => none
def xD (c : Cx) (t d : Nat) (hs : List H) (F : List Fr) (s : List V) (r : R) : V → Option Af
 | .ref id n => qP FT c t d id n hs F s r (AJ r id) (r.getD d [])
 | _ => none
theorem da (c : Cx) (t d : Nat) (hs : List H) (F : List Fr) (s : List V) (r : R) (id : Id) (n : Nat) : xD FT c t d hs F s r (.ref id n) = qP FT c t d id n hs F s r (AJ r id) (r.getD d []) := rfl
theorem db (c : Cx) (t d : Nat) (id : Id) (n : Nat) (hs : List H) (F : List Fr) (s : List V) (r : R) (rows : Rows) (st : Nat) : qP FT c t d id n hs F s r (.mem rows st false) [.dead] = if rows.length = n ∧ id.1 ≠ d then hn FT c hs F ((clS [id.1, d] 0 s).set t (.ref (d, 0) n)) ((r.set id.1 []).set d [.mem rows 0 false]) else none := rfl
theorem uJ (c : Cx) (t d : Nat) (hs : List H) (F : List Fr) (s : List V) (r : R) : hn FT c (.home t d :: hs) F s r = xD FT c t d hs F s r (s.getD t .dead) := by
 simp only [hn, PO, doH]
 generalize s.getD t .dead = v
 cases v <;> try rfl
 rename_i id n
 have h1 := km [id.1, d] s 0
 simp only [Nat.zero_add] at h1
 rw [da]
 simp only
 generalize AJ r id = e
 generalize r.getD d [] = l
 cases e with
 | dead => rfl
 | mem rows st fx =>
  cases fx with
  | true => rfl
  | false =>
   match l with
   | [] => rfl
   | [.dead] =>
    rw [db]
    by_cases hc : rows.length = n ∧ id.1 ≠ d
    ·simp only [if_pos hc, ← h1]; rfl
    ·simp only [if_neg hc]; rfl
   | .mem .. :: _ => rfl
   | .dead :: _ :: _ => rfl
def mp (c : Cx) (d k : Nat) (rows : Rows) (stt : Nat) (fx : Bool) (hs : List H) (F : List Fr) (s : List V) (r : R) : Option T → Option Af
 | some (.sl true rs) => hn FT c hs F s (BZ r (d, 0) (.mem (Ai rows [] 0 k (.sl false (AU rs))) stt fx))
 | some (.sl false _) => hn FT c hs F s r
 | _ => none
def xE (c : Cx) (d k : Nat) (hs : List H) (F : List Fr) (s : List V) (r : R) : DB → Option Af
 | .mem rows stt fx => mp FT c d k rows stt fx hs F s r (B9 rows [] 0 k)
 | _ => none
theorem dc (c : Cx) (d k : Nat) (hs : List H) (F : List Fr) (s : List V) (r : R) (rows : Rows) (stt : Nat) (fx : Bool) : xE FT c d k hs F s r (.mem rows stt fx) = mp FT c d k rows stt fx hs F s r (B9 rows [] 0 k) := rfl
theorem qQ (c : Cx) (d k : Nat) (rows : Rows) (stt : Nat) (fx : Bool) (hs : List H) (F : List Fr) (s : List V) (r : R) (rs : Rows) : mp FT c d k rows stt fx hs F s r (some (.sl true rs)) = hn FT c hs F s (BZ r (d, 0) (.mem (Ai rows [] 0 k (.sl false (AU rs))) stt fx)) := rfl
theorem qR (c : Cx) (d k : Nat) (rows : Rows) (stt : Nat) (fx : Bool) (hs : List H) (F : List Fr) (s : List V) (r : R) (rs : Rows) : mp FT c d k rows stt fx hs F s r (some (.sl false rs)) = hn FT c hs F s r := rfl
theorem uK (c : Cx) (d k : Nat) (hs : List H) (F : List Fr) (s : List V) (r : R) : hn FT c (.frzc d k :: hs) F s r = xE FT c d k hs F s r (AJ r (d, 0)) := by
 simp only [hn, PO, doH]
 generalize AJ r (d, 0) = e
 cases e with
 | dead => rfl
 | mem rows stt fx =>
  simp only [dc]
  generalize B9 rows [] 0 k = o
  match o with
  | none => rfl
  | some (.v x) => rfl
  | some .hole => rfl
  | some (.sl false rs) => rfl
  | some (.sl true rs) => rfl
def qS (c : Cx) (d k : Nat) (rows : Rows) (stt : Nat) (fx : Bool) (hs : List H) (F : List Fr) (s : List V) (r : R) : Option T → Option Af
 | some (.sl true rs) => hn FT c hs F s (BZ r (d, 0) (.mem (Ai rows [] 0 k (.sl true (AU rs))) (stt + 1) fx))
 | _ => none
def xF (c : Cx) (d k : Nat) (hs : List H) (F : List Fr) (s : List V) (r : R) : DB → Option Af
 | .mem rows stt fx => qS FT c d k rows stt fx hs F s r (B9 rows [] 0 k)
 | _ => none
theorem de (c : Cx) (d k : Nat) (hs : List H) (F : List Fr) (s : List V) (r : R) (rows : Rows) (stt : Nat) (fx : Bool) : xF FT c d k hs F s r (.mem rows stt fx) = qS FT c d k rows stt fx hs F s r (B9 rows [] 0 k) := rfl
theorem qT (c : Cx) (d k : Nat) (rows : Rows) (stt : Nat) (fx : Bool) (hs : List H) (F : List Fr) (s : List V) (r : R) (rs : Rows) : qS FT c d k rows stt fx hs F s r (some (.sl true rs)) = hn FT c hs F s (BZ r (d, 0) (.mem (Ai rows [] 0 k (.sl true (AU rs))) (stt + 1) fx)) := rfl
theorem uL (c : Cx) (d k : Nat) (hs : List H) (F : List Fr) (s : List V) (r : R) : hn FT c (.frzb d k :: hs) F s r = xF FT c d k hs F s r (AJ r (d, 0)) := by
 simp only [hn, PO, doH]
 generalize AJ r (d, 0) = e
 cases e with
 | dead => rfl
 | mem rows stt fx =>
  simp only [de]
  generalize B9 rows [] 0 k = o
  match o with
  | none => rfl
  | some (.v x) => rfl
  | some .hole => rfl
  | some (.sl false rs) => rfl
  | some (.sl true rs) => rfl
def xG (c : Cx) (d k : Nat) (hs : List H) (F : List Fr) (s : List V) (r : R) : DB → Option Af
 | .mem rows stt fx => hn FT c hs F s (BZ r (d, k) (.mem (AU rows) (stt + 1) fx))
 | _ => none
theorem ni (c : Cx) (d k : Nat) (hs : List H) (F : List Fr) (s : List V) (r : R) (rows : Rows) (stt : Nat) (fx : Bool) : xG FT c d k hs F s r (.mem rows stt fx) = hn FT c hs F s (BZ r (d, k) (.mem (AU rows) (stt + 1) fx)) := rfl
theorem uM (c : Cx) (d k : Nat) (hs : List H) (F : List Fr) (s : List V) (r : R) : hn FT c (.frzr d k :: hs) F s r = xG FT c d k hs F s r (AJ r (d, k)) := by
 simp only [hn, PO, doH]
 generalize AJ r (d, k) = e
 cases e with
 | dead => rfl
 | mem rows stt fx => rfl
theorem A06 (c : Cx) (hs : List H) (k : K) (F : List Fr) (s : List V) (r : R) : ev FT c (.hp hs k) F s r = hn FT c hs (.th k :: F) s r := by
 simp only [ev, zv, hn, Option.bind_assoc]; rfl
theorem uN (c : Cx) (F : List Fr) (s : List V) (r : R) : ev FT c .skip F s r = gn FT c F s r := by simp only [ev, uC]; rfl
theorem A07 (c : Cx) (id : Nat) (F : List Fr) (s : List V) (r : R) : ev FT c (.ex id) F s r = gx FT c F id s r := by simp only [ev, zu]; rfl
theorem y8 (c : Cx) (F : List Fr) (s : List V) (r : R) : ev FT c .ret F s r = gr FT c F s r := by simp only [ev, xn]; rfl
theorem y9 (c : Cx) (a b : K) (F : List Fr) (s : List V) (r : R) : ev FT c (.seq a b) F s r = ev FT c a (.th b :: F) s r := by simp only [ev, xp, Option.bind_assoc]; rfl
theorem yA (c : Cx) (id : Nat) (b : K) (F : List Fr) (s : List V) (r : R) : ev FT c (.blk id b) F s r = ev FT c b (.lv id :: F) s r := by
 simp only [ev, xq]; cases rk FT.ft (SL FT) b ⟨s, r⟩ <;> rfl
theorem A0m (c : Cx) (hs : List H) (k : K) (F : List Fr) (s : List V) (r : R) : ev FT c (.h hs k) F s r = ev FT c k (.hk hs :: F) s r := by simp only [ev, A0l, Option.bind_assoc]; rfl
theorem AX (c : Cx) (b : K) (F : List Fr) (s : List V) (r : R) : ev FT c (.loop b) F s r = ev FT c b (.th (.loop b) :: F) s r := by
 simp only [ev]; rw [uE, Option.bind_assoc]; rfl
def ck (c : Cx) (v : V) (a b : K) (F : List Fr) (s : List V) (r : R) : Option Af := match v with
 | .t (.v (.bool true)) => ev FT c a F s r
 | .t (.v (.bool false)) => ev FT c b F s r
 | _ => none
theorem uO (c : Cx) (x : CX) (a b : K) (F : List Fr) (s : List V) (r : R) : ev FT c (.cond x a b) F s r = ck FT c (A6 s x) a b F s r := by
 simp only [ev, uD, ck, ckV]; split <;> simp_all
theorem uP (c : Cx) (a b : K) (F : List Fr) (s : List V) (r : R) : ck FT c (.t (.v (.bool true))) a b F s r = ev FT c a F s r := rfl
theorem qU (c : Cx) (a b : K) (F : List Fr) (s : List V) (r : R) : ck FT c (.t (.v (.bool false))) a b F s r = ev FT c b F s r := rfl
def an (c : Cx) (dr : Bool) (d : Option Nat) (es : List IG) (F : List Fr) (s : List V) (q : V × R) : Option Af :=
 ev FT c (.reg dr es) F (match d with | some t => s.set t q.1 | none => s) q.2
def opR (dr : Bool) (d : Nat) (o : O) (rd wr : List Nat) (s : List V) (r : R) : Option (V × R) :=
 if dr then (Ao s d o).runA (dn FT) d rd wr r else (Ao s d o).run (dn FT) d r
theorem yB (c : Cx) (dr : Bool) (F : List Fr) (s : List V) (r : R) : ev FT c (.reg dr []) F s r = gn FT c F s r := by simp only [ev, Tc]; rfl
theorem uQ (c : Cx) (dr : Bool) (t : Nat) (es : List IG) (F : List Fr) (s : List V) (v : V) (r : R) : an FT c dr (some t) es F s (v, r) = ev FT c (.reg dr es) F (s.set t v) r := rfl
theorem uR (c : Cx) (dr : Bool) (es : List IG) (F : List Fr) (s : List V) (v : V) (r : R) : an FT c dr none es F s (v, r) = ev FT c (.reg dr es) F s r := rfl
theorem xH (c : Cx) (dr : Bool) (d : Option Nat) (o : O) (rd wr : List Nat) (es : List IG) (F : List Fr) (s : List V) (r : R) :
  ev FT c (.reg dr (⟨d, none, o, rd, wr⟩ :: es)) F s r = (opR FT dr (d.getD 0) o rd wr s r).bind (an FT c dr d es F s) := by
 simp only [ev, Tc, DC, CY, Et, Option.bind_some, if_true, opR]
 cases dr <;> simp only [if_true, if_false, Bool.false_eq_true]
 ·cases M.run (dn FT) (d.getD 0) (Ao s (d.getD 0) o) r with
  | none => rfl
  | some q => cases d <;> simp [an, ev, Tc, St.put]
 ·cases M.runA (dn FT) (d.getD 0) rd wr (Ao s (d.getD 0) o) r with
  | none => rfl
  | some q => cases d <;> simp [an, ev, Tc, St.put]
def gd (c : Cx) (dr : Bool) (v : V) (w : Bool) (d : Option Nat) (o : O) (rd wr : List Nat) (es : List IG) (F : List Fr) (s : List V) (r : R) : Option Af := match v with
 | .t (.v (.bool b)) => if b == w then (opR FT dr (d.getD 0) o rd wr s r).bind (an FT c dr d es F s) else an FT c dr d es F s (.tup [], r)
 | .tup [] => an FT c dr d es F s (.tup [], r)
 | _ => none
theorem A08 (c : Cx) (dr : Bool) (d : Option Nat) (t : Nat) (w : Bool) (o : O) (rd wr : List Nat) (es : List IG) (F : List Fr) (s : List V) (r : R) :
  ev FT c (.reg dr (⟨d, some (t, w), o, rd, wr⟩ :: es)) F s r = gd FT c dr (s.getD t .dead) w d o rd wr es F s r := by
 have h0 := xH FT c dr d o rd wr es F s r
 simp only [ev, Tc, DC, CY, Et, Option.bind_some, if_true] at h0
 simp only [ev, Tc, DC, CY, Et]
 generalize s.getD t .dead = v
 have hs : (Option.map (fun st' => (Ex.normal, st')) ((some ((⟨s, r⟩ : St).put d (V.tup []))).bind (DC (dn FT) dr es))).bind (un FT c F) = an FT c dr d es F s (.tup [], r) := by
  cases d <;> simp [an, ev, Tc, St.put]
 have e0 : gd FT c dr v w d o rd wr es F s r = (match v with
  | .t (.v (.bool b)) => if b == w then (opR FT dr (d.getD 0) o rd wr s r).bind (an FT c dr d es F s) else an FT c dr d es F s (.tup [], r)
  | .tup [] => an FT c dr d es F s (.tup [], r)
  | _ => none) := rfl
 rw [e0]
 match v with
 | .t (.v (.bool b)) =>
  simp only [Option.bind_some]
  split
  ·rw [← h0]
  ·exact hs
 | .tup [] => exact hs
 | .nil | .agg _ | .ref _ _ | .sub .. | .ptr .. | .pp _ | .fn _ _ | .vb .. | .dead | .tup (_ :: _) => rfl
 | .t .hole | .t (.sl _ _) => rfl
 | .t (.v x) => cases x <;> first | rfl | (simp only [Option.bind_some]; split; (rw [← h0]); exact hs)
theorem uS (c : Cx) (dr : Bool) (w : Bool) (d : Option Nat) (o : O) (rd wr : List Nat) (es : List IG) (F : List Fr) (s : List V) (r : R) :
  gd FT c dr (.tup []) w d o rd wr es F s r = an FT c dr d es F s (.tup [], r) := rfl
theorem A09 (c : Cx) (dr : Bool) (d : Option Nat) (o : O) (rd wr : List Nat) (es : List IG) (F : List Fr) (s : List V) (r : R) :
  gd FT c dr (.t (.v (.bool true))) true d o rd wr es F s r = (opR FT dr (d.getD 0) o rd wr s r).bind (an FT c dr d es F s) := rfl
theorem A0A (c : Cx) (dr : Bool) (d : Option Nat) (o : O) (rd wr : List Nat) (es : List IG) (F : List Fr) (s : List V) (r : R) :
  gd FT c dr (.t (.v (.bool false))) false d o rd wr es F s r = (opR FT dr (d.getD 0) o rd wr s r).bind (an FT c dr d es F s) := rfl
theorem A0B (c : Cx) (dr : Bool) (d : Option Nat) (o : O) (rd wr : List Nat) (es : List IG) (F : List Fr) (s : List V) (r : R) :
  gd FT c dr (.t (.v (.bool true))) false d o rd wr es F s r = an FT c dr d es F s (.tup [], r) := rfl
theorem A0C (c : Cx) (dr : Bool) (d : Option Nat) (o : O) (rd wr : List Nat) (es : List IG) (F : List Fr) (s : List V) (r : R) :
  gd FT c dr (.t (.v (.bool false))) true d o rd wr es F s r = an FT c dr d es F s (.tup [], r) := rfl
theorem A9 {f : FuncId} {fn : F} {args : List Fy} (hf : FT.ft f = some fn) (hx : SL FT f args = none) (hl : args.length ≤ fn.nt) (hc : fn.co = none := by rfl) :
  dn FT f args = ev FT ⟨args.length, M5 (enter fn.nt args).r args.length, fn.res⟩ fn.body [] (enter fn.nt args).s (enter fn.nt args).r := by
 unfold dn
 rw [xr FT.ft (SL FT) hf hx hl hc]
 simp only [ev]
 show (rk FT.ft (SL FT) fn.body (enter fn.nt args)).bind _ = (rk FT.ft (SL FT) fn.body (enter fn.nt args)).bind _
 congr 1
theorem uT {f : FuncId} {fn : F} {k : K2} {args : List Fy} (hf : FT.ft f = some fn) (hx : SL FT f args = none) (hl : args.length ≤ fn.nt) (hc : fn.co = some k) {q : Af}
  (h1 : ev FT ⟨args.length, M5 (enter fn.nt args).r args.length, fn.res⟩ (k.pick true) [] (enter fn.nt args).s (enter fn.nt args).r = some q)
  (h2 : ev FT ⟨args.length, M5 (enter fn.nt args).r args.length, fn.res⟩ (k.pick false) [] (enter fn.nt args).s (enter fn.nt args).r = some q) : dn FT f args = some q := by
 have key : ∀ body : K, ev FT ⟨args.length, M5 (enter fn.nt args).r args.length, fn.res⟩ body [] (enter fn.nt args).s (enter fn.nt args).r = (rk FT.ft (SL FT) body (enter fn.nt args)).bind (uF fn.nt fn.res args) := by
  intro body
  simp only [ev]
  show (rk FT.ft (SL FT) body (enter fn.nt args)).bind _ = (rk FT.ft (SL FT) body (enter fn.nt args)).bind _
  congr 1
 rw [key] at h1 h2
 exact uG FT.ft (SL FT) hf hx hl hc h1 h2
end
end TT
