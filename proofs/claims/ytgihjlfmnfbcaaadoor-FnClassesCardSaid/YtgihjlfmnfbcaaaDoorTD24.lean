import Derived.Test.YtgihjlfmnfbcaaaDoorTDW
import Derived.LoopN
set_option linter.unusedVariables false
set_option linter.unusedSimpArgs false
namespace TT
open Go
section
variable {P : Program} {c : Gc} {w w' : World} {a : Act} {o : Oper} {BJ : Array Oper} {Q : Exit → Act → World → Prop} {call : AC} {es : List Da}
def PY (P : Program) (BJ : Array Oper) : List Da → List Oper → Bool
 | [], [] => true
 | e :: es, o :: os => (Sy P BJ e o || agV P e o) && PY P BJ es os
 | _, _ => false
theorem Iz : ∀ {es : List Da} {os : List Oper}, PY P BJ es os = true → es.length = os.length ∧ ∀ (j : Nat) e, es[j]? = some e → ∃ o, os[j]? = some o ∧ (Sy P BJ e o || agV P e o) = true
 | [], [], h => ⟨rfl, fun j e h => by simp at h⟩
 | [], o :: os, h => by simp [PY] at h
 | e :: es, [], h => by simp [PY] at h
 | e :: es, o :: os, h => by
  simp only [PY] at h
  rw [Bool.and_eq_true] at h
  obtain ⟨h1, h2⟩ := Iz h.2
  refine ⟨by simp [h1], fun j e' hj => ?_⟩
  cases j with
  | zero => simp at hj; subst hj; exact ⟨o, by simp, h.1⟩
  | succ j => obtain ⟨o', g1, g2⟩ := h2 j e' (by simpa using hj); exact ⟨o', by simpa using g1, g2⟩
def agR (P : Program) (draw draw' : Bool) (es : List Da) (BJ : Array Oper) : Bool := draw == draw' && (if draw then PY P BJ es BJ.toList && T8 es BJ es.length 0 (Array.replicate BJ.size false) else PY P BJ es BJ.toList)
theorem Cu.drew {st : St} {a : Act} {w : World} (h : Cu c st a w) : Cu c st a { w with drawn := w.drawn + 1 } := by
 obtain ⟨B, ρ, Sf, hI, hs, hz, hl, hd⟩ := h
 refine ⟨B, ρ, Sf, ?_, ?_, hz, hl, hd⟩
 ·exact hI.world (fun _ _ _ => rfl) (Nat.le_refl _) rfl rfl rfl (fun _ h => h) (fun _ h => .inl h) hI.inB (fun _ h => .inl h) (fun _ h => h.elim) (fun _ h => h.elim)
 ·exact fun t => B5 (w := w) (w' := { w with drawn := w.drawn + 1 }) (fun _ h => h) (fun _ _ => rfl) (fun id rows stt fx hg => ⟨Sf id, (hI.mem hg).1, fun _ _ => rfl⟩) (hs t)
theorem Mr (hS : By c.G P call) (hm : P.follows .mixedOrders = true) {draw draw' : Bool} {id : Nat} (hag : agR P draw draw' es BJ = true) {st st' : St} (h : BZ call draw es st = some st') {a : Act} {w : World} (hs : Cu c st a w) (hK : ∀ a' w', Cu c st' a' w' → Q .normal a' w') :
  (Code.region id BJ draw').wp P Q a w := by
 simp only [agR, Bool.and_eq_true, beq_iff_eq] at hag
 obtain ⟨rfl, h1⟩ := hag
 cases draw with
 | false =>
  simp only [Bool.false_eq_true, if_false] at h1
  obtain ⟨hl, hA⟩ := Iz h1
  have hl' : es.length = BJ.size := by simpa using hl
  refine wp_region ?_
  rw [List.range_eq_range', ← hl']
  exact IV hS es 0 (fun j e hj => by
   rw [Nat.zero_add]
   obtain ⟨o, g1, g2⟩ := hA j e hj
   exact ⟨o, by simpa using g1, g2⟩) h hs hK
 | true =>
  simp only [if_true, Bool.and_eq_true] at h1
  obtain ⟨h1, h2⟩ := h1
  obtain ⟨hl, hA⟩ := Iz h1
  have hA' : ∀ (j : Nat) e, es[j]? = some e → ∃ o, BJ[j]? = some o ∧ (Sy P BJ e o || agV P e o) = true := fun j e hj => by
   obtain ⟨o, g1, g2⟩ := hA j e hj
   exact ⟨o, by simpa using g1, g2⟩
  have hl' : es.length = BJ.size := by simpa using hl
  refine wp_region_any hm ?_
  rw [← hl']
  refine Hs hS hA' hK es.length (OB es 0 (fun j => by simp) ?_ h) hs.drew
  rw [← hl'] at h2
  exact h2
theorem Cu.kill {st : St} {a : Act} {w : World} (h : Cu c st a w) (ts : List Nat) : Cu c { st with s := ts.foldl (fun s t => s.set t .dead) st.s } a w := by
 obtain ⟨B, ρ, Sf, hI, hs, hz, hl, hd⟩ := h
 have key : ∀ (ts : List Nat) (s : List V), Bw w B ρ st.r s a → Bw w B ρ st.r (ts.foldl (fun s t => s.set t .dead) s) a ∧ (ts.foldl (fun s t => s.set t .dead) s).length = s.length := by
  intro ts
  induction ts with
  | nil => exact fun s h => ⟨h, rfl⟩
  | cons t ts ih =>
   intro s h
   have h1 : Bw w B ρ st.r (s.set t .dead) a := by
    intro t'
    by_cases e : t = t'
    ·subst e
     have : (s.set t .dead).getD t .dead = .dead := by
      simp only [List.getD, List.getElem?_set]
      by_cases hl : t < s.length <;> simp [hl]
     rw [this]; simp only [A0]
    ·have : (s.set t .dead).getD t' .dead = s.getD t' .dead := by simp [List.getD, List.getElem?_set, e]
     rw [this]; exact h t'
   obtain ⟨g1, g2⟩ := ih _ h1
   exact ⟨g1, by simpa using g2⟩
 obtain ⟨g1, g2⟩ := key ts st.s hs
 exact ⟨B, ρ, Sf, hI, g1, by rw [hz, g2], by rw [hl, g2], hd⟩
theorem MD {r : R} {id : Id} (h : AD r id) : AS r id (A9 r id) = r := by
 have h1 := SW h
 unfold AD at h
 unfold AS A9
 have e1 : r.getD id.1 [] = r[id.1] := by simp [List.getD, h1]
 have e2 : (r.getD id.1 []).getD id.2 .dead = (r.getD id.1 [])[id.2] := by
  generalize r.getD id.1 [] = l at h ⊢
  simp [List.getD, h]
 rw [e2, List.set_getElem_self, e1, List.set_getElem_self]
theorem Cu.freeze {st : St} {a : Act} {w : World} (h : Cu c st a w) {t : Nat} {x : V × R} (hrun : (EF (st.s.getD t .dead) .ret).run (fun _ _ => none) 0 st.r = some x) : Cu c { s := st.s.set t x.1, r := x.2 } a w := by
 obtain ⟨B, ρ, Sf, hI, hs, hz, hl, hd⟩ := h
 have ht := hs t
 cases hv : st.s.getD t .dead with
 | ref id n =>
  rw [hv] at hrun ht
  simp only [EF, M.run] at hrun
  cases he : A9 st.r id with
  | dead =>
   rw [he] at hrun
   simp only at hrun
   split at hrun
   ·rename_i h0
    simp only [M.run, Option.some.injEq] at hrun
    have hth : AD st.r id := by simp only [A0] at ht; exact ht.1
    have hsame := MD hth
    rw [he] at hsame
    rw [hsame] at hrun
    subst hrun h0
    refine ⟨B, ρ, Sf, hI, ?_, by simpa using hz, by simpa using hl, hd⟩
    intro t'
    by_cases e : t = t'
    ·subst e
     by_cases hlt : t < st.s.length
     ·have : (st.s.set t (.t (.sl false []))).getD t .dead = .t (.sl false []) := by simp [List.getD, hlt]
      rw [this]
      simp only [A0] at ht ⊢
      obtain ⟨_, ⟨q, cap, hu, _, hcm⟩, _⟩ := ht
      rw [hu]
      refine ⟨?_, rfl⟩
      simp only [CF]
      exact ⟨q, cap, rfl, Nat.zero_le _, hcm, .inl trivial⟩
     ·have : (st.s.set t (.t (.sl false []))).getD t .dead = .dead := by simp [List.getD, List.getElem?_set, hlt]
      rw [this]; simp only [A0]
    ·have : (st.s.set t (.t (.sl false []))).getD t' .dead = st.s.getD t' .dead := by simp [List.getD, List.getElem?_set, e]
     rw [this]; exact hs t'
   ·simp [M.run] at hrun
  | mem rows stt fx =>
   rw [he] at hrun
   simp only at hrun
   split at hrun
   ·rename_i hc
    simp only [M.run, Option.some.injEq] at hrun
    subst hrun
    have ht0 := ht
    simp only [A0] at ht
    have hu := (ht.2.2 rows stt fx he).2 hc.1
    have hL := FG (r0 := st.r) hI he
    have hI2 := hL.inv.share (Y := Sf id) (X' := fun _ => False) (fun b hb => .inr hb) (fun b hb => hb.elim) (fun b hb => hb.elim)
    have hcl : ∀ v u, A0 w B ρ st.r v u → A0 w (fun b => B b ∨ Sf id b) ρ (AS st.r id .dead) v u := fun v u hh => B5 (fun _ h => .inl h) (fun _ _ => rfl) (fun j => Cw hL.inv j) (hL.claims v u hh)
    have hf := C8.frz (B := B) (B' := fun b => B b ∨ Sf id b) (fun _ h => .inl h) (t := .sl true rows) (u := a.tmps.getD t undef) (S := Sf id) (fun _ h => .inr h) (Bf.2 ⟨_, _, by rw [hc.1]; exact hu, (hI.mem he).1⟩)
    simp only [TT.frz] at hf
    refine ⟨_, ρ, _, hI2, ?_, by simpa using hz, by rw [AQ]; simpa using hl, hd⟩
    intro t'
    by_cases e : t = t'
    ·subst e
     by_cases hlt : t < st.s.length
     ·have : (st.s.set t (.t (.sl false (AG rows)))).getD t .dead = .t (.sl false (AG rows)) := by simp [List.getD, hlt]
      rw [this]
      simp only [A0]
      exact ⟨hf, by rw [hu]; rfl⟩
     ·have : (st.s.set t (.t (.sl false (AG rows)))).getD t .dead = .dead := by simp [List.getD, List.getElem?_set, hlt]
      rw [this]; simp only [A0]
    ·have : (st.s.set t (.t (.sl false (AG rows)))).getD t' .dead = st.s.getD t' .dead := by simp [List.getD, List.getElem?_set, e]
     rw [this]; exact hcl _ _ (hs t')
   ·simp [M.run] at hrun
 | nil =>
  rw [hv] at hrun ht
  simp only [EF, M.run, Option.some.injEq] at hrun
  subst hrun
  refine ⟨B, ρ, Sf, hI, ?_, by simpa using hz, by simpa using hl, hd⟩
  intro t'
  by_cases e : t = t'
  ·subst e
   by_cases hlt : t < st.s.length
   ·have : (st.s.set t (.t (.sl false []))).getD t .dead = .t (.sl false []) := by simp [List.getD, hlt]
    rw [this]
    simp only [A0] at ht ⊢
    rw [ht]
    refine ⟨?_, rfl⟩
    simp only [CF]
    exact ⟨none, 0, rfl, Nat.le_refl _, by decide, .inl trivial⟩
   ·have : (st.s.set t (.t (.sl false []))).getD t .dead = .dead := by simp [List.getD, List.getElem?_set, hlt]
    rw [this]; simp only [A0]
  ·have : (st.s.set t (.t (.sl false []))).getD t' .dead = st.s.getD t' .dead := by simp [List.getD, List.getElem?_set, e]
   rw [this]; exact hs t'
 | t c =>
  rw [hv] at hrun ht
  cases c <;> try (simp [EF, M.run] at hrun; done)
  simp only [EF, M.run, Option.some.injEq] at hrun
  subst hrun
  refine ⟨B, ρ, Sf, hI, ?_, by simpa using hz, by simpa using hl, hd⟩
  intro t'
  by_cases e : t = t'
  ·subst e
   have : (st.s.set t (st.s.getD t .dead)).getD t .dead = st.s.getD t .dead := by
    by_cases hlt : t < st.s.length <;> simp [List.getD, hlt]
   rw [hv] at this
   show A0 w B ρ st.r ((st.s.set t _).getD t .dead) _
   rw [this]; exact ht
  ·have : ∀ v, (st.s.set t v).getD t' .dead = st.s.getD t' .dead := by intro v; simp [List.getD, List.getElem?_set, e]
   show A0 w B ρ st.r ((st.s.set t _).getD t' .dead) _
   rw [this]; exact hs t'
 | ptr id p i off n st0 =>
  rw [hv] at hrun ht
  simp only [EF] at hrun
  split at hrun
  ·rename_i hcond
   simp only [Bool.and_eq_true, List.isEmpty_iff, beq_iff_eq] at hcond
   obtain ⟨rfl, rfl, rfl⟩ := hcond
   simp only [M.run] at hrun
   split at hrun
   ·rename_i cells stt fx he
    split at hrun
    ·rename_i hc
     simp only [M.run, Option.some.injEq] at hrun
     subst hrun
     simp only [A0] at ht
     obtain ⟨_, ad, hu, hp⟩ := ht
     obtain ⟨_, g2⟩ := (hp _ _ _ he).2.2 (fun _ => rfl) (fun h => absurd rfl h)
     obtain ⟨b, o, ⟨l1, row, l2, l3, l4⟩, rfl⟩ := g2 cells (by simp [Af]) hc.1
     have hL := FG (r0 := st.r) hI he
     have hI2 := hL.inv.share (Y := Sf id) (X' := fun _ => False) (fun b hb => .inr hb) (fun b hb => hb.elim) (fun b hb => hb.elim)
     have hcl : ∀ v u, A0 w B ρ st.r v u → A0 w (fun b => B b ∨ Sf id b) ρ (AS st.r id .dead) v u := fun v u hh => B5 (fun _ h => .inl h) (fun _ _ => rfl) (fun j => Cw hL.inv j) (hL.claims v u hh)
     have hm := (hI.mem he).1
     have hsh : (B b ∨ Sf id b) ∧ E6 w (fun b => B b ∨ Sf id b) b o ((D7 cells).drop off) := by
      rcases hm with ⟨_, _, h, _⟩ | ⟨b', sz, e, cur, S', e1, e2, e3, e4, e5, e6, e7, e8⟩
      ·cases h
      ·rw [l1] at e1
       cases e1
       simp only [Ad] at e8
       obtain ⟨S1, S2, _, h1, _, h3⟩ := e8
       have := E6.drop _ off (DZ.frz (B' := fun b => B b ∨ Sf id b) (fun _ h => .inl h) (fun x hx => .inr (e7.right (h3.left hx))) h1) (by rw [Jy, List.length_map]; omega)
       rw [Nat.zero_add] at this
       rw [l4, Nat.zero_mul, Nat.zero_add]
       exact ⟨.inr (e7.left rfl), this⟩
     refine ⟨_, ρ, _, hI2, ?_, by simpa using hz, by rw [AQ]; simpa using hl, hd⟩
     intro t'
     by_cases e : t = t'
     ·subst e
      by_cases hlt : t < st.s.length
      ·have : (st.s.set t (.pp ((D7 cells).drop off))).getD t .dead = .pp ((D7 cells).drop off) := by simp [List.getD, hlt]
       rw [this]
       simp only [A0]
       exact ⟨_, _, hu, hsh⟩
      ·have : (st.s.set t (.pp ((D7 cells).drop off))).getD t .dead = .dead := by simp [List.getD, List.getElem?_set, hlt]
       rw [this]; simp only [A0]
     ·have : (st.s.set t (.pp ((D7 cells).drop off))).getD t' .dead = st.s.getD t' .dead := by simp [List.getD, List.getElem?_set, e]
      rw [this]; exact hcl _ _ (hs t')
    ·simp [M.run] at hrun
   ·simp [M.run] at hrun
  ·simp [M.run] at hrun
 | _ => rw [hv] at hrun; simp [EF, M.run] at hrun
theorem Cu.own {st st' : St} {a : Act} {w : World} (h : Cu c st a w) {t d : Nat} (hrun : Jz st (.own t d) = some st') : Cu c st' a w := by
 obtain ⟨B, ρ, Sf, hI, hs, hz, hl, hd⟩ := h
 have ht := hs t
 simp only [Jz] at hrun
 split at hrun
 ·rename_i hv
  rw [hv] at ht
  simp only [A0] at ht
  split at hrun
  ·rename_i hc
   simp only [Bool.and_eq_true, decide_eq_true_eq, List.isEmpty_iff] at hc
   cases hrun
   have hE : Ab w B [.mem [] 0 false] [(none, 0)] (fun _ => False) := by
    simp only [Ab]
    exact ⟨[], (none, 0), [], fun _ => False, fun _ => False, rfl, rfl, .inl ⟨rfl, rfl, rfl, fun _ h => h⟩, ⟨rfl, fun _ h => h⟩, ⟨fun b => by simp, fun b (h : False) => h.elim⟩⟩
   obtain ⟨ρ', Sf', k1, k2, k3⟩ := hI.news hc.1 hc.2 hE (fun _ h => h.elim)
   refine ⟨B, ρ', Sf', k1, ?_, by simpa using hz, by simpa using hl, hd⟩
   intro t'
   by_cases e : t = t'
   ·subst e
    by_cases hlt : t < st.s.length
    ·have : (st.s.set t (.ref (d, 0) 0)).getD t .dead = .ref (d, 0) 0 := by simp [List.getD, hlt]
     rw [this, ht]
     exact HF (rows := []) hc.1 hc.2 (by have := k3.1 0 (none, 0) rfl; simpa using this) (Nat.le_refl _) (Nat.zero_le _)
    ·have : (st.s.set t (.ref (d, 0) 0)).getD t .dead = .dead := by simp [List.getD, List.getElem?_set, hlt]
     rw [this]; simp only [A0]
   ·have : (st.s.set t (.ref (d, 0) 0)).getD t' .dead = st.s.getD t' .dead := by simp [List.getD, List.getElem?_set, e]
    rw [this]; exact k2 _ _ (hs t')
  ·cases hrun
 ·cases hrun; exact ⟨B, ρ, Sf, hI, hs, hz, hl, hd⟩
 ·cases hrun
theorem KR (r : R) (ts : List Nat) (t : Nat) : (r.mapIdx (FJ ts)).getD t [] = if ts.contains t then [] else (r.getD t []).map BO.calm := by
 simp only [List.getD, List.getElem?_mapIdx]
 cases h : r[t]? with
 | none => simp
 | some es => simp [FJ]
theorem KS (r : R) (ts : List Nat) (id : Id) : A9 (r.mapIdx (FJ ts)) id = if ts.contains id.1 then .dead else (A9 r id).calm := by
 simp only [A9, KR]
 split
 ·simp
 ·simp only [List.getD, List.getElem?_map]
  cases h : (r[id.1]?.getD [])[id.2]? with
  | none => simp [BO.calm]
  | some e => simp
theorem OC {r : R} {ts : List Nat} {id : Id} (h : AD r id) (ht : ts.contains id.1 = false) : AD (r.mapIdx (FJ ts)) id := by
 unfold AD at h ⊢
 rw [KR, ht]
 simpa using h
theorem ME {r : R} {ts : List Nat} {id : Id} {rows : Rows} {stt : Nat} {fx : Bool} (h : A9 (r.mapIdx (FJ ts)) id = .mem rows stt fx) : ts.contains id.1 = false ∧ stt = 0 ∧ ∃ stt', A9 r id = .mem rows stt' fx := by
 rw [KS] at h
 split at h
 ·cases h
 ·rename_i hc
  refine ⟨by simpa using hc, ?_⟩
  cases he : A9 r id with
  | dead => rw [he] at h; cases h
  | mem rows' stt' fx' =>
   rw [he] at h
   simp only [BO.calm, BO.mem.injEq] at h
   obtain ⟨rfl, rfl, rfl⟩ := h
   exact ⟨rfl, stt', rfl⟩
def Zu (ρ ρ' : Id → CD) (r r' : R) (ts : List Nat) : Prop :=
 ∀ id : Id, ts.contains id.1 = false → (AD r id → AD r' id) ∧ ρ' id = ρ id ∧ ∀ rows stt fx, A9 r' id = .mem rows stt fx → ∃ stt', A9 r id = .mem rows stt' fx
section
variable {B : Nat → Prop} {ρ ρ' : Id → CD} {Sf : Id → Nat → Prop} {X : Nat → Prop} {r r' : R} {ts : List Nat}
mutual
theorem Ms (hO : Zu ρ ρ' r r' ts) : ∀ {v : V} {u : Value}, v.mentions ts = false → A0 w B ρ r v u → A0 w B ρ' r' v u
 | .t c, u, hm, h => by simpa only [A0] using h
 | .nil, u, hm, h => by simpa only [A0] using h
 | .agg cs, u, hm, h => by
  simp only [V.mentions] at hm
  simp only [A0] at h ⊢
  obtain ⟨us, e, h⟩ := h
  exact ⟨us, e, IX hO hm h⟩
 | .ref id n, u, hm, h => by
  simp only [V.mentions] at hm
  simp only [A0] at h ⊢
  obtain ⟨o1, o2, o3⟩ := hO id hm
  refine ⟨o1 h.1, h.2.1, fun rows stt fx hg => ?_⟩
  obtain ⟨stt', hg'⟩ := o3 rows stt fx hg
  rw [o2]
  exact h.2.2 rows stt' fx hg'
 | .sub id p i k n st, u, hm, h => by simp [V.mentions] at hm
 | .ptr id p i off n st, u, hm, h => by
  simp only [V.mentions, Bool.or_eq_false_iff, Bool.not_eq_false'] at hm
  have hp : p = [] := by simpa using hm.1
  subst hp
  simp only [A0] at h ⊢
  obtain ⟨h1, ad, h2, h3⟩ := h
  obtain ⟨o1, o2, o3⟩ := hO id hm.2
  refine ⟨o1 h1, ad, h2, fun rows stt fx hg => ?_⟩
  obtain ⟨stt', hg'⟩ := o3 rows stt fx hg
  obtain ⟨g1, g2, g3⟩ := h3 rows stt' fx hg'
  rw [o2]
  exact ⟨g1, fun h => absurd rfl h, fun e _ => g3 e (fun h => absurd rfl h)⟩
 | .pp cs, u, hm, h => by simpa only [A0] using h
 | .fn f cs, u, hm, h => by
  simp only [V.mentions] at hm
  simp only [A0] at h ⊢
  obtain ⟨us, e, h⟩ := h
  exact ⟨us, e, IX hO hm h⟩
 | .tup cs, u, hm, h => by
  simp only [V.mentions] at hm
  simp only [A0] at h ⊢
  obtain ⟨us, e, h⟩ := h
  exact ⟨us, e, IX hO hm h⟩
 | .vw id lo hi n, u, hm, h => by
  simp only [V.mentions] at hm
  simp only [A0] at h ⊢
  obtain ⟨h1, q, cap, h2, h3, h4, h5, h6⟩ := h
  obtain ⟨o1, o2, o3⟩ := hO id hm
  refine ⟨o1 h1, q, cap, h2, h3, h4, h5, fun rows stt fx hg => ?_⟩
  obtain ⟨stt', hg'⟩ := o3 rows stt fx hg
  rw [o2]
  exact h6 rows stt' fx hg'
 | .dead, u, hm, h => by simp only [A0]
theorem IX (hO : Zu ρ ρ' r r' ts) : ∀ {vs : List V} {us : List Value}, DP ts vs = false → A4 w B ρ r vs us → A4 w B ρ' r' vs us
 | [], us, hm, h => by simpa only [A4] using h
 | v :: vs, us, hm, h => by
  simp only [DP, Bool.or_eq_false_iff] at hm
  simp only [A4] at h ⊢
  obtain ⟨u, us', e, h1, h2⟩ := h
  exact ⟨u, us', e, Ms hO hm.1 h1, IX hO hm.2 h2⟩
end
end
theorem KT (s : List V) (ts : List Nat) (t : Nat) : (s.mapIdx (E9 ts)).getD t .dead = .dead ∨ ((s.mapIdx (E9 ts)).getD t .dead = s.getD t .dead ∧ (s.getD t .dead).mentions ts = false) := by
 simp only [List.getD, List.getElem?_mapIdx]
 cases hh : s[t]? with
 | none => simp
 | some v =>
  simp only [Option.map_some, Option.getD_some, E9]
  split
  ·exact .inl rfl
  ·rename_i hc
   simp only [Bool.or_eq_true, not_or, Bool.not_eq_true] at hc
   exact .inr ⟨rfl, hc.2⟩
theorem Cu.clean {st : St} {a : Act} {w : World} (h : Cu c st a w) (ts : List Nat) : Cu c { s := st.s.mapIdx (E9 ts), r := st.r.mapIdx (FJ ts) } a w := by
 obtain ⟨B, ρ, Sf, hI, hs, hz, hl, hd⟩ := h
 refine ⟨B, ρ, fun id b => ts.contains id.1 = false ∧ Sf id b, ?_, ?_, by simpa using hz, by simpa using hl, hd⟩
 ·refine { hI with ents := fun id => ?_, disj := fun id id' b h h' => hI.disj id id' b h.2 h'.2, nb := fun id b h => hI.nb id b h.2, xd := fun id b h => h.elim, own := fun id b h => hI.own id b h.2 }
  have h1 := hI.ents id
  cases he : A9 (st.r.mapIdx (FJ ts)) id with
  | dead =>
   rw [KS] at he
   split at he
   ·rename_i hc
    intro b hb
    rw [hc] at hb; cases hb.1
   ·cases hr : A9 st.r id with
    | dead => rw [hr] at h1; exact fun b hb => h1 b hb.2
    | mem rows stt fx => rw [hr] at he; cases he
  | mem rows stt fx =>
   obtain ⟨hc, rfl, stt', hg⟩ := ME he
   rw [hg] at h1
   have : (fun b => ts.contains id.1 = false ∧ Sf id b) = Sf id := funext fun b => propext ⟨fun h => h.2, fun h => ⟨hc, h⟩⟩
   rw [this]
   exact h1
 ·intro t
  have hg := KT st.s ts t
  rcases hg with hg | ⟨hg, hm⟩
  ·rw [hg]; simp only [A0]
  ·rw [hg]; exact Ms (fun id hc => ⟨fun h => OC h hc, rfl, fun rows stt fx h => (ME h).2.2⟩) hm (hs t)
theorem Cu.home {st st' : St} {a : Act} {w : World} (h : Cu c st a w) {t d : Nat} (hrun : Jz st (.home t d) = some st') : Cu c st' a w := by
 obtain ⟨B, ρ, Sf, hI, hs, hz, hl, hd⟩ := h
 have ht := hs t
 simp only [Jz] at hrun
 split at hrun
 case h_2 => cases hrun
 rename_i id n hv
 rw [hv] at ht
 simp only [A0] at ht
 split at hrun
 case h_2 => cases hrun
 rename_i rows stt he hdd
 split at hrun
 case isFalse => cases hrun
 rename_i hc
 obtain ⟨hn, hne⟩ := hc
 cases hrun
 have hdl : d < st.r.length := by
  rcases Nat.lt_or_ge d st.r.length with h | h
  ·exact h
  ·simp [List.getD, List.getElem?_eq_none h] at hdd
 have gd : ∀ j, ((st.r.set id.1 []).set d [.mem rows 0 false]).getD j [] = if j = d then [.mem rows 0 false] else if j = id.1 then [] else st.r.getD j [] := fun j => by
  simp only [List.getD, List.getElem?_set, List.length_set]
  by_cases e : d = j
  ·subst e; simp [hdl]
  ·rw [if_neg e, if_neg (Ne.symm e)]
   by_cases e' : id.1 = j
   ·subst e'
    by_cases hx : id.1 < st.r.length <;> simp [hx]
   ·rw [if_neg e', if_neg (Ne.symm e')]
 have ge : ∀ j : Id, A9 ((st.r.set id.1 []).set d [.mem rows 0 false]) j = if j = (d, 0) then .mem rows 0 false else if j.1 = id.1 then .dead else A9 st.r j := fun j => by
  obtain ⟨j1, j2⟩ := j
  simp only [A9, gd]
  by_cases e : j1 = d
  ·subst e
   rw [if_pos rfl, if_neg (show ¬ j1 = id.1 from fun e => hne e.symm), hdd]
   cases j2 with
   | zero => simp
   | succ k => simp [List.getD]
  ·rw [if_neg e, if_neg (show ¬ ((j1, j2) : Id) = (d, 0) from fun h => e (congrArg Prod.fst h))]
   by_cases e' : j1 = id.1
   ·rw [if_pos e', if_pos e']; simp [List.getD]
   ·rw [if_neg e', if_neg e']
 refine ⟨B, fun j => if j = (d, 0) then ρ id else ρ j, fun j b => (j = (d, 0) ∧ Sf id b) ∨ (j ≠ (d, 0) ∧ j.1 ≠ id.1 ∧ Sf j b), ?_, ?_, by simpa using hz, by simpa using hl, hd⟩
 ·refine { hI with ents := fun j => ?_, disj := fun j j' b h h' => ?_, nb := fun j b h => ?_, xd := fun j b h => h.elim, own := fun j b h => ?_ }
  ·rw [ge]
   by_cases e : j = (d, 0)
   ·rw [if_pos e]
    have e2 : (fun b => (j = (d, 0) ∧ Sf id b) ∨ (j ≠ (d, 0) ∧ j.1 ≠ id.1 ∧ Sf j b)) = Sf id := funext fun b => propext ⟨fun h => h.elim (·.2) (fun h => absurd e h.1), fun h => .inl ⟨e, h⟩⟩
    rw [e2]
    simp only [Eo, if_pos e]
    exact ⟨(hI.mem he).1, fun h => by cases h⟩
   ·rw [if_neg e]
    by_cases e' : j.1 = id.1
    ·rw [if_pos e']
     intro b hb
     rcases hb with h | h
     ·exact e h.1
     ·exact h.2.1 e'
    ·rw [if_neg e']
     have e2 : (fun b => (j = (d, 0) ∧ Sf id b) ∨ (j ≠ (d, 0) ∧ j.1 ≠ id.1 ∧ Sf j b)) = Sf j := funext fun b => propext ⟨fun h => h.elim (fun h => absurd h.1 e) (·.2.2), fun h => .inr ⟨e, e', h⟩⟩
     rw [e2]
     have := hI.ents j
     cases hg : A9 st.r j with
     | dead => rw [hg] at this; exact this
     | mem rows' stt' fx' =>
      rw [hg] at this
      simp only [Eo, if_neg e] at this ⊢
      exact this
  ·rcases h with ⟨e, h⟩ | ⟨e, e1, h⟩ <;> rcases h' with ⟨e', h'⟩ | ⟨e', e1', h'⟩
   ·rw [e, e']
   ·exact absurd (congrArg Prod.fst (hI.disj _ _ _ h h')).symm e1'
   ·exact absurd (congrArg Prod.fst (hI.disj _ _ _ h h')) e1
   ·exact hI.disj _ _ _ h h'
  ·rcases h with ⟨e, h⟩ | ⟨e, e1, h⟩ <;> exact hI.nb _ _ h
  ·rcases h with ⟨e, h⟩ | ⟨e, e1, h⟩ <;> exact hI.own _ _ h
 ·intro t'
  by_cases e : t = t'
  ·subst e
   by_cases hlt : t < st.s.length
   ·have e1 : ((st.s.mapIdx (E9 [id.1, d])).set t (.ref (d, 0) n)).getD t .dead = .ref (d, 0) n := by simp [List.getD, hlt]
    rw [e1]
    simp only [A0]
    refine ⟨?_, ht.2.1, fun rows' stt' fx' hg => ?_⟩
    ·unfold AD
     rw [gd, if_pos rfl]
     exact Nat.lt_succ_self 0
    ·rw [ge, if_pos rfl] at hg
     cases hg
     simp only [if_true]
     exact ht.2.2 rows stt false he
   ·have e1 : ((st.s.mapIdx (E9 [id.1, d])).set t (.ref (d, 0) n)).getD t .dead = .dead := by simp [List.getD, List.getElem?_set, hlt]
    rw [e1]; simp only [A0]
  ·have e1 : ((st.s.mapIdx (E9 [id.1, d])).set t (.ref (d, 0) n)).getD t' .dead = (st.s.mapIdx (E9 [id.1, d])).getD t' .dead := by simp [List.getD, List.getElem?_set, e]
   rw [e1]
   rcases KT st.s [id.1, d] t' with hg | ⟨hg, hm⟩
   ·rw [hg]; simp only [A0]
   ·rw [hg]
    refine Ms (fun j hj => ?_) hm (hs t')
    simp only [List.contains_cons, List.contains_nil, Bool.or_false, Bool.or_eq_false_iff, beq_eq_false_iff_ne] at hj
    have hj0 : ¬ j = (d, 0) := fun h => hj.2 (congrArg Prod.fst h)
    refine ⟨fun h => ?_, by show (if j = (d, 0) then ρ id else ρ j) = ρ j; rw [if_neg hj0], fun rows' stt' fx' hg => ?_⟩
    ·unfold AD at h ⊢
     rw [gd, if_neg hj.2, if_neg hj.1]; exact h
    ·rw [ge, if_neg hj0, if_neg hj.1] at hg
     exact ⟨_, hg⟩
theorem Cu.frzc {st st' : St} {a : Act} {w : World} (h : Cu c st a w) {d k : Nat} (hrun : Jz st (.frzc d k) = some st') : Cu c st' a w := by
 obtain ⟨B, ρ, Sf, hI, hs, hz, hl, hd⟩ := h
 simp only [Jz] at hrun
 split at hrun
 case h_2 => cases hrun
 rename_i rows stt fx he
 split at hrun
 case h_3 => cases hrun
 case h_2 => cases hrun; exact ⟨B, ρ, Sf, hI, hs, hz, hl, hd⟩
 rename_i rs hg
 cases hrun
 obtain ⟨hm1, hm2⟩ := hI.mem he
 have hth : AD st.r (d, 0) := Ar (by rw [he]; simp)
 obtain ⟨b', o', u', T1, T2, m1, m2, m3, m4, m5, m6, m7⟩ := hI.hole he hg
 have hI2 := m6.share (Y := T1) (X' := fun _ => False) (fun b hb => .inr hb) (fun b hb => hb.elim) (fun b hb => hb.elim)
 have he1 := A5 hth (.mem (AO rows [] 0 k .hole) stt fx)
 have hg1 : AX (AO rows [] 0 k .hole) [] 0 k = some .hole := Dd hg
 obtain ⟨hm1', hm2'⟩ := hI2.mem he1
 obtain ⟨b, o, cur, e, u, S1, S2, l1, l2, l3, l4, l5, l6, l7, l8⟩ := C7.lens [] hm1' hg1
 obtain ⟨rfl, rfl⟩ := AM.unique [] l1 (AM.put (w' := w) [] hm1 hg m1 (fun _ _ _ => rfl)).1
 rw [l2.cell _, l3] at m2
 simp only [Option.some.injEq] at m2
 subst m2
 have hf := C8.frz (B := B) (B' := fun b => B b ∨ T1 b) (fun _ h => .inl h) (t := .sl true rs) (u := u) (S := T1) (fun _ h => .inr h) m4
 simp only [TT.frz] at hf
 have hnew := l8 w (fun b => B b ∨ T1 b) (.sl false (AG rs)) u (fun _ => False) (fun _ h => h) (fun _ _ => rfl) (fun _ _ _ => rfl) (by rw [IE l3]; exact l2) l4 (by simp only [C8]; exact ⟨hf, fun _ h => h⟩) (fun _ h => h.elim)
 have hI3 := hI2.put ((C9 _).2 hth) (stt' := stt) (fx' := fx) (X' := fun _ => False) hnew (fun b hb => .inr (hb.elim False.elim l6.right)) (fun b h => h) (fun b h => h.elim) (fun hx => ⟨(hm2 hx).1, by rw [AJ, AJ]; exact (hm2 hx).2⟩)
 have hss : AO (AO rows [] 0 k .hole) [] 0 k (.sl false (AG rs)) = AO rows [] 0 k (.sl false (AG rs)) := by
  simp only [AO, CC]
  cases hr : rows[0]? with
  | none => simp [hr]
  | some row =>
   have hlt := (List.getElem?_eq_some_iff.1 hr).1
   simp [hlt]
 rw [HG, hss] at hI3
 refine ⟨_, ρ, _, hI3, ?_, hz, by rw [AQ]; exact hl, hd⟩
 intro t
 exact JH he rfl (B5 (fun _ h => .inl h) (fun _ _ => rfl) (fun j => Cw hI j) (hs t))
theorem C8.frzo {B' : Nat → Prop} {t : T} {u : Value} (h : CF w B' (TT.frz t) u) : C8 w B' (TT.frz t) u (fun _ => False) := by
 cases t with
 | v x => simp only [TT.frz, CF, C8] at h ⊢; exact ⟨h, fun _ h => h⟩
 | sl o rows => simp only [TT.frz] at h ⊢; simp only [C8]; exact ⟨h, fun _ h => h⟩
 | hole => simp only [TT.frz, C8]; exact fun _ h => h
theorem DZ.frzo {B' : Nat → Prop} : ∀ {b o : Nat} {ts : List T}, E6 w B' b o (D7 ts) → DZ w B' b o (D7 ts) (fun _ => False)
 | b, o, [], h => by simp only [D7, DZ]; exact fun _ h => h
 | b, o, t :: ts, h => by
  simp only [D7, E6] at h
  obtain ⟨⟨u, h1, h0, h2⟩, h3⟩ := h
  simp only [D7, DZ]
  exact ⟨u, _, _, h1, h0, C8.frzo h2, DZ.frzo h3, ⟨fun b => by simp, fun _ h => False.elim h⟩⟩
theorem Ad.frzo {B' : Nat → Prop} : ∀ {b o sz : Nat} {rs : List (List T)}, Ae w B' b o sz (AG rs) → Ad w B' b o sz (AG rs) (fun _ => False)
 | b, o, sz, [], h => by simp only [AG, Ad]; exact fun _ h => h
 | b, o, sz, r :: rs, h => by
  simp only [AG, Ae] at h
  simp only [AG, Ad]
  exact ⟨_, _, h.1, DZ.frzo h.2.1, Ad.frzo h.2.2, ⟨fun b => by simp, fun _ h => False.elim h⟩⟩
theorem Cu.frzr {st st' : St} {a : Act} {w : World} (h : Cu c st a w) {d k : Nat} (hrun : Jz st (.frzr d k) = some st') : Cu c st' a w := by
 obtain ⟨B, ρ, Sf, hI, hs, hz, hl, hd⟩ := h
 simp only [Jz] at hrun
 split at hrun
 case h_2 => cases hrun
 rename_i rows stt fx he
 cases hrun
 obtain ⟨hm1, hm2⟩ := hI.mem he
 have hth : AD st.r (d, k) := Ar (by rw [he]; simp)
 have hlen : (AG rows).length = rows.length := by simp [Ge]
 have hrow : ∀ (i : Nat) (row' : List T), (AG rows)[i]? = some row' → ∃ row : List T, rows[i]? = some row ∧ row.length = row'.length := by
  intro i row' h
  rw [Ge, List.getElem?_map] at h
  obtain ⟨row, h1, h2⟩ := Option.map_eq_some_iff.1 h
  exact ⟨row, h1, by rw [← h2]; simp⟩
 obtain ⟨g1, _⟩ := hI.gone he (e := .dead) rfl
 obtain ⟨Y, S', hY, hS', hYS, hO⟩ : ∃ Y S' : Nat → Prop, (∀ b, Y b → Sf (d, k) b) ∧ (∀ b, S' b → Sf (d, k) b) ∧ (∀ b, S' b → ¬ Y b) ∧ C7 w (fun b => B b ∨ Y b) (ρ (d, k)).1 (ρ (d, k)).2 (AG rows) S' := by
  rcases hm1 with ⟨h1, h2, h3, h4⟩ | ⟨b, sz, e, cur, S', h3, h4, h5, h6, h7, h8, h9, h10⟩
  ·refine ⟨fun _ => False, fun _ => False, fun _ h => h.elim, fun _ h => h.elim, fun _ h => h.elim, .inl ⟨h1, h2, by rw [h3]; rfl, fun _ h => h⟩⟩
  ·refine ⟨S', (· = b), fun _ h => h9.right h, fun _ h => h9.left h, fun x h => h9.2 x h, .inr ⟨b, sz, e, cur, fun _ => False, h3, h4, ⟨by rw [hlen]; exact h5.1, fun h => h5.2 (List.length_eq_zero_iff.1 (by rw [← hlen, h]; rfl))⟩, h6, h7, h8, ⟨fun b => by simp, fun _ _ h => h⟩, ?_⟩⟩
   exact Ad.frzo (Ad.frz (fun _ h => .inl h) (fun x hx => .inr hx) h10)
 have g2 := g1.share (Y := Y) (X' := S') (fun b hb => .inr (hY b hb)) (fun b hb => .inr (hS' b hb)) hYS
 have g3 := g2.put ((C9 _).2 hth) (stt' := stt + 1) (fx' := fx) (X' := fun _ => False) hO (fun b hb => .inl hb) (fun b hb => hb.elim) (fun b hb => hb.elim) (fun hx => ⟨(hm2 hx).1, by rw [hlen]; exact (hm2 hx).2⟩)
 rw [HG] at g3
 refine ⟨_, ρ, _, g3, ?_, hz, by rw [AQ]; exact hl, hd⟩
 intro t
 exact DQ he hlen hrow (Nat.lt_succ_self _) (fun _ h => .inl h) (fun _ _ => rfl) (fun id _ => Cw hI id) (hs t)
theorem Cu.frzb {st st' : St} {a : Act} {w : World} (h : Cu c st a w) {d k : Nat} (hrun : Jz st (.frzb d k) = some st') : Cu c st' a w := by
 obtain ⟨B, ρ, Sf, hI, hs, hz, hl, hd⟩ := h
 simp only [Jz] at hrun
 split at hrun
 case h_2 => cases hrun
 rename_i rows stt fx he
 split at hrun
 case h_2 => cases hrun
 rename_i rs hg
 cases hrun
 obtain ⟨hm1, hm2⟩ := hI.mem he
 have hth : AD st.r (d, 0) := Ar (by rw [he]; simp)
 obtain ⟨b', o', u', T1, T2, m1, m2, m3, m4, m5, m6, m7⟩ := hI.hole he hg
 obtain ⟨q, cap, e0, hm4⟩ := Bf.1 m4
 have hlen : (AG rs).length = rs.length := by simp [Ge]
 obtain ⟨Y, S', hY, hS', hYS, hO⟩ : ∃ Y S' : Nat → Prop, (∀ b, Y b → T1 b) ∧ (∀ b, S' b → T1 b) ∧ (∀ b, S' b → ¬ Y b) ∧ C7 w (fun b => B b ∨ Y b) q cap (AG rs) S' := by
  rcases hm4 with ⟨h1, h2, h3, h4⟩ | ⟨b, sz, e, cur, S', h3, h4, h5, h6, h7, h8, h9, h10⟩
  ·refine ⟨fun _ => False, fun _ => False, fun _ h => h.elim, fun _ h => h.elim, fun _ h => h.elim, .inl ⟨h1, h2, by rw [h3]; rfl, fun _ h => h⟩⟩
  ·refine ⟨S', (· = b), fun _ h => h9.right h, fun _ h => h9.left h, fun x h => h9.2 x h, .inr ⟨b, sz, e, cur, fun _ => False, h3, h4, ⟨by rw [hlen]; exact h5.1, fun h => h5.2 (List.length_eq_zero_iff.1 (by rw [← hlen, h]; rfl))⟩, h6, h7, h8, ⟨fun b => by simp, fun _ _ h => h⟩, ?_⟩⟩
   exact Ad.frzo (Ad.frz (fun _ h => .inl h) (fun x hx => .inr hx) h10)
 have hI2 := m6.share (Y := Y) (X' := S') (fun b hb => .inr (hY b hb)) (fun b hb => .inr (hS' b hb)) hYS
 have he1 := A5 hth (.mem (AO rows [] 0 k .hole) stt fx)
 have hg1 : AX (AO rows [] 0 k .hole) [] 0 k = some .hole := Dd hg
 obtain ⟨hm1', hm2'⟩ := hI2.mem he1
 obtain ⟨b, o, cur, e, u, S1, S2, l1, l2, l3, l4, l5, l6, l7, l8⟩ := C7.lens [] hm1' hg1
 obtain ⟨rfl, rfl⟩ := AM.unique [] l1 (AM.put (w' := w) [] hm1 hg m1 (fun _ _ _ => rfl)).1
 rw [l2.cell _, l3] at m2
 simp only [Option.some.injEq] at m2
 subst m2
 have hnew := l8 w (fun b => B b ∨ Y b) (.sl true (AG rs)) u S' (fun _ h => h) (fun _ _ => rfl) (fun _ _ _ => rfl) (by rw [IE l3]; exact l2) l4 (Bf.2 ⟨q, cap, by rw [e0, hlen], hO⟩) (fun x hx h2 => m5.2 x (hS' x hx) ((l6.right h2).elim (fun h => absurd rfl h.1) (fun h => h.2)))
 have hI3 := hI2.put ((C9 _).2 hth) (stt' := stt + 1) (fx' := fx) (X' := fun _ => False) hnew (fun b hb => hb.elim .inl (fun h => .inr (l6.right h))) (fun b h => h.elim) (fun b h => h.elim) (fun hx => ⟨(hm2 hx).1, by rw [AJ, AJ]; exact (hm2 hx).2⟩)
 have hss : AO (AO rows [] 0 k .hole) [] 0 k (.sl true (AG rs)) = AO rows [] 0 k (.sl true (AG rs)) := by
  simp only [AO, CC]
  cases hr : rows[0]? with
  | none => simp [hr]
  | some row =>
   have hlt := (List.getElem?_eq_some_iff.1 hr).1
   simp [hlt]
 rw [HG, hss] at hI3
 refine ⟨_, ρ, _, hI3, ?_, hz, by rw [AQ]; exact hl, hd⟩
 intro t
 exact DQ he (AJ _ _ _ _ _) Iw (Nat.lt_succ_self _) (fun _ h => .inl h) (fun _ _ => rfl) (fun id _ => Cw hI id) (hs t)
theorem Cu.hs : ∀ {hs : List H} {st st' : St} {a : Act} {w : World}, Fs hs st = some st' → Cu c st a w → Cu c st' a w
 | [], st, st', a, w, h, hsim => by
  simp only [Fs, Option.some.injEq] at h
  subst h; exact hsim
 | x :: hs, st, st', a, w, h, hsim => by
  simp only [Fs] at h
  obtain ⟨st1, h1, h2⟩ := Option.bind_eq_some_iff.1 h
  refine Cu.hs h2 ?_
  cases x with
  | kill ts => simp only [Jz, Option.some.injEq] at h1; subst h1; exact hsim.kill ts
  | clean ts => simp only [Jz, Option.some.injEq] at h1; subst h1; exact hsim.clean ts
  | freeze t =>
   simp only [Jz] at h1
   obtain ⟨q, g1, g2⟩ := Option.map_eq_some_iff.1 h1
   subst g2
   exact hsim.freeze g1
  | own t d => exact hsim.own h1
  | home t d => exact hsim.home h1
  | frzc d k => exact hsim.frzc h1
  | frzr d k => exact hsim.frzr h1
  | frzb d k => exact hsim.frzb h1
  | opn d =>
   simp only [Jz] at h1
   split at h1
   ·injection h1 with h1; subst h1; exact hsim
   ·cases h1
def IY (P : Program) : K → Code → Bool
 | .skip, .skip => true
 | .reg draw es, .region _ BJ draw' => agR P draw draw' es BJ
 | .seq a b, .seq a' b' => IY P a a' && IY P b b'
 | .cond x a b, .cond x' a' b' => CV x x' && IY P a a' && IY P b b'
 | .blk id b, .block id' b' => id == id' && IY P b b'
 | .loop b, .loop b' => IY P b b'
 | .ex id, .exit id' => id == id'
 | .ret, .ret => true
 | .h _ k, k' => IY P k k'
 | .hp _ k, k' => IY P k k'
 | _, _ => false
def LQ : Ex → Exit
 | .normal => .normal
 | .exit id => .exit id
 | .ret => .ret
theorem B7 (hS : By c.G P call) (hm : P.follows .mixedOrders = true) {lf : Nat} : ∀ {k : K} {code : Code} {st : St} {q : Ex × St} {a : Act} {w : World} {Q : Exit → Act → World → Prop}, IY P k code = true → Ao call lf k st = some q → Cu c st a w → (∀ a' w', Cu c q.2 a' w' → Q (LQ q.1) a' w') → code.wp P Q a w
 | .h hs k, code, st, q, a, w, Q, hag, hrun, hsim, hK => by
  have hag' : IY P k code = true := by cases code <;> simpa only [IY] using hag
  simp only [Ao] at hrun
  obtain ⟨q1, h1, h2⟩ := Option.bind_eq_some_iff.1 hrun
  refine B7 hS hm hag' h1 hsim fun a' w' hs' => ?_
  obtain ⟨e1, s1⟩ := q1
  cases e1 with
  | normal =>
   simp only at h2
   obtain ⟨st', g1, g2⟩ := Option.map_eq_some_iff.1 h2
   subst g2
   exact hK a' w' (Cu.hs g1 hs')
  | exit id => simp only [Option.some.injEq] at h2; subst h2; exact hK a' w' hs'
  | ret => simp only [Option.some.injEq] at h2; subst h2; exact hK a' w' hs'
 | .hp hs k, code, st, q, a, w, Q, hag, hrun, hsim, hK => by
  have hag' : IY P k code = true := by cases code <;> simpa only [IY] using hag
  simp only [Ao] at hrun
  obtain ⟨st1, h1, h2⟩ := Option.bind_eq_some_iff.1 hrun
  exact B7 hS hm hag' h2 (Cu.hs h1 hsim) hK
 | .skip, code, st, q, a, w, Q, hag, hrun, hsim, hK => by
  cases code <;> simp only [IY] at hag <;> try (cases hag; done)
  simp only [Ao, Option.some.injEq] at hrun
  subst hrun
  exact wp_skip (hK a w hsim)
 | .reg draw es, code, st, q, a, w, Q, hag, hrun, hsim, hK => by
  cases code <;> simp only [IY] at hag <;> try (cases hag; done)
  simp only [Ao] at hrun
  obtain ⟨st', g1, g2⟩ := Option.map_eq_some_iff.1 hrun
  subst g2
  exact Mr hS hm hag g1 hsim hK
 | .seq x y, code, st, q, a, w, Q, hag, hrun, hsim, hK => by
  cases code <;> simp only [IY] at hag <;> try (cases hag; done)
  simp only [Bool.and_eq_true] at hag
  simp only [Ao] at hrun
  obtain ⟨q1, h1, h2⟩ := Option.bind_eq_some_iff.1 hrun
  refine wp_seq (B7 hS hm hag.1 h1 hsim fun a' w' hs' => ?_)
  obtain ⟨e1, s1⟩ := q1
  cases e1 with
  | normal => exact B7 hS hm hag.2 h2 hs' hK
  | exit id => simp only [Option.some.injEq] at h2; subst h2; exact hK a' w' hs'
  | ret => simp only [Option.some.injEq] at h2; subst h2; exact hK a' w' hs'
 | .cond x y z, code, st, q, a, w, Q, hag, hrun, hsim, hK => by
  cases code <;> simp only [IY] at hag <;> try (cases hag; done)
  simp only [Bool.and_eq_true] at hag
  obtain ⟨⟨h1, h2⟩, h3⟩ := hag
  obtain ⟨B, ρ, Sf, hI, hs, hz, hl, hd⟩ := hsim
  have hx := hs.eval h1
  simp only [Ao] at hrun
  split at hrun
  ·rename_i he
   rw [he] at hx
   exact wp_cond_true (Aq hx).1 (B7 hS hm h2 hrun ⟨B, ρ, Sf, hI, hs, hz, hl, hd⟩ hK)
  ·rename_i he
   rw [he] at hx
   exact wp_cond_false (Aq hx).1 (B7 hS hm h3 hrun ⟨B, ρ, Sf, hI, hs, hz, hl, hd⟩ hK)
  ·cases hrun
 | .blk id b, code, st, q, a, w, Q, hag, hrun, hsim, hK => by
  cases code <;> simp only [IY] at hag <;> try (cases hag; done)
  simp only [Bool.and_eq_true, beq_iff_eq] at hag
  obtain ⟨rfl, hag⟩ := hag
  simp only [Ao] at hrun
  obtain ⟨q1, h1, h2⟩ := Option.map_eq_some_iff.1 hrun
  refine wp_block (B7 hS hm hag h1 hsim fun a' w' hs' => ?_)
  obtain ⟨e1, s1⟩ := q1
  cases e1 with
  | normal => simp only at h2; subst h2; exact hK a' w' hs'
  | exit j =>
   simp only at h2
   simp only [LQ, Exit.inBlock]
   by_cases hj : j = id
   ·rw [if_pos hj] at h2 ⊢; subst h2; exact hK a' w' hs'
   ·rw [if_neg hj] at h2 ⊢; subst h2; exact hK a' w' hs'
  | ret => simp only at h2; subst h2; exact hK a' w' hs'
 | .loop b, code, st, q, a, w, Q, hag, hrun, hsim, hK => by
  cases code <;> simp only [IY] at hag <;> try (cases hag; done)
  rename_i cb
  simp only [Ao] at hrun
  refine wp_loop_rounds lf ?_
  have key : ∀ (n : Nat) {st : St} {a : Act} {w : World}, Is (fun st => Ao call lf b st) n st = some q → Cu c st a w → Code.rounds P cb Q n a w := by
   intro n
   induction n with
   | zero => intro st a w h _; simp [Is] at h
   | succ n ih =>
    intro st a w h hs
    simp only [Is] at h
    obtain ⟨q1, h1, h2⟩ := Option.bind_eq_some_iff.1 h
    rw [rounds_succ]
    refine B7 hS hm hag h1 hs fun a' w' hs' => ?_
    obtain ⟨e1, s1⟩ := q1
    cases e1 with
    | normal => exact ih h2 hs'
    | exit id => simp only [Option.some.injEq] at h2; subst h2; exact hK a' w' hs'
    | ret => simp only [Option.some.injEq] at h2; subst h2; exact hK a' w' hs'
  exact key lf hrun hsim
 | .ex id, code, st, q, a, w, Q, hag, hrun, hsim, hK => by
  cases code <;> simp only [IY] at hag <;> try (cases hag; done)
  simp only [beq_iff_eq] at hag
  subst hag
  simp only [Ao, Option.some.injEq] at hrun
  subst hrun
  exact wp_exit (hK a w hsim)
 | .ret, code, st, q, a, w, Q, hag, hrun, hsim, hK => by
  cases code <;> simp only [IY] at hag <;> try (cases hag; done)
  simp only [Ao, Option.some.injEq] at hrun
  subst hrun
  exact wp_ret (hK a w hsim)
def PZ (P : Program) (t u : Nat) (BJ : Array Oper) : Bool := match BJ.toList with
 | [o0, o1, o2, o3] => Sy P BJ (oo t (.alloc [.v (.bool false)])) o0 && Sy P BJ (on (.st 1 (.s t) (.c (.bool true)))) o1 && Sy P BJ (on (.st 1 (.s t) (.c (.bool false)))) o2 && Sy P BJ (oo u (.ld 1 false (.s t))) o3 &&
  (Region.ready .any BJ #[false, false, false, false] == [0] && Region.ready .any BJ #[true, false, false, false] == [1, 2] && Region.ready .any BJ #[true, true, false, false] == [2] && Region.ready .any BJ #[true, false, true, false] == [1] && Region.ready .any BJ #[true, true, true, false] == [3] && Region.ready .any BJ #[true, true, true, true] == [])
 | _ => false
def EB (P : Program) : K2 → Code → Bool
 | .seqL a b, .seq a' b' => EB P a a' && IY P b b'
 | .seqR a b, .seq a' b' => IY P a a' && EB P b b'
 | .condL x a b, .cond x' a' b' => CV x x' && EB P a a' && IY P b b'
 | .condR x a b, .cond x' a' b' => CV x x' && IY P a a' && EB P b b'
 | .condB x a b, .cond x' a' b' => CV x x' && EB P a a' && EB P b b'
 | .blk id b, .block id' b' => id == id' && EB P b b'
 | .h _ k, k' => EB P k k'
 | .hp _ k, k' => EB P k k'
 | .coin t u a b, .seq (.region _ BJ true) (.cond (.tmp u') a' b') => u == u' && PZ P t u BJ && IY P a a' && IY P b b'
 | _, _ => false
theorem OD (hS : By c.G P call) (hm : P.follows .mixedOrders = true) {t u : Nat} {id : Nat} (hag : PZ P t u BJ = true) {st : St} {sb : Bool → St}
  (h : ∀ v, BZ call false [oo t (.alloc [.v (.bool false)]), on (.st 1 (.s t) (.c (.bool (!v)))), on (.st 1 (.s t) (.c (.bool v))), oo u (.ld 1 false (.s t))] st = some (sb v)) {a : Act} {w : World} (hs : Cu c st a w) (hK : ∀ v a' w', Cu c (sb v) a' w' → Q .normal a' w') :
  (Code.region id BJ true).wp P Q a w := by
 unfold PZ at hag
 split at hag
 case h_2 => cases hag
 rename_i o0 o1 o2 o3 ho
 simp only [Bool.and_eq_true, beq_iff_eq] at hag
 obtain ⟨⟨⟨⟨g0, g1⟩, g2⟩, g3⟩, ⟨⟨⟨⟨⟨r0, r1⟩, r2⟩, r3⟩, r4⟩, r5⟩⟩ := hag
 have hops : BJ = #[o0, o1, o2, o3] := by
  apply Array.toList_inj.1
  rw [ho]
 subst hops
 refine wp_region_any hm ?_
 have hst : ∀ v, ∃ s1 s2 s3, B9 call false (oo t (.alloc [.v (.bool false)])) st = some s1 ∧ B9 call false (on (.st 1 (.s t) (.c (.bool (!v))))) s1 = some s2 ∧ B9 call false (on (.st 1 (.s t) (.c (.bool v)))) s2 = some s3 ∧ B9 call false (oo u (.ld 1 false (.s t))) s3 = some (sb v) := by
  intro v
  have hv := h v
  simp only [BZ] at hv
  obtain ⟨s1, e1, hv⟩ := Option.bind_eq_some_iff.1 hv
  obtain ⟨s2, e2, hv⟩ := Option.bind_eq_some_iff.1 hv
  obtain ⟨s3, e3, hv⟩ := Option.bind_eq_some_iff.1 hv
  obtain ⟨s4, e4, hv⟩ := Option.bind_eq_some_iff.1 hv
  simp only [Option.some.injEq] at hv
  subst hv
  exact ⟨s1, s2, s3, e1, e2, e3, e4⟩
 obtain ⟨s1, s2, s3, a1, a2, a3, a4⟩ := hst false
 obtain ⟨s1', s2', s3', b1, b2, b3, b4⟩ := hst true
 rw [a1] at b1
 obtain rfl := Option.some.inj b1
 have z0 : (Array.replicate (#[o0, o1, o2, o3] : Array Oper).size false) = #[false, false, false, false] := rfl
 rw [z0]
 show wpAny P .any #[o0, o1, o2, o3] Q 4 _ a _
 have done : ∀ v a' w', Cu c (sb v) a' w' → wpAny P .any #[o0, o1, o2, o3] Q 0 #[true, true, true, true] a' w' := fun v a' w' hs' => by
  simp only [wpAny]
  exact ⟨r5, hK v a' w' hs'⟩
 have last : ∀ v s a' w', B9 call false (oo u (.ld 1 false (.s t))) s = some (sb v) → Cu c s a' w' → wpAny P .any #[o0, o1, o2, o3] Q 1 #[true, true, true, false] a' w' := fun v s a' w' he hs' => by
  simp only [wpAny, r4]
  refine ⟨fun h => (by cases h), fun i hi => ?_⟩
  obtain rfl := List.mem_singleton.1 hi
  exact Co hS (o := o3) rfl g3 he hs' fun a2 w2 hs2 => done v a2 w2 hs2
 simp only [wpAny, r0]
 refine ⟨fun h => (by cases h), fun i hi => ?_⟩
 obtain rfl := List.mem_singleton.1 hi
 refine Co hS (o := o0) rfl g0 a1 hs.drew fun x1 w1 hs1 => ?_
 show wpAny P .any #[o0, o1, o2, o3] Q 3 #[true, false, false, false] x1 w1
 simp only [wpAny, r1]
 refine ⟨fun h => (by cases h), fun i hi => ?_⟩
 rcases List.mem_cons.1 hi with rfl | hi
 ·refine Co hS (o := o1) rfl g1 a2 hs1 fun x2 w2 hs2 => ?_
  show wpAny P .any #[o0, o1, o2, o3] Q 2 #[true, true, false, false] x2 w2
  simp only [wpAny, r2]
  refine ⟨fun h => (by cases h), fun i hi => ?_⟩
  obtain rfl := List.mem_singleton.1 hi
  exact Co hS (o := o2) rfl g2 a3 hs2 fun x3 w3 hs3 => last false _ x3 w3 a4 hs3
 ·obtain rfl := List.mem_singleton.1 hi
  refine Co hS (o := o2) rfl g2 b2 hs1 fun x2 w2 hs2 => ?_
  show wpAny P .any #[o0, o1, o2, o3] Q 2 #[true, false, true, false] x2 w2
  simp only [wpAny, r3]
  refine ⟨fun h => (by cases h), fun i hi => ?_⟩
  obtain rfl := List.mem_singleton.1 hi
  exact Co hS (o := o1) rfl g1 b3 hs2 fun x3 w3 hs3 => last true _ x3 w3 b4 hs3
theorem CA (hS : By c.G P call) (hm : P.follows .mixedOrders = true) {lf : Nat} : ∀ {k : K2} {code : Code} {st : St} {a : Act} {w : World} {Q : Exit → Act → World → Prop}, EB P k code = true →
  (∀ v, ∃ q, Ao call lf (k.pick v) st = some q ∧ ∀ a' w', Cu c q.2 a' w' → Q (LQ q.1) a' w') → Cu c st a w → code.wp P Q a w
 | .h hs k, code, st, a, w, Q, hag, H, hsim => by
  have hag' : EB P k code = true := by cases code <;> simpa only [EB] using hag
  refine CA hS hm (lf := lf) hag' (fun v => ?_) hsim
  obtain ⟨q, h, hK⟩ := H v
  simp only [K2.pick, Ao] at h
  obtain ⟨q1, h1, h2⟩ := Option.bind_eq_some_iff.1 h
  refine ⟨q1, h1, fun a' w' hs' => ?_⟩
  obtain ⟨e1, s1⟩ := q1
  cases e1 with
  | normal =>
   simp only at h2
   obtain ⟨st', g1, g2⟩ := Option.map_eq_some_iff.1 h2
   subst g2
   exact hK a' w' (Cu.hs g1 hs')
  | exit id => simp only [Option.some.injEq] at h2; subst h2; exact hK a' w' hs'
  | ret => simp only [Option.some.injEq] at h2; subst h2; exact hK a' w' hs'
 | .hp hs k, code, st, a, w, Q, hag, H, hsim => by
  have hag' : EB P k code = true := by cases code <;> simpa only [EB] using hag
  have h0 : ∃ st1, Fs hs st = some st1 := by
   obtain ⟨q, h, _⟩ := H true
   simp only [K2.pick, Ao] at h
   obtain ⟨st1, h1, _⟩ := Option.bind_eq_some_iff.1 h
   exact ⟨st1, h1⟩
  obtain ⟨st1, h1⟩ := h0
  refine CA hS hm (lf := lf) hag' (fun v => ?_) (Cu.hs h1 hsim)
  obtain ⟨q, h, hK⟩ := H v
  simp only [K2.pick, Ao, h1, Option.bind_some] at h
  exact ⟨q, h, hK⟩
 | .seqL x y, code, st, a, w, Q, hag, H, hsim => by
  cases code <;> simp only [EB] at hag <;> try (cases hag; done)
  simp only [Bool.and_eq_true] at hag
  refine wp_seq (CA hS hm (lf := lf) hag.1 (fun v => ?_) hsim)
  obtain ⟨q, h, hK⟩ := H v
  simp only [K2.pick, Ao] at h
  obtain ⟨q1, h1, h2⟩ := Option.bind_eq_some_iff.1 h
  refine ⟨q1, h1, fun a' w' hs' => ?_⟩
  obtain ⟨e1, s1⟩ := q1
  cases e1 with
  | normal => exact B7 hS hm hag.2 h2 hs' hK
  | exit id => simp only [Option.some.injEq] at h2; subst h2; exact hK a' w' hs'
  | ret => simp only [Option.some.injEq] at h2; subst h2; exact hK a' w' hs'
 | .seqR x y, code, st, a, w, Q, hag, H, hsim => by
  cases code <;> simp only [EB] at hag <;> try (cases hag; done)
  simp only [Bool.and_eq_true] at hag
  have h0 : ∃ q1, Ao call lf x st = some q1 := by
   obtain ⟨q, h, _⟩ := H true
   simp only [K2.pick, Ao] at h
   obtain ⟨q1, h1, _⟩ := Option.bind_eq_some_iff.1 h
   exact ⟨q1, h1⟩
  obtain ⟨q1, h1⟩ := h0
  refine wp_seq (B7 hS hm hag.1 h1 hsim fun a' w' hs' => ?_)
  have H2 : ∀ v, ∃ q, (match q1.1 with | .normal => Ao call lf (y.pick v) q1.2 | e => some (e, q1.2)) = some q ∧ ∀ a' w', Cu c q.2 a' w' → Q (LQ q.1) a' w' := fun v => by
   obtain ⟨q, h, hK⟩ := H v
   simp only [K2.pick, Ao, h1, Option.bind_some] at h
   exact ⟨q, h, hK⟩
  obtain ⟨e1, s1⟩ := q1
  cases e1 with
  | normal => exact CA hS hm hag.2 H2 hs'
  | exit id => obtain ⟨q, h2, hK⟩ := H2 true; simp only [Option.some.injEq] at h2; subst h2; exact hK a' w' hs'
  | ret => obtain ⟨q, h2, hK⟩ := H2 true; simp only [Option.some.injEq] at h2; subst h2; exact hK a' w' hs'
 | .condL x y z, code, st, a, w, Q, hag, H, hsim => by
  cases code <;> simp only [EB] at hag <;> try (cases hag; done)
  simp only [Bool.and_eq_true] at hag
  obtain ⟨⟨h1, h2⟩, h3⟩ := hag
  obtain ⟨B, ρ, Sf, hI, hs, hz, hl, hd⟩ := hsim
  have hx := hs.eval h1
  have H' : ∀ v, ∃ q, (match A1 st.s x with | .t (.v (.bool true)) => Ao call lf (y.pick v) st | .t (.v (.bool false)) => Ao call lf (z) st | _ => none) = some q ∧ ∀ a' w', Cu c q.2 a' w' → Q (LQ q.1) a' w' := fun v => by
   obtain ⟨q, h, hK⟩ := H v
   simp only [K2.pick, Ao] at h
   exact ⟨q, h, hK⟩
  cases he : A1 st.s x with
  | t tv =>
   rw [he] at H' hx
   cases tv with
   | v vv =>
    cases vv with
    | bool bb =>
     cases bb with
     | true =>
      exact wp_cond_true (Aq hx).1 (CA hS hm h2 H' ⟨B, ρ, Sf, hI, hs, hz, hl, hd⟩)
     | false =>
      obtain ⟨q, g1, hK⟩ := H' true
      exact wp_cond_false (Aq hx).1 (B7 hS hm h3 g1 ⟨B, ρ, Sf, hI, hs, hz, hl, hd⟩ hK)
    | _ => obtain ⟨q, g1, _⟩ := H' true; cases g1
   | _ => obtain ⟨q, g1, _⟩ := H' true; cases g1
  | _ => rw [he] at H'; obtain ⟨q, g1, _⟩ := H' true; cases g1
 | .condR x y z, code, st, a, w, Q, hag, H, hsim => by
  cases code <;> simp only [EB] at hag <;> try (cases hag; done)
  simp only [Bool.and_eq_true] at hag
  obtain ⟨⟨h1, h2⟩, h3⟩ := hag
  obtain ⟨B, ρ, Sf, hI, hs, hz, hl, hd⟩ := hsim
  have hx := hs.eval h1
  have H' : ∀ v, ∃ q, (match A1 st.s x with | .t (.v (.bool true)) => Ao call lf (y) st | .t (.v (.bool false)) => Ao call lf (z.pick v) st | _ => none) = some q ∧ ∀ a' w', Cu c q.2 a' w' → Q (LQ q.1) a' w' := fun v => by
   obtain ⟨q, h, hK⟩ := H v
   simp only [K2.pick, Ao] at h
   exact ⟨q, h, hK⟩
  cases he : A1 st.s x with
  | t tv =>
   rw [he] at H' hx
   cases tv with
   | v vv =>
    cases vv with
    | bool bb =>
     cases bb with
     | true =>
      obtain ⟨q, g1, hK⟩ := H' true
      exact wp_cond_true (Aq hx).1 (B7 hS hm h2 g1 ⟨B, ρ, Sf, hI, hs, hz, hl, hd⟩ hK)
     | false =>
      exact wp_cond_false (Aq hx).1 (CA hS hm h3 H' ⟨B, ρ, Sf, hI, hs, hz, hl, hd⟩)
    | _ => obtain ⟨q, g1, _⟩ := H' true; cases g1
   | _ => obtain ⟨q, g1, _⟩ := H' true; cases g1
  | _ => rw [he] at H'; obtain ⟨q, g1, _⟩ := H' true; cases g1
 | .condB x y z, code, st, a, w, Q, hag, H, hsim => by
  cases code <;> simp only [EB] at hag <;> try (cases hag; done)
  simp only [Bool.and_eq_true] at hag
  obtain ⟨⟨h1, h2⟩, h3⟩ := hag
  obtain ⟨B, ρ, Sf, hI, hs, hz, hl, hd⟩ := hsim
  have hx := hs.eval h1
  have H' : ∀ v, ∃ q, (match A1 st.s x with | .t (.v (.bool true)) => Ao call lf (y.pick v) st | .t (.v (.bool false)) => Ao call lf (z.pick v) st | _ => none) = some q ∧ ∀ a' w', Cu c q.2 a' w' → Q (LQ q.1) a' w' := fun v => by
   obtain ⟨q, h, hK⟩ := H v
   simp only [K2.pick, Ao] at h
   exact ⟨q, h, hK⟩
  cases he : A1 st.s x with
  | t tv =>
   rw [he] at H' hx
   cases tv with
   | v vv =>
    cases vv with
    | bool bb =>
     cases bb with
     | true =>
      exact wp_cond_true (Aq hx).1 (CA hS hm h2 H' ⟨B, ρ, Sf, hI, hs, hz, hl, hd⟩)
     | false =>
      exact wp_cond_false (Aq hx).1 (CA hS hm h3 H' ⟨B, ρ, Sf, hI, hs, hz, hl, hd⟩)
    | _ => obtain ⟨q, g1, _⟩ := H' true; cases g1
   | _ => obtain ⟨q, g1, _⟩ := H' true; cases g1
  | _ => rw [he] at H'; obtain ⟨q, g1, _⟩ := H' true; cases g1
 | .blk id b, code, st, a, w, Q, hag, H, hsim => by
  cases code <;> simp only [EB] at hag <;> try (cases hag; done)
  simp only [Bool.and_eq_true, beq_iff_eq] at hag
  obtain ⟨rfl, hag⟩ := hag
  refine wp_block (CA hS hm (lf := lf) hag (fun v => ?_) hsim)
  obtain ⟨q, h, hK⟩ := H v
  simp only [K2.pick, Ao] at h
  obtain ⟨q1, h1, h2⟩ := Option.map_eq_some_iff.1 h
  refine ⟨q1, h1, fun a' w' hs' => ?_⟩
  obtain ⟨e1, s1⟩ := q1
  cases e1 with
  | normal => simp only at h2; subst h2; exact hK a' w' hs'
  | exit j =>
   simp only at h2
   simp only [LQ, Exit.inBlock]
   by_cases hj : j = id
   ·rw [if_pos hj] at h2 ⊢; subst h2; exact hK a' w' hs'
   ·rw [if_neg hj] at h2 ⊢; subst h2; exact hK a' w' hs'
  | ret => simp only at h2; subst h2; exact hK a' w' hs'
 | .coin t u x y, code, st, a, w, Q, hag, H, hsim => by
  cases code <;> try (simp [EB] at hag; done)
  rename_i c1 c2
  cases c1 <;> try (simp [EB] at hag; done)
  rename_i id BJ dr
  cases dr <;> try (simp [EB] at hag; done)
  cases c2 <;> try (simp [EB] at hag; done)
  rename_i x' a' b'
  cases x' <;> try (simp [EB] at hag; done)
  rename_i u'
  simp only [EB, Bool.and_eq_true, beq_iff_eq] at hag
  obtain ⟨⟨⟨rfl, g1⟩, g2⟩, g3⟩ := hag
  have hst : ∀ v, ∃ sv, BZ call false [oo t (.alloc [.v (.bool false)]), on (.st 1 (.s t) (.c (.bool (!v)))), on (.st 1 (.s t) (.c (.bool v))), oo u (.ld 1 false (.s t))] st = some sv ∧ ∃ q, Ao call lf (.cond (.s u) x y) sv = some q ∧ ∀ a' w', Cu c q.2 a' w' → Q (LQ q.1) a' w' := fun v => by
   obtain ⟨q, h, hK⟩ := H v
   simp only [K2.pick] at h
   rw [Ao, Ao] at h
   obtain ⟨q1, h1, h2⟩ := Option.bind_eq_some_iff.1 h
   obtain ⟨sv, h3, h4⟩ := Option.map_eq_some_iff.1 h1
   subst h4
   exact ⟨sv, h3, q, h2, hK⟩
  refine wp_seq (OD hS hm g1 (sb := fun v => (hst v).choose) (fun v => (hst v).choose_spec.1) hsim fun v a' w' hs' => ?_)
  obtain ⟨q, h2, hK⟩ := (hst v).choose_spec.2
  exact B7 hS hm (k := .cond (.s u) x y) (by simp only [IY, g2, g3, Bool.and_true]; simp [CV]) h2 hs' hK
end
end TT
