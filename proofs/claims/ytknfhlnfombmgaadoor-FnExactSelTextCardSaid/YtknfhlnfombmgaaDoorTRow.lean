/- The row of FnExactSelText: it holds of the program for all arguments; no condition. -/
import Derived.Test.YtknfhlnfombmgaaDoorTAG
import Derived.Test.YtknfhlnfombmgaaDoorTLL
import Derived.Test.YtknfhlnfombmgaaDoorTLExactSelText
import Derived.Test.YtknfhlnfombmgaaDoorRows
import Derived.Test.YtknfhlnfombmgaaDoorTie
import Derived.Test.YtknfhlnfombmgaaDoorCards
import Derived.Lay
import Derived.LaidLaws
import Derived.LaidOnce
import Derived.SevenTiedAt
import Derived.Lib.LaidU8
import Derived.Handed
import Derived.WalkKit
import Derived.ProofKit
import Derived.OpenShut
import Derived.ChangeOld
import Derived.Below
import Derived.SizedLaws
namespace Go.Proofs.YtknfhlnfombmgaaDoor.fnExactSelText
open Go.Lib Go.Shelf Go.ChangeShapes Go.WideShapes Go.ChangeAt Go.RowKit TT
set_option linter.unusedVariables false
section
variable {P : Program}
theorem typed_intw {n : Nat} {t : TypeId} {ts : List T} (hu : P.underlying t = some (.int .i64)) (h : Typed P n t ts) : ∃ x, ts = [.v (.int .i64 x)] ∧ (-9223372036854775808 ≤ x ∧ x < 9223372036854775808) := by
  cases n with
  | zero => exact h.elim
  | succ n =>
    unfold Typed at h; rw [hu] at h
    obtain ⟨x, h, hw⟩ := h
    refine ⟨x, h, ?_⟩
    simp only [Lit.wf] at hw
    simp [IntKind.min, IntKind.max, IntKind.signed, IntKind.bits] at hw
    omega
theorem typed_intw' {n : Nat} {t : TypeId} {ts : List T} (hu : P.underlying t = some (.int .i64)) (h : Typed P n t ts) : ∃ x, ts = rI x ∧ (-9223372036854775808 ≤ x ∧ x < 9223372036854775808) := typed_intw hu h
theorem typed_bool {n : Nat} {t : TypeId} {ts : List T} (hu : P.underlying t = some .bool) (h : Typed P n t ts) : ∃ b, ts = [.v (.bool b)] := by
  cases n with
  | zero => exact h.elim
  | succ n => unfold Typed at h; rw [hu] at h; exact h
theorem typed_string {n : Nat} {t : TypeId} {ts : List T} (hu : P.underlying t = some .string) (h : Typed P n t ts) : ∃ s, ts = [.v (.string s)] ∧ s.size ≤ maxLen := by
  cases n with
  | zero => exact h.elim
  | succ n => unfold Typed at h; rw [hu] at h; exact h
theorem typed_string' {n : Nat} {t : TypeId} {ts : List T} (hu : P.underlying t = some .string) (h : Typed P n t ts) : ∃ s, ts = rS s ∧ s.size ≤ maxLen := typed_string hu h
theorem typed_slice {n : Nat} {t e : TypeId} {ts : List T} (hu : P.underlying t = some (.slice e)) (h : Typed P n t ts) : ∃ m rows, m < n ∧ ts = [.sl false rows] ∧ rows.length ≤ maxLen ∧ ∀ row ∈ rows, Typed P m e row := by
  cases n with
  | zero => exact h.elim
  | succ n => unfold Typed at h; rw [hu] at h; obtain ⟨rows, h1, h2, h3⟩ := h; exact ⟨n, rows, Nat.lt_succ_self n, h1, h2, h3⟩
theorem typed_struct {n : Nat} {t : TypeId} {ts : List T} {fs : Array Field} (hu : P.underlying t = some (.struct fs)) (h : Typed P n t ts) : ∃ m, m < n ∧ ∃ parts : List (List T), ts = parts.flatten ∧ parts.length = fs.toList.length ∧ ∀ (i : Nat) f p, fs.toList[i]? = some f → parts[i]? = some p → Typed P m f.type p := by
  cases n with
  | zero => exact h.elim
  | succ n => unfold Typed at h; rw [hu] at h; exact ⟨n, Nat.lt_succ_self n, h⟩
theorem rows_of {α : Type} {f : α → List T} {p : α → Prop} : ∀ {rows : TT.Rows}, (∀ row ∈ rows, ∃ x, row = f x ∧ p x) → ∃ xs : List α, rows = xs.map f ∧ ∀ x ∈ xs, p x
  | [], _ => ⟨[], rfl, by simp⟩
  | r :: rs, h => by
    obtain ⟨x, h1, h2⟩ := h r (List.mem_cons_self ..)
    obtain ⟨xs, h3, h4⟩ := rows_of fun row hr => h row (List.mem_cons_of_mem _ hr)
    refine ⟨x :: xs, by simp [h1, h3], fun y hy => ?_⟩
    rcases List.mem_cons.1 hy with rfl | hy
    · exact h2
    · exact h4 y hy
end
theorem typed_t66 : ∀ (n : Nat) {ts : List T}, Typed Tryd.prog n 66 ts → ∃ x : GPred, ts = GPred.row x ∧ x.ok := by
  intro n ts h
  obtain ⟨m, hm, parts, rfl, hl, hp⟩ := typed_struct Tryd.underlying66 h
  match parts, hl with
  | [p0, p1, p2, p3, p4], _ =>
    obtain ⟨x0, rfl, k0⟩ := typed_intw Tryd.underlying3 (hp 0 _ p0 rfl rfl)
    obtain ⟨x1, rfl, k1⟩ := typed_intw Tryd.underlying3 (hp 1 _ p1 rfl rfl)
    obtain ⟨x2, rfl, k2⟩ := typed_string Tryd.underlying9 (hp 2 _ p2 rfl rfl)
    obtain ⟨x3, rfl, k3⟩ := typed_string Tryd.underlying9 (hp 3 _ p3 rfl rfl)
    obtain ⟨x4, rfl, k4⟩ := typed_string Tryd.underlying9 (hp 4 _ p4 rfl rfl)
    exact ⟨⟨x0, x1, x2, x3, x4⟩, by simp [GPred.row_eq], (GPred.ok_iff _).2 ⟨k0, k1, k2, k3, k4⟩⟩
theorem typed_t48 : ∀ (n : Nat) {ts : List T}, Typed Tryd.prog n 48 ts → ∃ x : GStp, ts = GStp.row false x ∧ x.ok := by
  intro n ts h
  obtain ⟨m, hm, parts, rfl, hl, hp⟩ := typed_struct Tryd.underlying48 h
  match parts, hl with
  | [p0, p1, p2, p3, p4], _ =>
    obtain ⟨x0, rfl⟩ := typed_bool Tryd.underlying4 (hp 0 _ p0 rfl rfl)
    obtain ⟨x1, rfl, k1⟩ := typed_intw Tryd.underlying3 (hp 1 _ p1 rfl rfl)
    obtain ⟨x2, rfl, k2⟩ := typed_string Tryd.underlying9 (hp 2 _ p2 rfl rfl)
    obtain ⟨x3, rfl, k3⟩ := typed_string Tryd.underlying9 (hp 3 _ p3 rfl rfl)
    obtain ⟨m4, r4, lt4, rfl, l4, q4⟩ := typed_slice Tryd.underlying46 (hp 4 _ p4 rfl rfl)
    obtain ⟨x4, rfl, f4⟩ := rows_of (f := GPred.row) fun row hr => typed_t66 _ (q4 row hr)
    exact ⟨⟨x0, x1, x2, x3, x4⟩, by simp [GStp.row_eq], (GStp.ok_iff _).2 ⟨k1, k2, k3, ⟨by simpa using l4, f4⟩⟩⟩
theorem typed_t24 : ∀ (n : Nat) {ts : List T}, Typed Tryd.prog n 24 ts → ∃ x : GSel, ts = GSel.row false x ∧ x.ok := by
  intro n ts h
  obtain ⟨m, hm, parts, rfl, hl, hp⟩ := typed_struct Tryd.underlying24 h
  match parts, hl with
  | [p0, p1], _ =>
    obtain ⟨x0, rfl, k0⟩ := typed_string Tryd.underlying9 (hp 0 _ p0 rfl rfl)
    obtain ⟨m1, r1, lt1, rfl, l1, q1⟩ := typed_slice Tryd.underlying22 (hp 1 _ p1 rfl rfl)
    obtain ⟨x1, rfl, f1⟩ := rows_of (f := (GStp.row false)) fun row hr => typed_t48 _ (q1 row hr)
    exact ⟨⟨x0, x1⟩, by simp [GSel.row_eq], (GSel.ok_iff _).2 ⟨k0, ⟨by simpa using l1, f1⟩⟩⟩
theorem own : ownKnob Tryd.prog.godebug = none := by kernel_rfl
theorem laidOut : laidOutB Tryd.prog = true := by kernel_rfl
theorem opens : openB Tryd.prog [24, 9, 22, 48, 4, 3, 46, 66] = true := by kernel_rfl
theorem first_eq : Rows.laid_unicode_utf8_first = firstData := by kernel_rfl
theorem accept_eq : (Rows.laid_unicode_utf8_acceptRanges : DataW Unit) = acceptData := by kernel_rfl
theorem cell_lt {w : World} {b o : Nat} {u : Value} (h : w.cell? ⟨b, o, none⟩ = some u) : b < w.heap.size := by
  rcases Nat.lt_or_ge b w.heap.size with h' | h'
  · exact h'
  · exfalso
    have : w.heap[b]? = none := Array.getElem?_eq_none h'
    simp [World.cell?, this] at h
set_option maxRecDepth 100000 in
theorem lifted (os : Os) (started : os.Started) (H : Type) (enc : TypeId × Value → H) :
    ReturnsInHanded {} Tryd.checked os 3 .any (fun w args => (Rows.fnExactSelTextSpec.pre enc Tryd.prog Tryd.f3 [] false w args ∧ laidMetH Tryd.prog Rows.fnExactSelTextRow.laid w) ∧ sizedMet enc Tryd.prog Tryd.f3 (OpenSpec.ofChange Rows.fnExactSelTextSpec) false w args) (Rows.fnExactSelTextSpec.post enc Tryd.prog Tryd.f3 false true false false) := by
  refine TT.ret_shaped (C := Tryd.checked) (X := fun w _ => laidMetH Tryd.prog Rows.fnExactSelTextRow.laid w) (fun _ _ _ hh h => h.of_heap hh) own started (by kernel_rfl) Tryd.func3
    (ChangeSpec.witness_shaped (enc := enc) (C := Tryd.checked) (os := os) (X := fun w _ => laidMetH Tryd.prog Rows.fnExactSelTextRow.laid w) false (World.laidAll Tryd.prog os Rows.fnExactSelTextRow.laid) #[.agg #[.string ⟨#[]⟩, .slice none 0 0]] 8 (World.laidAll_os _ _ _)
      (World.shaped_of_ZipB (by kernel_rfl) (by kernel_rfl)) (by kernel_rfl) (by kernel_rfl) (by kernel_rfl)
      (by rw [MakeChecks.laidMetH_plain _ _ _ (by kernel_rfl)]; exact laidMet_laidAll _ (by kernel_rfl) (by kernel_rfl))) ?_
  intro W base args ds gs before hSh hval0 hW hsz0 hL0
  have hL : laidMetH Tryd.prog Rows.fnExactSelTextRow.laid W := hL0
  rw [MakeChecks.laidMetH_plain _ _ _ (by kernel_rfl)] at hL
  have hU : Lib.Utf8Tabs 2 3 W := utf8Tabs_of_reads (ρ := Tryd.lays197_ren) { Tryd.lays197 with } ⟨by kernel_rfl, by kernel_rfl, by kernel_rfl, by kernel_rfl, by kernel_rfl, by kernel_rfl, by kernel_rfl⟩ (first_eq ▸ Lib.laidMet.reads hL (.tail _ (.tail _ (.tail _ (.tail _ (.head _)))))) (accept_eq ▸ Lib.laidMet.reads hL (.tail _ (.tail _ (.tail _ (.head _)))))
  have hM : ∃ m, W.cell? ⟨0, 0, none⟩ = some (.int .i64 m) := Tryd.laysM145.s1_3 W hSh
  have hP : Lib.TabIs Tryd.prog W "internal/strconv.uint64pow10" .u64 Lib.pow10Tab := tabIs_of_reads (Lib.laidMet.reads hL (.tail _ (.tail _ (.head _)))) (by kernel_rfl) (g := 1) (t := 99) (n := 20) (e := 88) (by kernel_rfl) (by kernel_rfl) (by kernel_rfl) (by kernel_rfl) (by kernel_rfl) (by kernel_rfl)
  have hTabs : GG.ok (fun b => b < W.heap.size) W := ⟨⟨cell_lt (hU.1 0 (by decide)), cell_lt (hU.2 0 (by decide)).1, hU⟩, ⟨⟨by obtain ⟨m, hm⟩ := hM; exact cell_lt hm, hM⟩, ⟨cell_lt (Lib.TabIs.cell hP (by kernel_rfl) 0 (by decide)), hP⟩⟩⟩
  have hval : ∀ (j : Nat) t v, Tryd.f3.params[j]? = some t → args[j]? = some v → Value.okWide Tryd.prog W .any base t v := hval0
  have hW' := hW
  obtain ⟨p, q, hA0, hV, rfl, hfz, hnd⟩ := hW
  have hA : DataW.TrodAll enc Tryd.prog W 0 (fun _ => true) true Tryd.f3.params.toList args.toList ds p := hA0
  rw [Tryd.params3] at hA hval
  obtain ⟨v0, vs0, d0, ds0, p0, q0, hargs, rfl, rfl, h0, r0⟩ := trodAll_cons hA
  obtain ⟨rfl, rfl, rfl⟩ := trodAll_nil r0
  obtain rfl : args = #[v0] := by cases args; simp_all
  obtain ⟨rfl, rfl⟩ := trodVars_none hV
  have k0 := h0
  have lt0 : ∀ x ∈ p0, x.block < W.heap.size := by obtain ⟨m, hm⟩ := k0; exact DataW.trod_lt m _ _ _ hm
  have hv0 := hval 0 24 v0 rfl rfl
  unfold Value.okWide at hv0
  rw [Tryd.underlying24] at hv0
  obtain ⟨cs0, rfl, _⟩ := hv0
  obtain ⟨fuel0, hf0⟩ := h0
  obtain ⟨ts0, t0, u0⟩ := open_trod opens fuel0 24 _ _ (by simp) hf0
  obtain ⟨x0, rfl, ok0⟩ := typed_t24 fuel0 t0
  clear hA0 hval0 hsz0
  have hden := laws_FnExactSelText_ok x0 true (law_FnExactSelText x0 ok0)
  refine (law_calls (w := W) soundA hden (args_cons (arg_agg u0) args_nil) hTabs).mono fun e W' ⟨he, bel⟩ => ?_
  subst he
  exact ⟨_, rfl, _, _, _, [], _, [], hW', trodAll_mk1 (shut_bool Tryd.underlying4 _), (trodAll_cons_mk (Below.trod laidOut (by kernel_rfl) (of_decide_eq_true (by kernel_rfl)) k0 bel lt0) trodAll_mk0), rfl, bel.frame _, fun h => by cases h⟩
theorem over : Rows.fnExactSelTextRow.holds Tryd.pinned (OpenSpec.ofChange Rows.fnExactSelTextSpec) :=
  OpenClaim.holds_of_wide 3 Tryd.f3 rfl rfl rfl rfl rfl rfl rfl ⟨rfl, rfl, rfl, rfl, rfl⟩ rfl rfl rfl rfl rfl (by kernel_rfl) Tryd.func3 (by kernel_rfl)
    (of_decide_eq_true (by kernel_rfl)) (by unfold Func.isWrapper; first | (rw [if_pos (by decide +kernel)]; kernel_rfl) | (rw [if_neg (by decide +kernel)]; exact ⟨rfl, rfl⟩))
    (fun os started H enc _ => lifted os started H enc)
theorem card : Rows.FnExactSelTextCardSaid :=
  Claim7.holds_tied_plain_at .later [] [.data, .data, .data, .data, .pinned] true (true, "bbe35e5d1a57bc4ace62b22ea95ac247040876c0ca2c911817b21da7f3368914") false over (fun _ h => by cases h) (by kernel_rfl) (fun _ h => by cases h) fnExactSelText_row_tie rfl ⟨rfl, rfl⟩ (by kernel_rfl) rfl
    (fun f fn hf hfn => by
      obtain rfl : f = 3 := Option.some.inj ((show Tryd.prog.funcNamed "loop.example/g00484/laws.FnExactSelText" = some 3 by kernel_rfl).symm.trans hf) |>.symm
      obtain rfl : fn = Tryd.f3 := (Option.some.inj (Tryd.func3.symm.trans hfn)).symm
      exact ⟨by kernel_rfl, fun j t ht => by
        rw [Tryd.params3] at ht
        have hm : t ∈ [24] := by simpa using Array.mem_of_getElem? ht
        have hall : ([24].all fun u => !Tryd.prog.wantsStandIn u) = true := by kernel_rfl
        exact (show Tryd.prog.wantsStandIn t = false by simpa using List.all_eq_true.1 hall t hm)⟩)
    (by kernel_rfl)
#print axioms card
end Go.Proofs.YtknfhlnfombmgaaDoor.fnExactSelText
namespace Go.Proofs.YtknfhlnfombmgaaDoor
/-- The card, under a short name, for the claim. -/
theorem fnExactSelText_holds : Rows.FnExactSelTextCardSaid := fnExactSelText.card
end Go.Proofs.YtknfhlnfombmgaaDoor
