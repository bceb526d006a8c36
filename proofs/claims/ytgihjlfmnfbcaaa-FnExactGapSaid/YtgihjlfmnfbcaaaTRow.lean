/- The row of FnExactGap: it holds of the program for all arguments; no condition. -/
import Derived.Test.YtgihjlfmnfbcaaaTAG
import Derived.Test.YtgihjlfmnfbcaaaTFA
import Derived.Test.YtgihjlfmnfbcaaaTLL
import Derived.Test.YtgihjlfmnfbcaaaTLExactGap
import Derived.Test.YtgihjlfmnfbcaaaRows
import Derived.WalkKit
import Derived.ProofKit
import Derived.OpenShut
import Derived.ChangeOld
import Derived.Below
import Derived.SizedLaws
namespace Go.Proofs.Ytgihjlfmnfbcaaa.fnExactGap
open Go.ChangeShapes Go.WideShapes Go.ChangeAt Go.RowKit TT
set_option linter.unusedVariables false
section
variable {P : Program}
theorem typed_intw {n : Nat} {t : TypeId} {ts : List T} (hu : P.underlying t = some (.int .i64)) (h : Typed P n t ts) : ∃ x, ts = [.v (.int .i64 x)] ∧ (-9223372036854775808 ≤ x ∧ x < 9223372036854775808) := by
 cases n with
 | zero => exact h.elim
 | succ n =>
  unfold Typed at h; rw [hu] at h
  obtain ⟨x, h, hw⟩ := h
  refine ⟨x, h, ?_⟩
  simp only [Lit.wf] at hw
  simp [IntKind.min, IntKind.max, IntKind.signed, IntKind.bits] at hw
  omega
theorem typed_byte' {n : Nat} {t : TypeId} {ts : List T} (hu : P.underlying t = some (.int .u8)) (h : Typed P n t ts) : ∃ x, ts = rK .u8 x ∧ (0 ≤ x ∧ x < 256) := by
 cases n with
 | zero => exact h.elim
 | succ n =>
  unfold Typed at h; rw [hu] at h
  obtain ⟨x, h, hw⟩ := h
  refine ⟨x, h, ?_⟩
  simp only [Lit.wf] at hw
  simp [IntKind.min, IntKind.max, IntKind.signed, IntKind.bits] at hw
  omega
theorem typed_intw' {n : Nat} {t : TypeId} {ts : List T} (hu : P.underlying t = some (.int .i64)) (h : Typed P n t ts) : ∃ x, ts = rI x ∧ (-9223372036854775808 ≤ x ∧ x < 9223372036854775808) := typed_intw hu h
theorem typed_bool {n : Nat} {t : TypeId} {ts : List T} (hu : P.underlying t = some .bool) (h : Typed P n t ts) : ∃ b, ts = [.v (.bool b)] := by
 cases n with
 | zero => exact h.elim
 | succ n => unfold Typed at h; rw [hu] at h; exact h
theorem typed_string {n : Nat} {t : TypeId} {ts : List T} (hu : P.underlying t = some .string) (h : Typed P n t ts) : ∃ s, ts = [.v (.string s)] ∧ s.size ≤ maxLen := by
 cases n with
 | zero => exact h.elim
 | succ n => unfold Typed at h; rw [hu] at h; exact h
theorem typed_string' {n : Nat} {t : TypeId} {ts : List T} (hu : P.underlying t = some .string) (h : Typed P n t ts) : ∃ s, ts = rS s ∧ s.size ≤ maxLen := typed_string hu h
theorem typed_slice {n : Nat} {t e : TypeId} {ts : List T} (hu : P.underlying t = some (.slice e)) (h : Typed P n t ts) : ∃ m rows, m < n ∧ ts = [.sl false rows] ∧ rows.length ≤ maxLen ∧ ∀ row ∈ rows, Typed P m e row := by
 cases n with
 | zero => exact h.elim
 | succ n => unfold Typed at h; rw [hu] at h; obtain ⟨rows, h1, h2, h3⟩ := h; exact ⟨n, rows, Nat.lt_succ_self n, h1, h2, h3⟩
theorem typed_struct {n : Nat} {t : TypeId} {ts : List T} {fs : Array Field} (hu : P.underlying t = some (.struct fs)) (h : Typed P n t ts) : ∃ m, m < n ∧ ∃ parts : List (List T), ts = parts.flatten ∧ parts.length = fs.toList.length ∧ ∀ (i : Nat) f p, fs.toList[i]? = some f → parts[i]? = some p → Typed P m f.type p := by
 cases n with
 | zero => exact h.elim
 | succ n => unfold Typed at h; rw [hu] at h; exact ⟨n, Nat.lt_succ_self n, h⟩
theorem rows_of {α : Type} {f : α → List T} {p : α → Prop} : ∀ {rows : TT.Rows}, (∀ row ∈ rows, ∃ x, row = f x ∧ p x) → ∃ xs : List α, rows = xs.map f ∧ ∀ x ∈ xs, p x
 | [], _ => ⟨[], rfl, by simp⟩
 | r :: rs, h => by
  obtain ⟨x, h1, h2⟩ := h r (List.mem_cons_self ..)
  obtain ⟨xs, h3, h4⟩ := rows_of fun row hr => h row (List.mem_cons_of_mem _ hr)
  refine ⟨x :: xs, by simp [h1, h3], fun y hy => ?_⟩
  rcases List.mem_cons.1 hy with rfl | hy
  ·exact h2
  ·exact h4 y hy
end
theorem typed_t63 : ∀ (n : Nat) {ts : List T}, Typed Try.prog n 63 ts → ∃ x : GDecl, ts = GDecl.row x ∧ x.ok := by
 intro n ts h
 obtain ⟨m, hm, parts, rfl, hl, hp⟩ := typed_struct Try.underlying63 h
 match parts, hl with
 | [p0, p1], _ =>
  obtain ⟨x0, rfl, k0⟩ := typed_string Try.underlying9 (hp 0 _ p0 rfl rfl)
  obtain ⟨x1, rfl, k1⟩ := typed_string Try.underlying9 (hp 1 _ p1 rfl rfl)
  exact ⟨⟨x0, x1⟩, by simp [GDecl.row_eq], (GDecl.ok_iff _).2 ⟨k0, k1⟩⟩
theorem typed_t66 : ∀ (n : Nat) {ts : List T}, Typed Try.prog n 66 ts → ∃ x : GAttr, ts = GAttr.row x ∧ x.ok := by
 intro n ts h
 obtain ⟨m, hm, parts, rfl, hl, hp⟩ := typed_struct Try.underlying66 h
 match parts, hl with
 | [p0, p1, p2, p3], _ =>
  obtain ⟨x0, rfl, k0⟩ := typed_string Try.underlying9 (hp 0 _ p0 rfl rfl)
  obtain ⟨x1, rfl, k1⟩ := typed_string Try.underlying9 (hp 1 _ p1 rfl rfl)
  obtain ⟨x2, rfl, k2⟩ := typed_string Try.underlying9 (hp 2 _ p2 rfl rfl)
  obtain ⟨x3, rfl, k3⟩ := typed_string Try.underlying9 (hp 3 _ p3 rfl rfl)
  exact ⟨⟨x0, x1, x2, x3⟩, by simp [GAttr.row_eq], (GAttr.ok_iff _).2 ⟨k0, k1, k2, k3⟩⟩
theorem typed_t26 : ∀ (n : Nat) {ts : List T}, Typed Try.prog n 26 ts → ∃ x : GNode, ts = GNode.row false x ∧ x.ok := by
 intro n
 induction n using Nat.strongRecOn with
 | _ n ih =>
  intro ts h
  obtain ⟨m, hm, parts, rfl, hl, hp⟩ := typed_struct Try.underlying26 h
  match parts, hl with
  | [p0, p1, p2, p3, p4, p5, p6, p7], _ =>
   obtain ⟨x0, rfl, k0⟩ := typed_intw Try.underlying3 (hp 0 _ p0 rfl rfl)
   obtain ⟨x1, rfl, k1⟩ := typed_string Try.underlying9 (hp 1 _ p1 rfl rfl)
   obtain ⟨x2, rfl, k2⟩ := typed_string Try.underlying9 (hp 2 _ p2 rfl rfl)
   obtain ⟨x3, rfl, k3⟩ := typed_string Try.underlying9 (hp 3 _ p3 rfl rfl)
   obtain ⟨m4, r4, lt4, rfl, l4, q4⟩ := typed_slice Try.underlying22 (hp 4 _ p4 rfl rfl)
   obtain ⟨x4, rfl, f4⟩ := rows_of (f := GDecl.row) fun row hr => typed_t63 _ (q4 row hr)
   obtain ⟨m5, r5, lt5, rfl, l5, q5⟩ := typed_slice Try.underlying23 (hp 5 _ p5 rfl rfl)
   obtain ⟨x5, rfl, f5⟩ := rows_of (f := GAttr.row) fun row hr => typed_t66 _ (q5 row hr)
   obtain ⟨m6, r6, lt6, rfl, l6, q6⟩ := typed_slice Try.underlying24 (hp 6 _ p6 rfl rfl)
   obtain ⟨x6, rfl, f6⟩ := rows_of (f := (GNode.row false)) fun row hr => ih m6 (by omega) (q6 row hr)
   obtain ⟨x7, rfl, k7⟩ := typed_string Try.underlying9 (hp 7 _ p7 rfl rfl)
   exact ⟨⟨x0, x1, x2, x3, x4, x5, x6, x7⟩, by simp [GNode.row_eq], (GNode.ok_iff _).2 ⟨k0, k1, k2, k3, ⟨by simpa using l4, f4⟩, ⟨by simpa using l5, f5⟩, ⟨by simpa using l6, f6⟩, k7⟩⟩
theorem own : ownKnob Try.prog.godebug = none := by kernel_rfl
theorem laidOut : laidOutB Try.prog = true := by kernel_rfl
theorem opens : openB Try.prog [26, 3, 9, 22, 63, 23, 66, 24] = true := by kernel_rfl
set_option maxRecDepth 100000 in
theorem lifted (os : Os) (started : os.Started) (H : Type) (enc : TypeId × Value → H) :
  ReturnsInHanded {} Try.checked os 3 .any (Rows.fnExactGapSpec.pre6 enc Try.prog Try.f3 Rows.fnExactGapRow.domain false) (Rows.fnExactGapSpec.post enc Try.prog Try.f3 false true false false) := by
 refine returnsInHanded_of_change_sized (C := Try.checked) own started (by kernel_rfl) Try.func3
  (ChangeSpec.witness6 (enc := enc) (C := Try.checked) false ⟨#[], #[.agg #[.int .i64 0, .string ⟨#[]⟩, .string ⟨#[]⟩, .string ⟨#[]⟩, .slice none 0 0, .slice none 0 0, .slice none 0 0, .string ⟨#[]⟩], .agg #[.int .i64 0, .string ⟨#[]⟩, .string ⟨#[]⟩, .string ⟨#[]⟩, .slice none 0 0, .slice none 0 0, .slice none 0 0, .string ⟨#[]⟩]], []⟩ 8 (by kernel_rfl) (by kernel_rfl) (by kernel_rfl) (by kernel_rfl)) ?_
 intro W base args ds gs before hval0 hW hcnd hsz0 _
 have hval : ∀ (j : Nat) t v, Try.f3.params[j]? = some t → args[j]? = some v → Value.okWide Try.prog W .any base t v := hval0
 have hW' := hW
 obtain ⟨p, q, hA0, hV, rfl, hfz, hnd⟩ := hW
 have hA : DataW.TrodAll enc Try.prog W 0 (fun _ => true) true Try.f3.params.toList args.toList ds p := hA0
 rw [Try.params3] at hA hval
 obtain ⟨v0, vs0, d0, ds0, p0, q0, hargs, rfl, rfl, h0, r0⟩ := trodAll_cons hA
 obtain ⟨v1, vs1, d1, ds1, p1, q1, rfl, rfl, rfl, h1, r1⟩ := trodAll_cons r0
 obtain ⟨rfl, rfl, rfl⟩ := trodAll_nil r1
 obtain rfl : args = #[v0, v1] := by cases args; simp_all
 obtain ⟨rfl, rfl⟩ := trodVars_none hV
 have k0 := h0
 have lt0 : ∀ x ∈ p0, x.block < W.heap.size := by obtain ⟨m, hm⟩ := k0; exact DataW.trod_lt m _ _ _ hm
 have hv0 := hval 0 26 v0 rfl rfl
 unfold Value.okWide at hv0
 rw [Try.underlying26] at hv0
 obtain ⟨cs0, rfl, _⟩ := hv0
 obtain ⟨fuel0, hf0⟩ := h0
 obtain ⟨ts0, t0, u0⟩ := open_trod opens fuel0 26 _ _ (by simp) hf0
 obtain ⟨x0, rfl, ok0⟩ := typed_t26 fuel0 t0
 have k1 := h1
 have lt1 : ∀ x ∈ p1, x.block < W.heap.size := by obtain ⟨m, hm⟩ := k1; exact DataW.trod_lt m _ _ _ hm
 have hv1 := hval 1 26 v1 rfl rfl
 unfold Value.okWide at hv1
 rw [Try.underlying26] at hv1
 obtain ⟨cs1, rfl, _⟩ := hv1
 obtain ⟨fuel1, hf1⟩ := h1
 obtain ⟨ts1, t1, u1⟩ := open_trod opens fuel1 26 _ _ (by simp) hf1
 obtain ⟨x1, rfl, ok1⟩ := typed_t26 fuel1 t1
 clear hA0 hval0 hsz0
 have hden := laws_FnExactGap_ok x0 x1 true (law_FnExactGap x0 ok0 x1 ok1)
 refine (law_calls (w := W) soundA hden (args_cons (arg_agg u0) (args_cons (arg_agg u1) args_nil)) trivial).mono fun e W' ⟨he, bel⟩ => ?_
 subst he
 exact ⟨_, rfl, _, _, _, [], _, [], hW', trodAll_mk1 (shut_bool Try.underlying4 _), (trodAll_cons_mk (Below.trod laidOut (by kernel_rfl) (of_decide_eq_true (by kernel_rfl)) k0 bel lt0) (trodAll_cons_mk (Below.trod laidOut (by kernel_rfl) (of_decide_eq_true (by kernel_rfl)) k1 bel lt1) trodAll_mk0)), rfl, bel.frame _, fun h => by cases h⟩
theorem over : Rows.fnExactGapRow.holds Try.pinned (OpenSpec.ofChange Rows.fnExactGapSpec) :=
 OpenClaim.holds_of_wide 3 Try.f3 rfl rfl rfl rfl rfl rfl rfl ⟨rfl, rfl, rfl, rfl, rfl⟩ rfl rfl rfl rfl rfl fa_named Try.func3 fa_closed
  fa_inst fa_wrap
  (fun os started H enc _ => lifted os started H enc)
theorem proved : Rows.FnExactGapSaid := over
#print axioms proved
end Go.Proofs.Ytgihjlfmnfbcaaa.fnExactGap
namespace Go.Proofs.Ytgihjlfmnfbcaaa
theorem fnExactGap_holds : Rows.FnExactGapSaid := fnExactGap.proved
end Go.Proofs.Ytgihjlfmnfbcaaa
