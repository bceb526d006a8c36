/- The row of FnWayRound: it holds of the program for all arguments; no condition. -/
import Derived.Test.YtdpdfjkjlkmjaaaTAG
import Derived.Test.YtdpdfjkjlkmjaaaTFA
import Derived.Test.YtdpdfjkjlkmjaaaTLL
import Derived.Test.YtdpdfjkjlkmjaaaTLWayRound
import Derived.Test.YtdpdfjkjlkmjaaaRows
import Derived.WalkKit
import Derived.ProofKit
import Derived.OpenShut
import Derived.ChangeOld
import Derived.Below
import Derived.SizedLaws
namespace Go.Proofs.Ytdpdfjkjlkmjaaa.fnWayRound
open Go.ChangeShapes Go.WideShapes Go.ChangeAt Go.RowKit TT
set_option linter.unusedVariables false
section
variable {P : Program}
theorem typed_intw {n : Nat} {t : TypeId} {ts : List T} (hu : P.underlying t = some (.int .i64)) (h : Typed P n t ts) : ∃ x, ts = [.v (.int .i64 x)] ∧ (-9223372036854775808 ≤ x ∧ x < 9223372036854775808) := by
 cases n with
 | zero => exact h.elim
 | succ n =>
  unfold Typed at h; rw [hu] at h
  obtain ⟨x, h, hw⟩ := h
  refine ⟨x, h, ?_⟩
  simp only [Lit.wf] at hw
  simp [IntKind.min, IntKind.max, IntKind.signed, IntKind.bits] at hw
  omega
theorem typed_byte' {n : Nat} {t : TypeId} {ts : List T} (hu : P.underlying t = some (.int .u8)) (h : Typed P n t ts) : ∃ x, ts = rK .u8 x ∧ (0 ≤ x ∧ x < 256) := by
 cases n with
 | zero => exact h.elim
 | succ n =>
  unfold Typed at h; rw [hu] at h
  obtain ⟨x, h, hw⟩ := h
  refine ⟨x, h, ?_⟩
  simp only [Lit.wf] at hw
  simp [IntKind.min, IntKind.max, IntKind.signed, IntKind.bits] at hw
  omega
theorem typed_intw' {n : Nat} {t : TypeId} {ts : List T} (hu : P.underlying t = some (.int .i64)) (h : Typed P n t ts) : ∃ x, ts = rI x ∧ (-9223372036854775808 ≤ x ∧ x < 9223372036854775808) := typed_intw hu h
theorem typed_bool {n : Nat} {t : TypeId} {ts : List T} (hu : P.underlying t = some .bool) (h : Typed P n t ts) : ∃ b, ts = [.v (.bool b)] := by
 cases n with
 | zero => exact h.elim
 | succ n => unfold Typed at h; rw [hu] at h; exact h
theorem typed_string {n : Nat} {t : TypeId} {ts : List T} (hu : P.underlying t = some .string) (h : Typed P n t ts) : ∃ s, ts = [.v (.string s)] ∧ s.size ≤ maxLen := by
 cases n with
 | zero => exact h.elim
 | succ n => unfold Typed at h; rw [hu] at h; exact h
theorem typed_string' {n : Nat} {t : TypeId} {ts : List T} (hu : P.underlying t = some .string) (h : Typed P n t ts) : ∃ s, ts = rS s ∧ s.size ≤ maxLen := typed_string hu h
theorem typed_slice {n : Nat} {t e : TypeId} {ts : List T} (hu : P.underlying t = some (.slice e)) (h : Typed P n t ts) : ∃ m rows, m < n ∧ ts = [.sl false rows] ∧ rows.length ≤ maxLen ∧ ∀ row ∈ rows, Typed P m e row := by
 cases n with
 | zero => exact h.elim
 | succ n => unfold Typed at h; rw [hu] at h; obtain ⟨rows, h1, h2, h3⟩ := h; exact ⟨n, rows, Nat.lt_succ_self n, h1, h2, h3⟩
theorem typed_struct {n : Nat} {t : TypeId} {ts : List T} {fs : Array Field} (hu : P.underlying t = some (.struct fs)) (h : Typed P n t ts) : ∃ m, m < n ∧ ∃ parts : List (List T), ts = parts.flatten ∧ parts.length = fs.toList.length ∧ ∀ (i : Nat) f p, fs.toList[i]? = some f → parts[i]? = some p → Typed P m f.type p := by
 cases n with
 | zero => exact h.elim
 | succ n => unfold Typed at h; rw [hu] at h; exact ⟨n, Nat.lt_succ_self n, h⟩
theorem rows_of {α : Type} {f : α → List T} {p : α → Prop} : ∀ {rows : TT.Rows}, (∀ row ∈ rows, ∃ x, row = f x ∧ p x) → ∃ xs : List α, rows = xs.map f ∧ ∀ x ∈ xs, p x
 | [], _ => ⟨[], rfl, by simp⟩
 | r :: rs, h => by
  obtain ⟨x, h1, h2⟩ := h r (List.mem_cons_self ..)
  obtain ⟨xs, h3, h4⟩ := rows_of fun row hr => h row (List.mem_cons_of_mem _ hr)
  refine ⟨x :: xs, by simp [h1, h3], fun y hy => ?_⟩
  rcases List.mem_cons.1 hy with rfl | hy
  ·exact h2
  ·exact h4 y hy
end
theorem own : ownKnob Try.prog.godebug = none := by kernel_rfl
theorem laidOut : laidOutB Try.prog = true := by kernel_rfl
theorem opens : openB Try.prog [22, 5] = true := by kernel_rfl
set_option maxRecDepth 100000 in
theorem lifted (os : Os) (started : os.Started) (H : Type) (enc : TypeId × Value → H) :
  ReturnsInHanded {} Try.checked os 3 .any (Rows.fnWayRoundSpec.pre6 enc Try.prog Try.f3 Rows.fnWayRoundRow.domain false) (Rows.fnWayRoundSpec.post enc Try.prog Try.f3 false true false false) := by
 refine returnsInHanded_of_change_sized (C := Try.checked) own started (by kernel_rfl) Try.func3
  (ChangeSpec.witness6 (enc := enc) (C := Try.checked) false ⟨#[], #[.slice none 0 0], []⟩ 8 (by kernel_rfl) (by kernel_rfl) (by kernel_rfl) (by kernel_rfl)) ?_
 intro W base args ds gs before hval0 hW hcnd hsz0 _
 have hval : ∀ (j : Nat) t v, Try.f3.params[j]? = some t → args[j]? = some v → Value.okWide Try.prog W .any base t v := hval0
 have hW' := hW
 obtain ⟨p, q, hA0, hV, rfl, hfz, hnd⟩ := hW
 have hA : DataW.TrodAll enc Try.prog W 0 (fun _ => true) true Try.f3.params.toList args.toList ds p := hA0
 rw [Try.params3] at hA hval
 obtain ⟨v0, vs0, d0, ds0, p0, q0, hargs, rfl, rfl, h0, r0⟩ := trodAll_cons hA
 obtain ⟨rfl, rfl, rfl⟩ := trodAll_nil r0
 obtain rfl : args = #[v0] := by cases args; simp_all
 obtain ⟨rfl, rfl⟩ := trodVars_none hV
 have k0 := h0
 have lt0 : ∀ x ∈ p0, x.block < W.heap.size := by obtain ⟨m, hm⟩ := k0; exact DataW.trod_lt m _ _ _ hm
 have hv0 := hval 0 22 v0 rfl rfl
 unfold Value.okWide at hv0
 rw [Try.underlying22] at hv0
 have hc0 : v0.cells.toList = [v0] := by
  cases v0 <;> first | rfl | exact (show False from hv0).elim
 obtain ⟨fuel0, hf0⟩ := h0
 obtain ⟨ts0, t0, u0⟩ := open_trod opens fuel0 22 _ _ (by simp) hf0
 obtain ⟨m0, rows0, _, rfl, l0, q100⟩ := typed_slice Try.underlying22 t0
 obtain ⟨x0, rfl, ok0⟩ := rows_of (f := (rK .u8)) fun row hr => typed_byte' Try.underlying5 (q100 row hr)
 rw [hc0] at u0
 clear hA0 hval0 hsz0
 have hden := laws_FnWayRound_ok x0 true (law_FnWayRound x0 (by simpa using l0) ok0)
 refine (law_calls (w := W) soundA hden (args_cons (arg_one u0) args_nil) trivial).mono fun e W' ⟨he, bel⟩ => ?_
 subst he
 exact ⟨_, rfl, _, _, _, [], _, [], hW', trodAll_mk1 (shut_bool Try.underlying4 _), (trodAll_cons_mk (Below.trod laidOut (by kernel_rfl) (of_decide_eq_true (by kernel_rfl)) k0 bel lt0) trodAll_mk0), rfl, bel.frame _, fun h => by cases h⟩
theorem over : Rows.fnWayRoundRow.holds Try.pinned (OpenSpec.ofChange Rows.fnWayRoundSpec) :=
 OpenClaim.holds_of_wide 3 Try.f3 rfl rfl rfl rfl rfl rfl rfl ⟨rfl, rfl, rfl, rfl, rfl⟩ rfl rfl rfl rfl rfl fa_named Try.func3 fa_closed
  fa_inst fa_wrap
  (fun os started H enc _ => lifted os started H enc)
theorem proved : Rows.FnWayRoundSaid := over
#print axioms proved
end Go.Proofs.Ytdpdfjkjlkmjaaa.fnWayRound
namespace Go.Proofs.Ytdpdfjkjlkmjaaa
theorem fnWayRound_holds : Rows.FnWayRoundSaid := fnWayRound.proved
end Go.Proofs.Ytdpdfjkjlkmjaaa
