/- The row of FnExactWriteOps: it holds of the program for all arguments; no condition. -/
import Derived.Test.YtkbbbbeagnfliaaGreatDoorTAG
import Derived.Test.YtkbbbbeagnfliaaGreatDoorTFA
import Derived.Test.YtkbbbbeagnfliaaGreatDoorTLL
import Derived.Test.YtkbbbbeagnfliaaGreatDoorTLExactWriteOps
import Derived.Test.YtkbbbbeagnfliaaGreatDoorRows
import Derived.Test.YtkbbbbeagnfliaaGreatDoorTie
import Derived.Test.YtkbbbbeagnfliaaGreatDoorCards
import Derived.Lay
import Derived.LaidLaws
import Derived.LaidOnce
import Derived.SevenTiedAt
import Derived.Lib.LaidU8
import Derived.Handed
import Derived.WalkKit
import Derived.ProofKit
import Derived.OpenShut
import Derived.ChangeOld
import Derived.Below
import Derived.SizedLaws
namespace Go.Proofs.YtkbbbbeagnfliaaGreatDoor.fnExactWriteOps
open Go.Lib Go.Shelf Go.ChangeShapes Go.WideShapes Go.ChangeAt Go.RowKit TT
set_option linter.unusedVariables false
section
variable {P : Program}
theorem typed_intw {n : Nat} {t : TypeId} {ts : List T} (hu : P.underlying t = some (.int .i64)) (h : Typed P n t ts) : ∃ x, ts = [.v (.int .i64 x)] ∧ (-9223372036854775808 ≤ x ∧ x < 9223372036854775808) := by
 cases n with
 | zero => exact h.elim
 | succ n =>
  unfold Typed at h; rw [hu] at h
  obtain ⟨x, h, hw⟩ := h
  refine ⟨x, h, ?_⟩
  simp only [Lit.wf] at hw
  simp [IntKind.min, IntKind.max, IntKind.signed, IntKind.bits] at hw
  omega
theorem typed_byte' {n : Nat} {t : TypeId} {ts : List T} (hu : P.underlying t = some (.int .u8)) (h : Typed P n t ts) : ∃ x, ts = rK .u8 x ∧ (0 ≤ x ∧ x < 256) := by
 cases n with
 | zero => exact h.elim
 | succ n =>
  unfold Typed at h; rw [hu] at h
  obtain ⟨x, h, hw⟩ := h
  refine ⟨x, h, ?_⟩
  simp only [Lit.wf] at hw
  simp [IntKind.min, IntKind.max, IntKind.signed, IntKind.bits] at hw
  omega
theorem typed_intw' {n : Nat} {t : TypeId} {ts : List T} (hu : P.underlying t = some (.int .i64)) (h : Typed P n t ts) : ∃ x, ts = rI x ∧ (-9223372036854775808 ≤ x ∧ x < 9223372036854775808) := typed_intw hu h
theorem typed_bool {n : Nat} {t : TypeId} {ts : List T} (hu : P.underlying t = some .bool) (h : Typed P n t ts) : ∃ b, ts = [.v (.bool b)] := by
 cases n with
 | zero => exact h.elim
 | succ n => unfold Typed at h; rw [hu] at h; exact h
theorem typed_string {n : Nat} {t : TypeId} {ts : List T} (hu : P.underlying t = some .string) (h : Typed P n t ts) : ∃ s, ts = [.v (.string s)] ∧ s.size ≤ maxLen := by
 cases n with
 | zero => exact h.elim
 | succ n => unfold Typed at h; rw [hu] at h; exact h
theorem typed_string' {n : Nat} {t : TypeId} {ts : List T} (hu : P.underlying t = some .string) (h : Typed P n t ts) : ∃ s, ts = rS s ∧ s.size ≤ maxLen := typed_string hu h
theorem typed_slice {n : Nat} {t e : TypeId} {ts : List T} (hu : P.underlying t = some (.slice e)) (h : Typed P n t ts) : ∃ m rows, m < n ∧ ts = [.sl false rows] ∧ rows.length ≤ maxLen ∧ ∀ row ∈ rows, Typed P m e row := by
 cases n with
 | zero => exact h.elim
 | succ n => unfold Typed at h; rw [hu] at h; obtain ⟨rows, h1, h2, h3⟩ := h; exact ⟨n, rows, Nat.lt_succ_self n, h1, h2, h3⟩
theorem typed_struct {n : Nat} {t : TypeId} {ts : List T} {fs : Array Field} (hu : P.underlying t = some (.struct fs)) (h : Typed P n t ts) : ∃ m, m < n ∧ ∃ parts : List (List T), ts = parts.flatten ∧ parts.length = fs.toList.length ∧ ∀ (i : Nat) f p, fs.toList[i]? = some f → parts[i]? = some p → Typed P m f.type p := by
 cases n with
 | zero => exact h.elim
 | succ n => unfold Typed at h; rw [hu] at h; exact ⟨n, Nat.lt_succ_self n, h⟩
theorem rows_of {α : Type} {f : α → List T} {p : α → Prop} : ∀ {rows : TT.Rows}, (∀ row ∈ rows, ∃ x, row = f x ∧ p x) → ∃ xs : List α, rows = xs.map f ∧ ∀ x ∈ xs, p x
 | [], _ => ⟨[], rfl, by simp⟩
 | r :: rs, h => by
  obtain ⟨x, h1, h2⟩ := h r (List.mem_cons_self ..)
  obtain ⟨xs, h3, h4⟩ := rows_of fun row hr => h row (List.mem_cons_of_mem _ hr)
  refine ⟨x :: xs, by simp [h1, h3], fun y hy => ?_⟩
  rcases List.mem_cons.1 hy with rfl | hy
  ·exact h2
  ·exact h4 y hy
end
theorem typed_t199 : ∀ (n : Nat) {ts : List T}, Typed Tryz.prog n 199 ts → ∃ x : GPred, ts = GPred.row x ∧ x.ok := by
 intro n ts h
 obtain ⟨m, hm, parts, rfl, hl, hp⟩ := typed_struct Tryz.underlying199 h
 match parts, hl with
 | [p0, p1, p2, p3, p4], _ =>
  obtain ⟨x0, rfl, k0⟩ := typed_intw Tryz.underlying3 (hp 0 _ p0 rfl rfl)
  obtain ⟨x1, rfl, k1⟩ := typed_intw Tryz.underlying3 (hp 1 _ p1 rfl rfl)
  obtain ⟨x2, rfl, k2⟩ := typed_string Tryz.underlying9 (hp 2 _ p2 rfl rfl)
  obtain ⟨x3, rfl, k3⟩ := typed_string Tryz.underlying9 (hp 3 _ p3 rfl rfl)
  obtain ⟨x4, rfl, k4⟩ := typed_string Tryz.underlying9 (hp 4 _ p4 rfl rfl)
  exact ⟨⟨x0, x1, x2, x3, x4⟩, by simp [GPred.row_eq], (GPred.ok_iff _).2 ⟨k0, k1, k2, k3, k4⟩⟩
theorem typed_t136 : ∀ (n : Nat) {ts : List T}, Typed Tryz.prog n 136 ts → ∃ x : GStp, ts = GStp.row false x ∧ x.ok := by
 intro n ts h
 obtain ⟨m, hm, parts, rfl, hl, hp⟩ := typed_struct Tryz.underlying136 h
 match parts, hl with
 | [p0, p1, p2, p3, p4], _ =>
  obtain ⟨x0, rfl⟩ := typed_bool Tryz.underlying4 (hp 0 _ p0 rfl rfl)
  obtain ⟨x1, rfl, k1⟩ := typed_intw Tryz.underlying3 (hp 1 _ p1 rfl rfl)
  obtain ⟨x2, rfl, k2⟩ := typed_string Tryz.underlying9 (hp 2 _ p2 rfl rfl)
  obtain ⟨x3, rfl, k3⟩ := typed_string Tryz.underlying9 (hp 3 _ p3 rfl rfl)
  obtain ⟨m4, r4, lt4, rfl, l4, q4⟩ := typed_slice Tryz.underlying134 (hp 4 _ p4 rfl rfl)
  obtain ⟨x4, rfl, f4⟩ := rows_of (f := GPred.row) fun row hr => typed_t199 _ (q4 row hr)
  exact ⟨⟨x0, x1, x2, x3, x4⟩, by simp [GStp.row_eq], (GStp.ok_iff _).2 ⟨k1, k2, k3, ⟨by simpa using l4, f4⟩⟩⟩
theorem typed_t32 : ∀ (n : Nat) {ts : List T}, Typed Tryz.prog n 32 ts → ∃ x : GSel, ts = GSel.row false x ∧ x.ok := by
 intro n ts h
 obtain ⟨m, hm, parts, rfl, hl, hp⟩ := typed_struct Tryz.underlying32 h
 match parts, hl with
 | [p0, p1], _ =>
  obtain ⟨x0, rfl, k0⟩ := typed_string Tryz.underlying9 (hp 0 _ p0 rfl rfl)
  obtain ⟨m1, r1, lt1, rfl, l1, q1⟩ := typed_slice Tryz.underlying30 (hp 1 _ p1 rfl rfl)
  obtain ⟨x1, rfl, f1⟩ := rows_of (f := (GStp.row false)) fun row hr => typed_t136 _ (q1 row hr)
  exact ⟨⟨x0, x1⟩, by simp [GSel.row_eq], (GSel.ok_iff _).2 ⟨k0, ⟨by simpa using l1, f1⟩⟩⟩
theorem typed_t102 : ∀ (n : Nat) {ts : List T}, Typed Tryz.prog n 102 ts → ∃ x : GDecl, ts = GDecl.row x ∧ x.ok := by
 intro n ts h
 obtain ⟨m, hm, parts, rfl, hl, hp⟩ := typed_struct Tryz.underlying102 h
 match parts, hl with
 | [p0, p1], _ =>
  obtain ⟨x0, rfl, k0⟩ := typed_string Tryz.underlying9 (hp 0 _ p0 rfl rfl)
  obtain ⟨x1, rfl, k1⟩ := typed_string Tryz.underlying9 (hp 1 _ p1 rfl rfl)
  exact ⟨⟨x0, x1⟩, by simp [GDecl.row_eq], (GDecl.ok_iff _).2 ⟨k0, k1⟩⟩
theorem typed_t169 : ∀ (n : Nat) {ts : List T}, Typed Tryz.prog n 169 ts → ∃ x : GAttr, ts = GAttr.row x ∧ x.ok := by
 intro n ts h
 obtain ⟨m, hm, parts, rfl, hl, hp⟩ := typed_struct Tryz.underlying169 h
 match parts, hl with
 | [p0, p1, p2, p3], _ =>
  obtain ⟨x0, rfl, k0⟩ := typed_string Tryz.underlying9 (hp 0 _ p0 rfl rfl)
  obtain ⟨x1, rfl, k1⟩ := typed_string Tryz.underlying9 (hp 1 _ p1 rfl rfl)
  obtain ⟨x2, rfl, k2⟩ := typed_string Tryz.underlying9 (hp 2 _ p2 rfl rfl)
  obtain ⟨x3, rfl, k3⟩ := typed_string Tryz.underlying9 (hp 3 _ p3 rfl rfl)
  exact ⟨⟨x0, x1, x2, x3⟩, by simp [GAttr.row_eq], (GAttr.ok_iff _).2 ⟨k0, k1, k2, k3⟩⟩
theorem typed_t100 : ∀ (n : Nat) {ts : List T}, Typed Tryz.prog n 100 ts → ∃ x : GNode, ts = GNode.row false x ∧ x.ok := by
 intro n
 induction n using Nat.strongRecOn with
 | _ n ih =>
  intro ts h
  obtain ⟨m, hm, parts, rfl, hl, hp⟩ := typed_struct Tryz.underlying100 h
  match parts, hl with
  | [p0, p1, p2, p3, p4, p5, p6, p7], _ =>
   obtain ⟨x0, rfl, k0⟩ := typed_intw Tryz.underlying3 (hp 0 _ p0 rfl rfl)
   obtain ⟨x1, rfl, k1⟩ := typed_string Tryz.underlying9 (hp 1 _ p1 rfl rfl)
   obtain ⟨x2, rfl, k2⟩ := typed_string Tryz.underlying9 (hp 2 _ p2 rfl rfl)
   obtain ⟨x3, rfl, k3⟩ := typed_string Tryz.underlying9 (hp 3 _ p3 rfl rfl)
   obtain ⟨m4, r4, lt4, rfl, l4, q4⟩ := typed_slice Tryz.underlying34 (hp 4 _ p4 rfl rfl)
   obtain ⟨x4, rfl, f4⟩ := rows_of (f := GDecl.row) fun row hr => typed_t102 _ (q4 row hr)
   obtain ⟨m5, r5, lt5, rfl, l5, q5⟩ := typed_slice Tryz.underlying98 (hp 5 _ p5 rfl rfl)
   obtain ⟨x5, rfl, f5⟩ := rows_of (f := GAttr.row) fun row hr => typed_t169 _ (q5 row hr)
   obtain ⟨m6, r6, lt6, rfl, l6, q6⟩ := typed_slice Tryz.underlying33 (hp 6 _ p6 rfl rfl)
   obtain ⟨x6, rfl, f6⟩ := rows_of (f := (GNode.row false)) fun row hr => ih m6 (by omega) (q6 row hr)
   obtain ⟨x7, rfl, k7⟩ := typed_string Tryz.underlying9 (hp 7 _ p7 rfl rfl)
   exact ⟨⟨x0, x1, x2, x3, x4, x5, x6, x7⟩, by simp [GNode.row_eq], (GNode.ok_iff _).2 ⟨k0, k1, k2, k3, ⟨by simpa using l4, f4⟩, ⟨by simpa using l5, f5⟩, ⟨by simpa using l6, f6⟩, k7⟩⟩
theorem typed_t36 : ∀ (n : Nat) {ts : List T}, Typed Tryz.prog n 36 ts → ∃ x : GOp, ts = GOp.row false x ∧ x.ok := by
 intro n ts h
 obtain ⟨m, hm, parts, rfl, hl, hp⟩ := typed_struct Tryz.underlying36 h
 match parts, hl with
 | [p0, p1, p2, p3, p4, p5, p6, p7, p8], _ =>
  obtain ⟨x0, rfl, k0⟩ := typed_intw Tryz.underlying3 (hp 0 _ p0 rfl rfl)
  obtain ⟨x1, rfl, k1⟩ := typed_t32 _ (hp 1 _ p1 rfl rfl)
  obtain ⟨x2, rfl, k2⟩ := typed_intw Tryz.underlying3 (hp 2 _ p2 rfl rfl)
  obtain ⟨x3, rfl, k3⟩ := typed_intw Tryz.underlying3 (hp 3 _ p3 rfl rfl)
  obtain ⟨x4, rfl, k4⟩ := typed_string Tryz.underlying9 (hp 4 _ p4 rfl rfl)
  obtain ⟨x5, rfl, k5⟩ := typed_string Tryz.underlying9 (hp 5 _ p5 rfl rfl)
  obtain ⟨x6, rfl, k6⟩ := typed_intw Tryz.underlying3 (hp 6 _ p6 rfl rfl)
  obtain ⟨m7, r7, lt7, rfl, l7, q7⟩ := typed_slice Tryz.underlying33 (hp 7 _ p7 rfl rfl)
  obtain ⟨x7, rfl, f7⟩ := rows_of (f := (GNode.row false)) fun row hr => typed_t100 _ (q7 row hr)
  obtain ⟨m8, r8, lt8, rfl, l8, q8⟩ := typed_slice Tryz.underlying34 (hp 8 _ p8 rfl rfl)
  obtain ⟨x8, rfl, f8⟩ := rows_of (f := GDecl.row) fun row hr => typed_t102 _ (q8 row hr)
  exact ⟨⟨x0, x1, x2, x3, x4, x5, x6, x7, x8⟩, by simp [GOp.row_eq, GSel.row_eq], (GOp.ok_iff _).2 ⟨k0, k1, k2, k3, k4, k5, k6, ⟨by simpa using l7, f7⟩, ⟨by simpa using l8, f8⟩⟩⟩
theorem own : ownKnob Tryz.prog.godebug = none := by kernel_rfl
theorem laidOut : laidOutB Tryz.prog = true := by kernel_rfl
theorem opens : openB Tryz.prog [22, 36, 3, 32, 9, 30, 136, 4, 134, 199, 33, 100, 34, 102, 98, 169] = true := by kernel_rfl
theorem first_eq : Rows.laid_unicode_utf8_first = firstData := by kernel_rfl
theorem accept_eq : (Rows.laid_unicode_utf8_acceptRanges : DataW Unit) = acceptData := by kernel_rfl
theorem cell_lt {w : World} {b o : Nat} {u : Value} (h : w.cell? ⟨b, o, none⟩ = some u) : b < w.heap.size := by
 rcases Nat.lt_or_ge b w.heap.size with h' | h'
 ·exact h'
 ·exfalso
  have : w.heap[b]? = none := Array.getElem?_eq_none h'
  simp [World.cell?, this] at h
set_option maxRecDepth 100000 in
theorem lifted (os : Os) (started : os.Started) (H : Type) (enc : TypeId × Value → H) :
  ReturnsInHanded {} Tryz.checked os 3 .any (fun w args => (Rows.fnExactWriteOpsSpec.pre enc Tryz.prog Tryz.f3 [] false w args ∧ laidMetH Tryz.prog Rows.fnExactWriteOpsRow.laid w) ∧ sizedMet enc Tryz.prog Tryz.f3 (OpenSpec.ofChange Rows.fnExactWriteOpsSpec) false w args) (Rows.fnExactWriteOpsSpec.post enc Tryz.prog Tryz.f3 false true false false) := by
 refine TT.ret_shaped (C := Tryz.checked) (X := fun w _ => laidMetH Tryz.prog Rows.fnExactWriteOpsRow.laid w) (fun _ _ _ hh h => h.of_heap hh) own started (by kernel_rfl) Tryz.func3
  (ChangeSpec.witness_shaped (enc := enc) (C := Tryz.checked) (os := os) (X := fun w _ => laidMetH Tryz.prog Rows.fnExactWriteOpsRow.laid w) false (World.laidAll Tryz.prog os Rows.fnExactWriteOpsRow.laid) #[.slice none 0 0] 8 (World.laidAll_os _ _ _)
    (World.shaped_of_ZipB (by kernel_rfl) (by kernel_rfl)) (by kernel_rfl) (by kernel_rfl) (by kernel_rfl)
    (by rw [MakeChecks.laidMetH_plain _ _ _ (by kernel_rfl)]; exact laidMet_laidAll _ (by kernel_rfl) (by kernel_rfl))) ?_
 intro W base args ds gs before hSh hval0 hW hsz0 hL0
 have hL : laidMetH Tryz.prog Rows.fnExactWriteOpsRow.laid W := hL0
 rw [MakeChecks.laidMetH_plain _ _ _ (by kernel_rfl)] at hL
 have hU : Lib.Utf8Tabs 2 3 W := utf8Tabs_of_reads (ρ := Tryz.lays197_ren) { Tryz.lays197 with } ⟨by kernel_rfl, by kernel_rfl, by kernel_rfl, by kernel_rfl, by kernel_rfl, by kernel_rfl, by kernel_rfl⟩ (first_eq ▸ Lib.laidMet.reads hL (.tail _ (.tail _ (.tail _ (.tail _ (.tail _ (.tail _ (.tail _ (.head _))))))))) (accept_eq ▸ Lib.laidMet.reads hL (.tail _ (.tail _ (.tail _ (.head _)))))
 have hM : ∃ m, W.cell? ⟨0, 0, none⟩ = some (.int .i64 m) := Tryz.laysM145.s1_3 W hSh
 have hF : Lib.TabIs Tryz.prog W "unicode.asciiFold" .u16 foldL := tabIs_of_reads (Lib.laidMet.reads hL (.tail _ (.tail _ (.tail _ (.tail _ (.head _)))))) (by kernel_rfl) (g := 4) (t := 233) (n := 128) (e := 232) (by kernel_rfl) (by kernel_rfl) (by kernel_rfl) (by kernel_rfl) (by kernel_rfl) (by kernel_rfl)
 have hP : Lib.TabIs Tryz.prog W "internal/strconv.uint64pow10" .u64 Lib.pow10Tab := tabIs_of_reads (Lib.laidMet.reads hL (.tail _ (.tail _ (.head _)))) (by kernel_rfl) (g := 1) (t := 221) (n := 20) (e := 157) (by kernel_rfl) (by kernel_rfl) (by kernel_rfl) (by kernel_rfl) (by kernel_rfl) (by kernel_rfl)
 have hTabs : GG.ok (fun b => b < W.heap.size) W := ⟨⟨cell_lt (hU.1 0 (by decide)), cell_lt (hU.2 0 (by decide)).1, hU⟩, ⟨⟨by obtain ⟨m, hm⟩ := hM; exact cell_lt hm, hM⟩, ⟨⟨cell_lt (Lib.TabIs.cell hF (by kernel_rfl) 0 (of_decide_eq_true rfl)), hF⟩, ⟨cell_lt (Lib.TabIs.cell hP (by kernel_rfl) 0 (by decide)), hP⟩⟩⟩⟩
 have hval : ∀ (j : Nat) t v, Tryz.f3.params[j]? = some t → args[j]? = some v → Value.okWide Tryz.prog W .any base t v := hval0
 have hW' := hW
 obtain ⟨p, q, hA0, hV, rfl, hfz, hnd⟩ := hW
 have hA : DataW.TrodAll enc Tryz.prog W 0 (fun _ => true) true Tryz.f3.params.toList args.toList ds p := hA0
 rw [Tryz.params3] at hA hval
 obtain ⟨v0, vs0, d0, ds0, p0, q0, hargs, rfl, rfl, h0, r0⟩ := trodAll_cons hA
 obtain ⟨rfl, rfl, rfl⟩ := trodAll_nil r0
 obtain rfl : args = #[v0] := by cases args; simp_all
 obtain ⟨rfl, rfl⟩ := trodVars_none hV
 have k0 := h0
 have lt0 : ∀ x ∈ p0, x.block < W.heap.size := by obtain ⟨m, hm⟩ := k0; exact DataW.trod_lt m _ _ _ hm
 have hv0 := hval 0 22 v0 rfl rfl
 unfold Value.okWide at hv0
 rw [Tryz.underlying22] at hv0
 have hc0 : v0.cells.toList = [v0] := by
  cases v0 <;> first | rfl | exact (show False from hv0).elim
 obtain ⟨fuel0, hf0⟩ := h0
 obtain ⟨ts0, t0, u0⟩ := open_trod opens fuel0 22 _ _ (by simp) hf0
 obtain ⟨m0, rows0, _, rfl, l0, q100⟩ := typed_slice Tryz.underlying22 t0
 obtain ⟨x0, rfl, ok0⟩ := rows_of (f := (GOp.row false)) fun row hr => typed_t36 _ (q100 row hr)
 rw [hc0] at u0
 clear hA0 hval0 hsz0
 have hden := laws_FnExactWriteOps_ok x0 true (law_FnExactWriteOps x0 (by simpa using l0) ok0)
 refine (law_calls (w := W) soundA hden (args_cons (arg_one u0) args_nil) hTabs).mono fun e W' ⟨he, bel⟩ => ?_
 subst he
 exact ⟨_, rfl, _, _, _, [], _, [], hW', trodAll_mk1 (shut_bool Tryz.underlying4 _), (trodAll_cons_mk (Below.trod laidOut (by kernel_rfl) (of_decide_eq_true (by kernel_rfl)) k0 bel lt0) trodAll_mk0), rfl, bel.frame _, fun h => by cases h⟩
theorem over : Rows.fnExactWriteOpsRow.holds Tryz.pinned (OpenSpec.ofChange Rows.fnExactWriteOpsSpec) :=
 OpenClaim.holds_of_wide 3 Tryz.f3 rfl rfl rfl rfl rfl rfl rfl ⟨rfl, rfl, rfl, rfl, rfl⟩ rfl rfl rfl rfl rfl fa_named Tryz.func3 fa_closed
  fa_inst fa_wrap
  (fun os started H enc _ => lifted os started H enc)
theorem card : Rows.FnExactWriteOpsCardSaid :=
 Claim7.holds_tied_plain_at .later [] [.data, .data, .data, .data, .data, .data, .pinned, .pinned] true (true, "b6d8d3c542ea237cb70f3e7cd29dac9a821b77adf0c3ba106e4f921736b0c05f") false over (fun _ h => by cases h) fa_text (fun _ h => by cases h) fnExactWriteOps_row_tie rfl ⟨rfl, rfl⟩ fa_main rfl
  (fun f fn hf hfn => by
    obtain rfl : f = 3 := Option.some.inj (fa_named.symm.trans hf) |>.symm
    obtain rfl : fn = Tryz.f3 := (Option.some.inj (Tryz.func3.symm.trans hfn)).symm
    exact ⟨fa_looks, fun j t ht => by
     rw [Tryz.params3] at ht
     have hm : t ∈ [22] := by have hh := Array.mem_of_getElem? ht; simp at hh; first | (subst hh; simp) | (rcases hh with h | h <;> simp [h]) | (rcases hh with h | h | h <;> simp [h])
     exact (show Tryz.prog.wantsStandIn t = false by simpa using List.all_eq_true.1 fa_plain t hm)⟩)
  fa_goes
#print axioms card
end Go.Proofs.YtkbbbbeagnfliaaGreatDoor.fnExactWriteOps
namespace Go.Proofs.YtkbbbbeagnfliaaGreatDoor
theorem fnExactWriteOps_holds : Rows.FnExactWriteOpsCardSaid := fnExactWriteOps.card
end Go.Proofs.YtkbbbbeagnfliaaGreatDoor
