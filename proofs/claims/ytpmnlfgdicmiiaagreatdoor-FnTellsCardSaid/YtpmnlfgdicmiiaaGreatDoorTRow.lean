/- The row of FnTells: it holds of the program for all arguments; no condition. -/
import Derived.Test.YtpmnlfgdicmiiaaGreatDoorTAG
import Derived.Test.YtpmnlfgdicmiiaaGreatDoorTFA
import Derived.Test.YtpmnlfgdicmiiaaGreatDoorTLL
import Derived.Test.YtpmnlfgdicmiiaaGreatDoorTLTells
import Derived.Test.YtpmnlfgdicmiiaaGreatDoorRows
import Derived.Test.YtpmnlfgdicmiiaaGreatDoorTie
import Derived.Test.YtpmnlfgdicmiiaaGreatDoorCards
import Derived.Lay
import Derived.LaidLaws
import Derived.LaidOnce
import Derived.SevenTiedAt
import Derived.Lib.LaidU8
import Derived.Handed
import Derived.WalkKit
import Derived.ProofKit
import Derived.OpenShut
import Derived.ChangeOld
import Derived.Below
import Derived.SizedLaws
namespace Go.Proofs.YtpmnlfgdicmiiaaGreatDoor.fnTells
open Go.Lib Go.Shelf Go.ChangeShapes Go.WideShapes Go.ChangeAt Go.RowKit TT
set_option linter.unusedVariables false
section
variable {P : Program}
theorem typed_intw {n : Nat} {t : TypeId} {ts : List T} (hu : P.underlying t = some (.int .i64)) (h : Typed P n t ts) : ∃ x, ts = [.v (.int .i64 x)] ∧ (-9223372036854775808 ≤ x ∧ x < 9223372036854775808) := by
 cases n with
 | zero => exact h.elim
 | succ n =>
  unfold Typed at h; rw [hu] at h
  obtain ⟨x, h, hw⟩ := h
  refine ⟨x, h, ?_⟩
  simp only [Lit.wf] at hw
  simp [IntKind.min, IntKind.max, IntKind.signed, IntKind.bits] at hw
  omega
theorem typed_byte' {n : Nat} {t : TypeId} {ts : List T} (hu : P.underlying t = some (.int .u8)) (h : Typed P n t ts) : ∃ x, ts = rK .u8 x ∧ (0 ≤ x ∧ x < 256) := by
 cases n with
 | zero => exact h.elim
 | succ n =>
  unfold Typed at h; rw [hu] at h
  obtain ⟨x, h, hw⟩ := h
  refine ⟨x, h, ?_⟩
  simp only [Lit.wf] at hw
  simp [IntKind.min, IntKind.max, IntKind.signed, IntKind.bits] at hw
  omega
theorem typed_intw' {n : Nat} {t : TypeId} {ts : List T} (hu : P.underlying t = some (.int .i64)) (h : Typed P n t ts) : ∃ x, ts = rI x ∧ (-9223372036854775808 ≤ x ∧ x < 9223372036854775808) := typed_intw hu h
theorem typed_bool {n : Nat} {t : TypeId} {ts : List T} (hu : P.underlying t = some .bool) (h : Typed P n t ts) : ∃ b, ts = [.v (.bool b)] := by
 cases n with
 | zero => exact h.elim
 | succ n => unfold Typed at h; rw [hu] at h; exact h
theorem typed_string {n : Nat} {t : TypeId} {ts : List T} (hu : P.underlying t = some .string) (h : Typed P n t ts) : ∃ s, ts = [.v (.string s)] ∧ s.size ≤ maxLen := by
 cases n with
 | zero => exact h.elim
 | succ n => unfold Typed at h; rw [hu] at h; exact h
theorem typed_string' {n : Nat} {t : TypeId} {ts : List T} (hu : P.underlying t = some .string) (h : Typed P n t ts) : ∃ s, ts = rS s ∧ s.size ≤ maxLen := typed_string hu h
theorem typed_slice {n : Nat} {t e : TypeId} {ts : List T} (hu : P.underlying t = some (.slice e)) (h : Typed P n t ts) : ∃ m rows, m < n ∧ ts = [.sl false rows] ∧ rows.length ≤ maxLen ∧ ∀ row ∈ rows, Typed P m e row := by
 cases n with
 | zero => exact h.elim
 | succ n => unfold Typed at h; rw [hu] at h; obtain ⟨rows, h1, h2, h3⟩ := h; exact ⟨n, rows, Nat.lt_succ_self n, h1, h2, h3⟩
theorem typed_struct {n : Nat} {t : TypeId} {ts : List T} {fs : Array Field} (hu : P.underlying t = some (.struct fs)) (h : Typed P n t ts) : ∃ m, m < n ∧ ∃ parts : List (List T), ts = parts.flatten ∧ parts.length = fs.toList.length ∧ ∀ (i : Nat) f p, fs.toList[i]? = some f → parts[i]? = some p → Typed P m f.type p := by
 cases n with
 | zero => exact h.elim
 | succ n => unfold Typed at h; rw [hu] at h; exact ⟨n, Nat.lt_succ_self n, h⟩
theorem rows_of {α : Type} {f : α → List T} {p : α → Prop} : ∀ {rows : TT.Rows}, (∀ row ∈ rows, ∃ x, row = f x ∧ p x) → ∃ xs : List α, rows = xs.map f ∧ ∀ x ∈ xs, p x
 | [], _ => ⟨[], rfl, by simp⟩
 | r :: rs, h => by
  obtain ⟨x, h1, h2⟩ := h r (List.mem_cons_self ..)
  obtain ⟨xs, h3, h4⟩ := rows_of fun row hr => h row (List.mem_cons_of_mem _ hr)
  refine ⟨x :: xs, by simp [h1, h3], fun y hy => ?_⟩
  rcases List.mem_cons.1 hy with rfl | hy
  ·exact h2
  ·exact h4 y hy
end
theorem own : ownKnob Tryz.prog.godebug = none := by kernel_rfl
theorem laidOut : laidOutB Tryz.prog = true := by kernel_rfl
theorem opens : openB Tryz.prog [68, 5] = true := by kernel_rfl
theorem first_eq : Rows.laid_unicode_utf8_first = firstData := by kernel_rfl
theorem accept_eq : (Rows.laid_unicode_utf8_acceptRanges : DataW Unit) = acceptData := by kernel_rfl
theorem cell_lt {w : World} {b o : Nat} {u : Value} (h : w.cell? ⟨b, o, none⟩ = some u) : b < w.heap.size := by
 rcases Nat.lt_or_ge b w.heap.size with h' | h'
 ·exact h'
 ·exfalso
  have : w.heap[b]? = none := Array.getElem?_eq_none h'
  simp [World.cell?, this] at h
set_option maxRecDepth 100000 in
theorem lifted (os : Os) (started : os.Started) (H : Type) (enc : TypeId × Value → H) :
  ReturnsInHanded {} Tryz.checked os 5 .any (fun w args => (Rows.fnTellsSpec.pre enc Tryz.prog Tryz.f5 [] false w args ∧ laidMetH Tryz.prog Rows.fnTellsRow.laid w) ∧ sizedMet enc Tryz.prog Tryz.f5 (OpenSpec.ofChange Rows.fnTellsSpec) false w args) (Rows.fnTellsSpec.post enc Tryz.prog Tryz.f5 false true false false) := by
 refine TT.ret_shaped (C := Tryz.checked) (X := fun w _ => laidMetH Tryz.prog Rows.fnTellsRow.laid w) (fun _ _ _ hh h => h.of_heap hh) own started (by kernel_rfl) Tryz.func5
  (ChangeSpec.witness_shaped (enc := enc) (C := Tryz.checked) (os := os) (X := fun w _ => laidMetH Tryz.prog Rows.fnTellsRow.laid w) false (World.laidAll Tryz.prog os Rows.fnTellsRow.laid) #[.slice none 0 0] 8 (World.laidAll_os _ _ _)
    (World.shaped_of_ZipB (by kernel_rfl) (by kernel_rfl)) (by kernel_rfl) (by kernel_rfl) (by kernel_rfl)
    (by rw [MakeChecks.laidMetH_plain _ _ _ (by kernel_rfl)]; exact laidMet_laidAll _ (by kernel_rfl) (by kernel_rfl))) ?_
 intro W base args ds gs before hSh hval0 hW hsz0 hL0
 have hL : laidMetH Tryz.prog Rows.fnTellsRow.laid W := hL0
 rw [MakeChecks.laidMetH_plain _ _ _ (by kernel_rfl)] at hL
 have hU : Lib.Utf8Tabs 2 3 W := utf8Tabs_of_reads (ρ := Tryz.lays197_ren) { Tryz.lays197 with } ⟨by kernel_rfl, by kernel_rfl, by kernel_rfl, by kernel_rfl, by kernel_rfl, by kernel_rfl, by kernel_rfl⟩ (first_eq ▸ Lib.laidMet.reads hL (.tail _ (.tail _ (.tail _ (.tail _ (.tail _ (.tail _ (.tail _ (.head _))))))))) (accept_eq ▸ Lib.laidMet.reads hL (.tail _ (.tail _ (.tail _ (.head _)))))
 have hM : ∃ m, W.cell? ⟨0, 0, none⟩ = some (.int .i64 m) := Tryz.laysM145.s1_3 W hSh
 have hF : Lib.TabIs Tryz.prog W "unicode.asciiFold" .u16 foldL := tabIs_of_reads (Lib.laidMet.reads hL (.tail _ (.tail _ (.tail _ (.tail _ (.head _)))))) (by kernel_rfl) (g := 4) (t := 310) (n := 128) (e := 309) (by kernel_rfl) (by kernel_rfl) (by kernel_rfl) (by kernel_rfl) (by kernel_rfl) (by kernel_rfl)
 have hP : Lib.TabIs Tryz.prog W "internal/strconv.uint64pow10" .u64 Lib.pow10Tab := tabIs_of_reads (Lib.laidMet.reads hL (.tail _ (.tail _ (.head _)))) (by kernel_rfl) (g := 1) (t := 301) (n := 20) (e := 268) (by kernel_rfl) (by kernel_rfl) (by kernel_rfl) (by kernel_rfl) (by kernel_rfl) (by kernel_rfl)
 have hTabs : GG.ok (fun b => b < W.heap.size) W := ⟨⟨cell_lt (hU.1 0 (by decide)), cell_lt (hU.2 0 (by decide)).1, hU⟩, ⟨⟨by obtain ⟨m, hm⟩ := hM; exact cell_lt hm, hM⟩, ⟨⟨cell_lt (Lib.TabIs.cell hF (by kernel_rfl) 0 (of_decide_eq_true rfl)), hF⟩, ⟨cell_lt (Lib.TabIs.cell hP (by kernel_rfl) 0 (by decide)), hP⟩⟩⟩⟩
 have hval : ∀ (j : Nat) t v, Tryz.f5.params[j]? = some t → args[j]? = some v → Value.okWide Tryz.prog W .any base t v := hval0
 have hW' := hW
 obtain ⟨p, q, hA0, hV, rfl, hfz, hnd⟩ := hW
 have hA : DataW.TrodAll enc Tryz.prog W 0 (fun _ => true) true Tryz.f5.params.toList args.toList ds p := hA0
 rw [Tryz.params5] at hA hval
 obtain ⟨v0, vs0, d0, ds0, p0, q0, hargs, rfl, rfl, h0, r0⟩ := trodAll_cons hA
 obtain ⟨rfl, rfl, rfl⟩ := trodAll_nil r0
 obtain rfl : args = #[v0] := by cases args; simp_all
 obtain ⟨rfl, rfl⟩ := trodVars_none hV
 have k0 := h0
 have lt0 : ∀ x ∈ p0, x.block < W.heap.size := by obtain ⟨m, hm⟩ := k0; exact DataW.trod_lt m _ _ _ hm
 have hv0 := hval 0 68 v0 rfl rfl
 unfold Value.okWide at hv0
 rw [Tryz.underlying68] at hv0
 have hc0 : v0.cells.toList = [v0] := by
  cases v0 <;> first | rfl | exact (show False from hv0).elim
 obtain ⟨fuel0, hf0⟩ := h0
 obtain ⟨ts0, t0, u0⟩ := open_trod opens fuel0 68 _ _ (by simp) hf0
 obtain ⟨m0, rows0, _, rfl, l0, q100⟩ := typed_slice Tryz.underlying68 t0
 obtain ⟨x0, rfl, ok0⟩ := rows_of (f := (rK .u8)) fun row hr => typed_byte' Tryz.underlying5 (q100 row hr)
 rw [hc0] at u0
 clear hA0 hval0 hsz0
 have hden := laws_FnTells_ok x0 true (law_FnTells x0 (by simpa using l0) ok0)
 refine (law_calls (w := W) soundA hden (args_cons (arg_one u0) args_nil) hTabs).mono fun e W' ⟨he, bel⟩ => ?_
 subst he
 exact ⟨_, rfl, _, _, _, [], _, [], hW', trodAll_mk1 (shut_bool Tryz.underlying4 _), (trodAll_cons_mk (Below.trod laidOut (by kernel_rfl) (of_decide_eq_true (by kernel_rfl)) k0 bel lt0) trodAll_mk0), rfl, bel.frame _, fun h => by cases h⟩
theorem over : Rows.fnTellsRow.holds Tryz.pinned (OpenSpec.ofChange Rows.fnTellsSpec) :=
 OpenClaim.holds_of_wide 5 Tryz.f5 rfl rfl rfl rfl rfl rfl rfl ⟨rfl, rfl, rfl, rfl, rfl⟩ rfl rfl rfl rfl rfl fa_named Tryz.func5 fa_closed
  fa_inst fa_wrap
  (fun os started H enc _ => lifted os started H enc)
theorem card : Rows.FnTellsCardSaid :=
 Claim7.holds_tied_plain_at .later [] [.data, .data, .data, .data, .data, .data, .pinned, .pinned] true (true, "09613f0420cf3ad545d637949619553777cbfa11a2b6f57ede853cfa85692973") false over (fun _ h => by cases h) fa_text (fun _ h => by cases h) fnTells_row_tie rfl ⟨rfl, rfl⟩ fa_main rfl
  (fun f fn hf hfn => by
    obtain rfl : f = 5 := Option.some.inj (fa_named.symm.trans hf) |>.symm
    obtain rfl : fn = Tryz.f5 := (Option.some.inj (Tryz.func5.symm.trans hfn)).symm
    exact ⟨fa_looks, fun j t ht => by
     rw [Tryz.params5] at ht
     have hm : t ∈ [68] := by have hh := Array.mem_of_getElem? ht; simp at hh; first | (subst hh; simp) | (rcases hh with h | h <;> simp [h]) | (rcases hh with h | h | h <;> simp [h])
     exact (show Tryz.prog.wantsStandIn t = false by simpa using List.all_eq_true.1 fa_plain t hm)⟩)
  fa_goes
#print axioms card
end Go.Proofs.YtpmnlfgdicmiiaaGreatDoor.fnTells
namespace Go.Proofs.YtpmnlfgdicmiiaaGreatDoor
theorem fnTells_holds : Rows.FnTellsCardSaid := fnTells.card
end Go.Proofs.YtpmnlfgdicmiiaaGreatDoor
