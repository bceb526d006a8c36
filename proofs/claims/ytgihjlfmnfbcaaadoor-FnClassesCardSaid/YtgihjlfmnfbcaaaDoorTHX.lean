import Derived.Test.YtgihjlfmnfbcaaaDoorTH4
import Derived.Shelf.Unicode.DecodeSlow
import Derived.Shelf.Strings.Search3
import Derived.Lib.CutLaws
import Derived.Lib.ItoaNum
import Derived.Lib.LaidTab
import Derived.Lib.AppendIntMem
import Derived.Handed
import Derived.Lib.LaidU8
set_option linter.unusedVariables false
set_option linter.unusedSimpArgs false
namespace TT
open Go Go.RowKit
def u8G (g3 g4 : Nat) : Gt := ⟨fun B w => B g3 ∧ B g4 ∧ Lib.Utf8Tabs g3 g4 w, fun {B B' w w'} h hB hw => by
 obtain ⟨h1, h2, h3, h4⟩ := h
 refine ⟨hB _ h1, hB _ h2, fun c hc => ?_, fun i hi => ?_⟩
 ·rw [← h3 c hc]; exact BW (hw _ h1) c
 ·rw [← (h4 i hi).1, ← (h4 i hi).2]; exact ⟨BW (hw _ h2) _, BW (hw _ h2) _⟩⟩
def Ic : Pb
 | [.t (.v (.string s))] => some ⟨[.t (.v (.int .i32 (Lib.decodeGo s).1)), .t (.v (.int .i64 (Lib.decodeGo s).2))], []⟩
 | _ => none
def K3 (s : ByteArray) : Int × Int := (((Lib.decodeGo s).1 : Nat), ((Lib.decodeGo s).2 : Nat))
theorem On (s : ByteArray) {r : Int × Int} {e : Int × Int → BU} (he : ∀ r, e r = ⟨[.t (.v (.int .i32 r.1)), .t (.v (.int .i64 r.2))], []⟩) (hr : some (K3 s) = some r) : Ic [.t (.v (.string s))] = some (e r) := by
 cases hr
 rw [he]; rfl
end TT
namespace TT
open Go Go.RowKit
def Gt.and (G H : Gt) : Gt := ⟨fun B w => G.ok B w ∧ H.ok B w, fun h hB hw => ⟨G.mono h.1 hB hw, H.mono h.2 hB hw⟩⟩
theorem Ji {G : Gt} {P : Program} {f : FuncId} {g3 g4 : Nat} (hG : ∀ B w, G.ok B w → Lib.Utf8Tabs g3 g4 w) (hc : IN P f = true) (h : ∀ (s : ByteArray) (w : World), Lib.Utf8Tabs g3 g4 w → Calls P f #[.string s] w fun e w' => e = .returned (.tuple #[.int .i32 (Lib.decodeGo s).1, .int .i64 (Lib.decodeGo s).2]) ∧ Below w.heap.size w w') : KY G P f Ic := Mv hc fun args res hr => by
 unfold Ic at hr
 split at hr
 ·rename_i s
  cases hr
  refine ⟨[.string s], [.int .i32 (Lib.decodeGo s).1, .int .i64 (Lib.decodeGo s).2], rfl, rfl, fun v hv => ?_, fun w B hg => h s w (hG B w hg)⟩
  simp only [List.mem_cons, List.not_mem_nil, or_false] at hv
  rcases hv with rfl | rfl <;> rfl
 ·cases hr
end TT
namespace TT
open Go Go.RowKit
theorem ret_shaped {H : Type} {enc : TypeId × Value → H} {a : Assume} {C : Checked} {os : Os} {f : FuncId} {fn : Func} {s : ChangeSpec} {conds : List PathCond} {apart fresh handsOn again : Bool} {X : World → Array Value → Prop}
  (hX : ∀ (w w' : World) (args : Array Value), w.heap = w'.heap → X w args → X w' args)
  (own : ownKnob C.prog.godebug = none) (started : os.Started) (noInit : C.prog.inits.idxOf? f = none) (hfn : C.prog.funcs[f]? = some fn)
  (witness : ∃ (w : World) (tape : Tape) (i : Input), w.os = os ∧ (w.forCall tape i).Shaped C.prog ∧ i.vars = [] ∧ Input.okWide C.prog (w.forCall tape i) .any w.heap.size f i ∧
    ((s.pre enc C.prog fn conds apart (w.forCall tape i).memory i.args ∧ X (w.forCall tape i).memory i.args) ∧ sizedMet enc C.prog fn (OpenSpec.ofChange s) apart (w.forCall tape i).memory i.args) ∧ a.holds C.prog (lone (Frame.enter C.prog f i.args .normal) [] (w.forCall tape i)))
  (walk : ∀ (W : World) (base : Nat) (args : Array Value) (ds gs : List (DataW H)) (before : List MemPlace), W.ShapedOpen C.prog →
    (∀ (j : Nat) t v, fn.params[j]? = some t → args[j]? = some v → Value.okWide C.prog W .any base t v) →
    DataW.Whole enc C.prog fn.params.toList s.vars apart W args.toList ds gs before →
    (DataW.weightsEach C.prog (fn.params.toList ++ s.plain.varTypes C.prog) (ds ++ gs)).all (· ≤ reachBytes) = true → X W args →
    Calls C.prog f args W fun e W' => ∃ v, e = .returned v ∧ s.post enc C.prog fn apart fresh handsOn again W args v W') :
  ReturnsInHanded a C os f .any (fun w args => (s.pre enc C.prog fn conds apart w args ∧ X w args) ∧ sizedMet enc C.prog fn (OpenSpec.ofChange s) apart w args) (s.post enc C.prog fn apart fresh handsOn again) :=
 returnsInHanded_of_calls own started noInit witness fun w tape i _ hsh _ hok hpre _ => by
  obtain ⟨_, _, _, g, hg, _, _, _, _, hval⟩ := hok
  cases Option.some.inj (hg.symm.trans hfn)
  obtain ⟨⟨⟨ds, gs, before, hw, _⟩, hx⟩, hz⟩ := hpre
  have h := walk (w.forCall tape i) w.heap.size i.args ds gs before hsh hval (DataW.Whole.of_heap (w := (w.forCall tape i).memory) (w' := w.forCall tape i) (by rfl) hw) (hz.weights hw) (hX (w.forCall tape i).memory _ _ (by rfl) hx)
  refine h.mono fun e W' hq => ?_
  obtain ⟨v, rfl, hp⟩ := hq
  exact ChangeSpec.post_blind hp
end TT
