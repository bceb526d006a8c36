import Derived.Test.YtklpgdogfofneaaDoorTH5
import Derived.Shelf.Unicode.DecodeSlow
import Derived.Shelf.Strings.Search3
set_option linter.unusedVariables false
set_option linter.unusedSimpArgs false
namespace TT
open Go Go.RowKit

/-! ### Functions of the library whose contracts stand apart -/

/-- The tables of unicode/utf8. -/
def u8G (g3 g4 : Nat) : Gt := ⟨fun B w => B g3 ∧ B g4 ∧ Lib.Utf8Tabs g3 g4 w, fun {B B' w w'} h hB hw => by
  obtain ⟨h1, h2, h3, h4⟩ := h
  refine ⟨hB _ h1, hB _ h2, fun c hc => ?_, fun i hi => ?_⟩
  · rw [← h3 c hc]; exact cell_same (hw _ h1) c
  · rw [← (h4 i hi).1, ← (h4 i hi).2]; exact ⟨cell_same (hw _ h2) _, cell_same (hw _ h2) _⟩⟩

def x_decode : LibF
  | [.t (.v (.string s))] => some ⟨[.t (.v (.int .i32 (Lib.decodeGo s).1)), .t (.v (.int .i64 (Lib.decodeGo s).2))], []⟩
  | _ => none
def decodeI (s : ByteArray) : Int × Int := (((Lib.decodeGo s).1 : Nat), ((Lib.decodeGo s).2 : Nat))
theorem x_decode_ok (s : ByteArray) {r : Int × Int} {e : Int × Int → Res} (he : ∀ r, e r = ⟨[.t (.v (.int .i32 r.1)), .t (.v (.int .i64 r.2))], []⟩) (hr : some (decodeI s) = some r) : x_decode [.t (.v (.string s))] = some (e r) := by
  cases hr
  rw [he]; rfl
theorem x_decode_sound {P : Program} {f : FuncId} {g3 g4 : Nat} (hc : callB P f = true) (h : ∀ (s : ByteArray) (w : World), Lib.Utf8Tabs g3 g4 w → Calls P f #[.string s] w fun e w' => e = .returned (.tuple #[.int .i32 (Lib.decodeGo s).1, .int .i64 (Lib.decodeGo s).2]) ∧ Below w.heap.size w w') : Sound1 (u8G g3 g4) P f x_decode := sound1_plain hc fun args res hr => by
  unfold x_decode at hr
  split at hr
  · rename_i s
    cases hr
    refine ⟨[.string s], [.int .i32 (Lib.decodeGo s).1, .int .i64 (Lib.decodeGo s).2], rfl, rfl, fun v hv => ?_, fun w B hG => h s w hG.2.2⟩
    simp only [List.mem_cons, List.not_mem_nil, or_false] at hv
    rcases hv with rfl | rfl <;> rfl
  · cases hr

/-- Whether a text holds one byte. -/
def holds1 (s t : ByteArray) : Bool := decide (0 ≤ Lib.indexByte s.data.toList (t.data.toList.headD 0))
def x_contains1 : LibF
  | [.t (.v (.string s)), .t (.v (.string t))] => if t.size = 1 then some ⟨[.t (.v (.bool (holds1 s t)))], []⟩ else none
  | _ => none
theorem x_contains1_ok (s t : ByteArray) {r : Bool} {e : Bool → Res} (he : ∀ r, e r = ⟨[.t (.v (.bool r))], []⟩) (hr : (if t.size = 1 then some (holds1 s t) else none) = some r) : x_contains1 [.t (.v (.string s)), .t (.v (.string t))] = some (e r) := by
  split at hr
  · rename_i h
    cases hr
    rw [he]
    simp only [x_contains1, h, if_true]
  · cases hr
theorem x_contains1_sound {G : Gt} {P : Program} {f : FuncId} (hc : callB P f = true) (h : ∀ (s : ByteArray) (c : UInt8) (w : World), Calls P f #[.string s, .string ⟨#[c]⟩] w fun e w' => e = .returned (.bool (decide (0 ≤ Lib.indexByte s.data.toList c))) ∧ w' = w) : Sound1 G P f x_contains1 := sound1_plain hc fun args res hr => by
  unfold x_contains1 at hr
  split at hr
  · rename_i s t
    split at hr
    · rename_i ht
      cases hr
      obtain ⟨d⟩ := t
      have ht' : d.toList.length = 1 := by simpa [ByteArray.size] using ht
      obtain ⟨c, hd⟩ := List.length_eq_one_iff.1 ht'
      have hd' : d = #[c] := by
        apply Array.toList_inj.1
        simpa using hd
      subst hd'
      refine ⟨[.string s, .string ⟨#[c]⟩], [.bool (holds1 s ⟨#[c]⟩)], rfl, rfl, fun v hv => ?_, fun w B hG => Calls.mono (h s c w) ?_⟩
      · simp only [List.mem_cons, List.not_mem_nil, or_false] at hv
        subst hv; rfl
      · rintro e w' ⟨rfl, rfl⟩
        exact ⟨rfl, ⟨rfl, rfl, rfl, Nat.le_refl _, fun _ _ => rfl⟩⟩
    · cases hr
  · cases hr
end TT
