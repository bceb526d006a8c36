import Derived.Test.YtgihjlfmnfbcaaaTP0
import Derived.Test.YtgihjlfmnfbcaaaTP1
set_option linter.unusedVariables false
set_option linter.unusedSimpArgs false
namespace TT
open Go
def Tot {α : Type} (x : Option α) (P : α → Prop) : Prop := ∃ a, x = some a ∧ P a
theorem Tot.ret {α : Type} {a : α} {P : α → Prop} (h : P a) : Tot (some a) P := ⟨a, rfl, h⟩
theorem Tot.bnd {α β : Type} {x : Option α} {f : α → Option β} {P : α → Prop} {Q : β → Prop} (h : Tot x P) (k : ∀ a, P a → Tot (f a) Q) : Tot (x >>= f) Q := by
 obtain ⟨a, rfl, h⟩ := h
 exact k a h
theorem Tot.ite {α : Type} {b : Bool} {x y : Option α} {P : α → Prop} (h1 : b = true → Tot x P) (h2 : b = false → Tot y P) : Tot (if b then x else y) P := by
 cases b
 ·exact h2 rfl
 ·exact h1 rfl
theorem Tot.mono {α : Type} {x : Option α} {P Q : α → Prop} (h : Tot x P) (hpq : ∀ a, P a → Q a) : Tot x Q := by
 obtain ⟨a, e, h⟩ := h
 exact ⟨a, e, hpq a h⟩
theorem Tot.room {n byt : Nat} (h : n ≤ 4000000) (hb : 0 < byt := by decide) (hb2 : byt ≤ 1000 := by decide) : Tot (room n byt) fun _ => True := ⟨(), room_ok h hb hb2, trivial⟩
theorem Tot.getI {α : Type} {l : List α} {i : Int} (h0 : 0 ≤ i) (h1 : i < l.length) : Tot (getI l i) fun x => x ∈ l ∧ l[i.toNat]? = some x := by
 have h : i.toNat < l.length := by omega
 refine ⟨l[i.toNat], ?_, List.getElem_mem h, List.getElem?_eq_getElem h⟩
 unfold TT.getI
 rw [if_pos h0]
 exact List.getElem?_eq_getElem h
theorem Tot.shr {a b : Int} (h : 0 ≤ b) : Tot (shrK .i64 a b) fun _ => True := by
 refine ⟨a.fdiv (2 ^ (min b.toNat IntKind.i64.bits)), ?_, trivial⟩
 unfold shrK
 rw [if_neg (by omega)]
end TT
namespace TT
open Go
def Ends {α : Type} (x : Option α) : Prop := ∃ a, x = some a
theorem Ends.ret {α : Type} {a : α} : Ends (some a) := ⟨a, rfl⟩
theorem Ends.bnd {α β : Type} {x : Option α} {f : α → Option β} (h : Ends x) (k : ∀ a, Ends (f a)) : Ends (x >>= f) := by obtain ⟨a, rfl⟩ := h; exact k a
theorem Ends.ite {α : Type} {b : Bool} {x y : Option α} (h1 : b = true → Ends x) (h2 : b = false → Ends y) : Ends (if b then x else y) := by
 cases b
 ·exact h2 rfl
 ·exact h1 rfl
theorem Ends.tot {α : Type} {x : Option α} (h : Ends x) : Tot x fun _ => True := by obtain ⟨a, e⟩ := h; exact ⟨a, e, trivial⟩
theorem add_k {k : Nat} (h : k ≤ 4000000) : addI (k : Int) 1 = ((k + 1 : Nat) : Int) := by rw [addI_eq (by omega) (by omega)]; omega
end TT
