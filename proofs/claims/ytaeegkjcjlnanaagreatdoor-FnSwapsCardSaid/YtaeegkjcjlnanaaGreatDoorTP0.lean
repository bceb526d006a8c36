import Derived.Test.YtaeegkjcjlnanaaGreatDoorTH4
set_option linter.unusedVariables false
namespace TT
open Go
theorem QH {x : Int} (h1 : -9223372036854775808 ≤ x) (h2 : x < 9223372036854775808) : IntKind.i64.wrap x = x := by rw [IntKind.wrap_i64]; omega
theorem Af {a b : Int} (h1 : -9223372036854775808 ≤ a + b) (h2 : a + b < 9223372036854775808) : AY a b = a + b := QH h1 h2
theorem Bw {a b : Int} (h1 : -9223372036854775808 ≤ a - b) (h2 : a - b < 9223372036854775808) : BE a b = a - b := QH h1 h2
theorem Yz {a b : Int} : Jw a b = true ↔ a < b := decide_eq_true_iff
theorem wz {a b : Int} : Jw a b = false ↔ ¬ a < b := decide_eq_false_iff_not
theorem Qb {a b : Int} (h : a < b) : Jw a b = true := Yz.2 h
theorem Fd {a b : Int} (h : ¬ a < b) : Jw a b = false := wz.2 h
theorem Tp {a b : Int} (h : a ≤ b) : SR a b = true := decide_eq_true h
theorem Xk {a b : Int} (h : ¬ a ≤ b) : SR a b = false := decide_eq_false h
theorem Qc {a b : Int} (h : b ≤ a) : geI a b = true := decide_eq_true h
theorem Pf {a b : Int} (h : ¬ b ≤ a) : geI a b = false := decide_eq_false h
theorem Lp {a b : Int} (h : b < a) : NN a b = true := decide_eq_true h
theorem Pg {a b : Int} (h : ¬ b < a) : NN a b = false := decide_eq_false h
theorem k8 (a : Int) : Al a a = true := beq_self_eq_true a
theorem Ph (a : Int) : SZ a a = false := by simp [SZ]
theorem G9 {a b : Int} (h : a = b) : Al a b = true := by rw [h]; exact k8 b
theorem DJ {a b : Int} (h : a ≠ b) : Al a b = false := by simp [Al, h]
theorem ml (a b : Int) : SZ a b = !Al a b := rfl
theorem toList_inj {x y : ByteArray} (h : x.toList = y.toList) : x = y := by
 rw [ByteArray.toList_eq, ByteArray.toList_eq] at h
 cases x; cases y
 simp only [ByteArray.mk.injEq]
 exact Array.toList_inj.1 h
theorem Ju (x : ByteArray) : Cu x x = true := beq_self_eq_true _
theorem tU (x : ByteArray) : neS x x = false := by simp [neS]
theorem SW {x y : ByteArray} : Cu x y = true ↔ x = y := ⟨fun h => toList_inj (by simpa [Cu] using h), fun h => by rw [h]; exact Ju y⟩
theorem LX {x y : Int} : Al x y = true ↔ x = y := by simp [Al]
theorem tV (x : Bool) : neB x x = false := by simp [neB]
theorem B9 : maxLen = 9223372036854775807 := rfl
section
variable {α β ρ : Type}
theorem Bb {l pre rest : List α} {x : α} (h : pre ++ x :: rest = l) : getI l (pre.length : Int) = some x := by
 subst h; unfold getI; rw [if_pos (by omega)]; simp
theorem EC {l pre rest : List α} {x : α} (h : pre ++ x :: rest = l) : Jw (pre.length : Int) (A8 l) = true := by
 subst h; apply Qb; simp only [A8, List.length_append, List.length_cons]; omega
theorem FU {l pre : List α} (h : pre ++ [] = l) : Jw (pre.length : Int) (A8 l) = false := by
 subst h; apply Fd; simp [A8]
theorem Cw {l pre rest : List α} {x : α} (h : pre ++ x :: rest = l) (hl : l.length ≤ maxLen) : AY (pre.length : Int) 1 = ((pre ++ [x]).length : Int) := by
 have h1 : pre.length < l.length := by rw [← h]; simp
 rw [B9] at hl
 rw [Af (by omega) (by omega)]; simp
theorem Ej {l pre rest : List α} {x : α} (h : pre ++ x :: rest = l) : (pre ++ [x]) ++ rest = l := by simp [← h]
end
section
variable {α : Type}
def szs (sz : α → Nat) (l : List α) : Nat := (l.map sz).sum
theorem CY (sz : α → Nat) (x : α) (l : List α) : szs sz (x :: l) = sz x + szs sz l := rfl
theorem CB (sz : α → Nat) {x : α} : ∀ {l : List α}, x ∈ l → sz x ≤ szs sz l
 | y :: l, h => by
  rw [CY]
  rcases List.mem_cons.1 h with h | h
  ·subst h; omega
  ·have := CB sz h; omega
end
end TT
namespace TT
open Go
end TT
set_option linter.unusedSimpArgs false
namespace TT
open Go
end TT
namespace TT
open Go
theorem DX {n byt : Nat} (h : n ≤ 4000000) (hb : 0 < byt) (hb2 : byt ≤ 1000) : room n byt = some () := by
 unfold room
 have : n * byt ≤ 4000000 * 1000 := Nat.mul_le_mul h hb2
 rw [if_pos ⟨by unfold LIM; omega, hb⟩]
theorem eV {α : Type} (F : List α → Int → Option (List α)) (l : List α) (g : α → Option α) (byt : Nat)
  (hF : ∀ out i, F out i = if Jw i (A8 l) then getI l i >>= fun x => g x >>= fun r => room (out.length + 1) byt >>= fun _ => F (out ++ [r]) (AY i 1) else some out)
  (hb : 0 < byt) (hb2 : byt ≤ 1000) (hl : l.length ≤ 4000000) (hg : ∀ x ∈ l, g x = some x) : F [] 0 = some l := by
 have key : ∀ rest pre : List α, pre ++ rest = l → F pre pre.length = some l := by
  intro rest
  induction rest with
  | nil => intro pre hp; rw [hF, FU hp]; simp at hp; rw [hp]; rfl
  | cons x rest ih =>
   intro pre hp
   have hlen : pre.length + 1 ≤ l.length := by rw [← hp]; simp
   rw [hF, EC hp, Bb hp, Cw hp (by rw [B9]; omega)]
   simp only [if_true, A3, hg x (by rw [← hp]; simp), DX (show pre.length + 1 ≤ 4000000 by omega) hb hb2]
   exact ih (pre ++ [x]) (Ej hp)
 exact key l [] rfl
end TT
