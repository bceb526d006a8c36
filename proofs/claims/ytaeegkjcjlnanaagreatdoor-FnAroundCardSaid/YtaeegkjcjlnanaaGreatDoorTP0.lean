import Derived.Test.YtaeegkjcjlnanaaGreatDoorTH4
set_option linter.unusedVariables false
namespace TT
open Go
theorem Pc {x : Int} (h1 : -9223372036854775808 ≤ x) (h2 : x < 9223372036854775808) : IntKind.i64.wrap x = x := by rw [IntKind.wrap_i64]; omega
theorem Az {a b : Int} (h1 : -9223372036854775808 ≤ a + b) (h2 : a + b < 9223372036854775808) : Ac a b = a + b := Pc h1 h2
theorem CF {a b : Int} (h1 : -9223372036854775808 ≤ a - b) (h2 : a - b < 9223372036854775808) : Bz a b = a - b := Pc h1 h2
theorem Xt {a b : Int} : IY a b = true ↔ a < b := decide_eq_true_iff
theorem vT {a b : Int} : IY a b = false ↔ ¬ a < b := decide_eq_false_iff_not
theorem Q3 {a b : Int} (h : a < b) : IY a b = true := Xt.2 h
theorem FR {a b : Int} (h : ¬ a < b) : IY a b = false := vT.2 h
theorem TF {a b : Int} (h : a ≤ b) : Rg a b = true := decide_eq_true h
theorem Wt {a b : Int} (h : ¬ a ≤ b) : Rg a b = false := decide_eq_false h
theorem Q4 {a b : Int} (h : b ≤ a) : geI a b = true := decide_eq_true h
theorem RG {a b : Int} (h : ¬ b ≤ a) : geI a b = false := decide_eq_false h
theorem Nt {a b : Int} (h : b < a) : Nw a b = true := decide_eq_true h
theorem RH {a b : Int} (h : ¬ b < a) : Nw a b = false := decide_eq_false h
theorem ie (a : Int) : BE a a = true := beq_self_eq_true a
theorem P4 (a : Int) : neI a a = false := by simp [neI]
theorem Wu {a b : Int} (h : a = b) : BE a b = true := by rw [h]; exact ie b
theorem P5 {a b : Int} (h : a ≠ b) : BE a b = false := by simp [BE, h]
theorem Z8 (a b : Int) : neI a b = !BE a b := rfl
theorem toList_inj {x y : ByteArray} (h : x.toList = y.toList) : x = y := by
 rw [ByteArray.toList_eq, ByteArray.toList_eq] at h
 cases x; cases y
 simp only [ByteArray.mk.injEq]
 exact Array.toList_inj.1 h
theorem Fg (x : ByteArray) : Cs x x = true := beq_self_eq_true _
theorem V0 {x y : ByteArray} : Cs x y = true ↔ x = y := ⟨fun h => toList_inj (by simpa [Cs] using h), fun h => by rw [h]; exact Fg y⟩
theorem V1 {x y : Int} : BE x y = true ↔ x = y := by simp [BE]
theorem rn (x : Bool) : eqB x x = true := beq_self_eq_true _
theorem Ba : maxLen = 9223372036854775807 := rfl
section
variable {α β ρ : Type}
theorem C8 {l pre rest : List α} {x : α} (h : pre ++ x :: rest = l) : getI l (pre.length : Int) = some x := by
 subst h; unfold getI; rw [if_pos (by omega)]; simp
theorem Ec {l pre rest : List α} {x : α} (h : pre ++ x :: rest = l) : IY (pre.length : Int) (AC l) = true := by
 subst h; apply Q3; simp only [AC, List.length_append, List.length_cons]; omega
theorem Fa {l pre : List α} (h : pre ++ [] = l) : IY (pre.length : Int) (AC l) = false := by
 subst h; apply FR; simp [AC]
theorem DU {l pre rest : List α} {x : α} (h : pre ++ x :: rest = l) (hl : l.length ≤ maxLen) : Ac (pre.length : Int) 1 = ((pre ++ [x]).length : Int) := by
 have h1 : pre.length < l.length := by rw [← h]; simp
 rw [Ba] at hl
 rw [Az (by omega) (by omega)]; simp
theorem E6 {l pre rest : List α} {x : α} (h : pre ++ x :: rest = l) : (pre ++ [x]) ++ rest = l := by simp [← h]
end
section
variable {α : Type}
def szs (sz : α → Nat) (l : List α) : Nat := (l.map sz).sum
theorem E3 (sz : α → Nat) (x : α) (l : List α) : szs sz (x :: l) = sz x + szs sz l := rfl
theorem Cq (sz : α → Nat) {x : α} : ∀ {l : List α}, x ∈ l → sz x ≤ szs sz l
 | y :: l, h => by
  rw [E3]
  rcases List.mem_cons.1 h with h | h
  ·subst h; omega
  ·have := Cq sz h; omega
end
end TT
namespace TT
open Go
end TT
set_option linter.unusedSimpArgs false
namespace TT
open Go
end TT
namespace TT
open Go
theorem Fb {n byt : Nat} (h : n ≤ 4000000) (hb : 0 < byt) (hb2 : byt ≤ 1000) : room n byt = some () := by
 unfold room
 have : n * byt ≤ 4000000 * 1000 := Nat.mul_le_mul h hb2
 rw [if_pos ⟨by unfold LIM; omega, hb⟩]
theorem cm {α : Type} (F : List α → Int → Option (List α)) (l : List α) (g : α → Option α) (byt : Nat)
  (hF : ∀ out i, F out i = if IY i (AC l) then getI l i >>= fun x => g x >>= fun r => room (out.length + 1) byt >>= fun _ => F (out ++ [r]) (Ac i 1) else some out)
  (hb : 0 < byt) (hb2 : byt ≤ 1000) (hl : l.length ≤ 4000000) (hg : ∀ x ∈ l, g x = some x) : F [] 0 = some l := by
 have key : ∀ rest pre : List α, pre ++ rest = l → F pre pre.length = some l := by
  intro rest
  induction rest with
  | nil => intro pre hp; rw [hF, Fa hp]; simp at hp; rw [hp]; rfl
  | cons x rest ih =>
   intro pre hp
   have hlen : pre.length + 1 ≤ l.length := by rw [← hp]; simp
   rw [hF, Ec hp, C8 hp, DU hp (by rw [Ba]; omega)]
   simp only [if_true, A5, hg x (by rw [← hp]; simp), Fb (show pre.length + 1 ≤ 4000000 by omega) hb hb2]
   exact ih (pre ++ [x]) (E6 hp)
 exact key l [] rfl
end TT
