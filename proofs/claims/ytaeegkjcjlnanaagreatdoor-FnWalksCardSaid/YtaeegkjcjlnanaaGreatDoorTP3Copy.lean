import Derived.Test.YtaeegkjcjlnanaaGreatDoorTP0
import Derived.Test.YtaeegkjcjlnanaaGreatDoorTP1
set_option linter.unusedVariables false
set_option linter.unusedSimpArgs false
namespace TT
open Go
theorem Wg : ∀ n : A0, n.sz ≤ 1048576 → DS n = some n := by
 refine A0.ind' fun n ih hs => ?_
 rw [A0.sz_eq] at hs
 have h := du (fun out i => H4 n.Kids out i) n.Kids DS 144 (fun out i => by rw [H4]) (by omega) (by omega) (by omega) (fun x hx => ih x hx (by have := Cp A0.sz hx; omega))
 rw [DS, NQ, h, DO (by omega) (by omega) (by omega), DO (by omega) (by omega) (by omega)]
 simp only [A5, List.nil_append, Vv]
end TT
namespace TT
open Go
theorem Wh : ∀ n : A0, n.sz ≤ 1048576 → CQ n = some n := by
 refine A0.ind' fun n ih hs => ?_
 rw [A0.sz_eq] at hs
 have h := du (fun out i => Dt out n.Kids i) n.Kids CQ 144 (fun out i => by rw [Dt]) (by omega) (by omega) (by omega) (fun x hx => ih x hx (by have := Cp A0.sz hx; omega))
 rw [CQ, EF, EG, HX, h, DO (by omega) (by omega) (by omega), DO (by omega) (by omega) (by omega)]
 simp only [A5, Vv]
end TT
namespace TT
open Go
def FJ : A0 → List Int → Option A0
 | n, [] => some n
 | n, i :: p => (getI n.Kids i).bind fun k => FJ k p
theorem VS {α : Type} {l : List α} {i : Int} {x : α} (h : getI l i = some x) : x ∈ l := by
 unfold getI at h
 split at h
 ·exact List.mem_of_getElem? h
 ·cases h
theorem Zi {n k : A0} {i : Int} (h : getI n.Kids i = some k) : k.sz ≤ n.sz := by
 rw [A0.sz_eq n]
 have := Cp A0.sz (VS h)
 omega
theorem dv : ∀ (p : List Int) {n x : A0}, FJ n p = some x → x.sz ≤ n.sz
 | [], n, x, h => by simp only [FJ, Option.some.injEq] at h; rw [h]; exact Nat.le_refl _
 | i :: p, n, x, h => by
  obtain ⟨k, h1, h2⟩ := Option.bind_eq_some_iff.1 h
  exact Nat.le_trans (dv p h2) (Zi h1)
theorem jY {n : A0} : n.Kids.length ≤ n.sz := by
 rw [A0.sz_eq n]; omega
theorem dw {α : Type} {l : List α} {i : Int} (h : l.length ≤ 4000000) : (if geI i 0 then some (Rn i (BA (AC l) 1)) else some false) = some (getI l i).isSome := by
 have e : BA (AC l) 1 = (l.length : Int) - 1 := BT (by simp only [AC]; omega) (by simp only [AC]; omega)
 rw [e]
 unfold getI
 by_cases h0 : 0 ≤ i
 ·rw [Q9 h0, if_pos rfl, if_pos h0]
  by_cases h1 : i ≤ (l.length : Int) - 1
  ·rw [TQ h1]
   have : i.toNat < l.length := by omega
   simp [this]
  ·rw [XI h1]
   have : l[i.toNat]? = none := List.getElem?_eq_none (by omega)
   rw [this]; rfl
 ·rw [QA h0, if_neg h0]; rfl
theorem wb {α : Type} {l : List α} {i : Int} (h : l.length ≤ 4000000) : CW i 0 (BA (AC l) 1) = some (getI l i).isSome := by
 rw [CW]; exact dw h
theorem wc {α : Type} {l : List α} {i : Int} (h : l.length ≤ 4000000) : HY i 0 (BA (AC l) 1) = some (getI l i).isSome := by
 rw [HY]; exact dw h
def mC : A0 := A0.mk 0 (⟨#[]⟩) (⟨#[]⟩) (⟨#[]⟩) [] [] [] (⟨#[]⟩)
def CC (n : A0) (p : List Int) : A0 × Bool := match FJ n p with
 | some x => (x, true)
 | none => (mC, false)
theorem XJ (path : List Int) (hl : path.length ≤ 2000000) : ∀ (rest pre : List Int) (n : A0), pre ++ rest = path → n.sz ≤ 1048576 → Dv path pre.length n = some (CC n rest)
 | [], pre, n, hp, hs => by rw [Dv, Fd hp, Wg n hs]; rfl
 | i :: rest, pre, n, hp, hs => by
  have hk := jY (n := n)
  rw [Dv, EV hp, CT hp, DN hp (by rw [BX]; omega)]
  simp only [if_true, A5, wb (show n.Kids.length ≤ 4000000 by omega)]
  cases hg : getI n.Kids i with
  | none => simp only [Option.isSome_none, Bool.false_eq_true, if_false, CC, FJ, hg, Option.bind_none, mC]
  | some k =>
   have := XJ path hl rest (pre ++ [i]) k (Er hp) (Nat.le_trans (Zi hg) hs)
   simp only [Option.isSome_some, if_true, A5, this, CC, FJ, hg, Option.bind_some]
theorem XK (path : List Int) (hl : path.length ≤ 2000000) : ∀ (rest pre : List Int) (n : A0), pre ++ rest = path → n.sz ≤ 1048576 → Du path pre.length n = some (CC n rest)
 | [], pre, n, hp, hs => by rw [Du, Fd hp, Wh n hs]; rfl
 | i :: rest, pre, n, hp, hs => by
  have hk := jY (n := n)
  rw [Du, EV hp, CT hp, DN hp (by rw [BX]; omega)]
  simp only [if_true, A5, wc (show n.Kids.length ≤ 4000000 by omega)]
  cases hg : getI n.Kids i with
  | none => simp only [Option.isSome_none, Bool.false_eq_true, if_false, CC, FJ, hg, Option.bind_none, mC]
  | some k =>
   have := XK path hl rest (pre ++ [i]) k (Er hp) (Nat.le_trans (Zi hg) hs)
   simp only [Option.isSome_some, if_true, A5, this, CC, FJ, hg, Option.bind_some]
theorem XL (n : A0) (path : List Int) (hs : n.sz ≤ 1048576) (hl : path.length ≤ 2000000) : I8 n path = some (CC n path) := by
 rw [I8]; exact XJ path hl path [] n rfl hs
theorem O7 (n : A0) (path : List Int) (hs : n.sz ≤ 1048576) (hl : path.length ≤ 2000000) : I3 n path = some (CC n path) := by
 rw [I3]; exact XK path hl path [] n rfl hs
end TT
