import Derived.Test.YtaeegkjcjlnanaaGreatDoorTP0
import Derived.Test.YtaeegkjcjlnanaaGreatDoorTP1
set_option linter.unusedVariables false
set_option linter.unusedSimpArgs false
namespace TT
open Go
theorem KY : ∀ n : A0, n.sz ≤ 1048576 → CF n = some n := by
 refine A0.ind' fun n ih hs => ?_
 rw [A0.sz_eq] at hs
 have h := eV (fun out i => HF n.Kids out i) n.Kids CF 144 (fun out i => by rw [HF]) (by omega) (by omega) (by omega) (fun x hx => ih x hx (by have := CB A0.sz hx; omega))
 rw [CF, Ng, h, DX (by omega) (by omega) (by omega), DX (by omega) (by omega) (by omega)]
 simp only [A3, List.nil_append, WK]
end TT
namespace TT
open Go
theorem IK : ∀ n : A0, n.sz ≤ 1048576 → B7 n = some n := by
 refine A0.ind' fun n ih hs => ?_
 rw [A0.sz_eq] at hs
 have h := eV (fun out i => E4 out n.Kids i) n.Kids B7 144 (fun out i => by rw [E4]) (by omega) (by omega) (by omega) (fun x hx => ih x hx (by have := CB A0.sz hx; omega))
 rw [B7, EV, EW, Hk, h, DX (by omega) (by omega) (by omega), DX (by omega) (by omega) (by omega)]
 simp only [A3, WK]
end TT
namespace TT
open Go
def BA : A0 → List Int → Option A0
 | n, [] => some n
 | n, i :: p => (getI n.Kids i).bind fun k => BA k p
theorem S6 {α : Type} {l : List α} {i : Int} {x : α} (h : getI l i = some x) : x ∈ l := by
 unfold getI at h
 split at h
 ·exact List.mem_of_getElem? h
 ·cases h
theorem UV {n k : A0} {i : Int} (h : getI n.Kids i = some k) : k.sz ≤ n.sz := by
 rw [A0.sz_eq n]
 have := CB A0.sz (S6 h)
 omega
theorem KZ : ∀ (p : List Int) {n x : A0}, BA n p = some x → x.sz ≤ n.sz
 | [], n, x, h => by simp only [BA, Option.some.injEq] at h; rw [h]; exact Nat.le_refl _
 | i :: p, n, x, h => by
  obtain ⟨k, h1, h2⟩ := Option.bind_eq_some_iff.1 h
  exact Nat.le_trans (KZ p h2) (UV h1)
theorem O5 {n : A0} : n.Kids.length ≤ n.sz := by
 rw [A0.sz_eq n]; omega
theorem eW {α : Type} {l : List α} {i : Int} (h : l.length ≤ 4000000) : (if geI i 0 then some (SR i (BE (A8 l) 1)) else some false) = some (getI l i).isSome := by
 have e : BE (A8 l) 1 = (l.length : Int) - 1 := Bw (by simp only [A8]; omega) (by simp only [A8]; omega)
 rw [e]
 unfold getI
 by_cases h0 : 0 ≤ i
 ·rw [Qc h0, if_pos rfl, if_pos h0]
  by_cases h1 : i ≤ (l.length : Int) - 1
  ·rw [Tp h1]
   have : i.toNat < l.length := by omega
   simp [this]
  ·rw [Xk h1]
   have : l[i.toNat]? = none := List.getElem?_eq_none (by omega)
   rw [this]; rfl
 ·rw [Pf h0, if_neg h0]; rfl
theorem xA {α : Type} {l : List α} {i : Int} (h : l.length ≤ 4000000) : Cb i 0 (BE (A8 l) 1) = some (getI l i).isSome := by
 rw [Cb]; exact eW h
theorem xB {α : Type} {l : List α} {i : Int} (h : l.length ≤ 4000000) : Hl i 0 (BE (A8 l) 1) = some (getI l i).isSome := by
 rw [Hl]; exact eW h
def aP : A0 := A0.mk 0 (⟨#[]⟩) (⟨#[]⟩) (⟨#[]⟩) [] [] [] (⟨#[]⟩)
def CJ (n : A0) (p : List Int) : A0 × Bool := match BA n p with
 | some x => (x, true)
 | none => (aP, false)
theorem Xl (path : List Int) (hl : path.length ≤ 2000000) : ∀ (rest pre : List Int) (n : A0), pre ++ rest = path → n.sz ≤ 1048576 → E3 path pre.length n = some (CJ n rest)
 | [], pre, n, hp, hs => by rw [E3, FU hp, KY n hs]; rfl
 | i :: rest, pre, n, hp, hs => by
  have hk := O5 (n := n)
  rw [E3, EC hp, Bb hp, Cw hp (by rw [B9]; omega)]
  simp only [if_true, A3, xA (show n.Kids.length ≤ 4000000 by omega)]
  cases hg : getI n.Kids i with
  | none => simp only [Option.isSome_none, Bool.false_eq_true, if_false, CJ, BA, hg, Option.bind_none, aP]
  | some k =>
   have := Xl path hl rest (pre ++ [i]) k (Ej hp) (Nat.le_trans (UV hg) hs)
   simp only [Option.isSome_some, if_true, A3, this, CJ, BA, hg, Option.bind_some]
theorem Xm (path : List Int) (hl : path.length ≤ 2000000) : ∀ (rest pre : List Int) (n : A0), pre ++ rest = path → n.sz ≤ 1048576 → E6 path pre.length n = some (CJ n rest)
 | [], pre, n, hp, hs => by rw [E6, FU hp, IK n hs]; rfl
 | i :: rest, pre, n, hp, hs => by
  have hk := O5 (n := n)
  rw [E6, EC hp, Bb hp, Cw hp (by rw [B9]; omega)]
  simp only [if_true, A3, xB (show n.Kids.length ≤ 4000000 by omega)]
  cases hg : getI n.Kids i with
  | none => simp only [Option.isSome_none, Bool.false_eq_true, if_false, CJ, BA, hg, Option.bind_none, aP]
  | some k =>
   have := Xm path hl rest (pre ++ [i]) k (Ej hp) (Nat.le_trans (UV hg) hs)
   simp only [Option.isSome_some, if_true, A3, this, CJ, BA, hg, Option.bind_some]
theorem Lq (n : A0) (path : List Int) (hs : n.sz ≤ 1048576) (hl : path.length ≤ 2000000) : EU n path = some (CJ n path) := by
 rw [EU]; exact Xl path hl path [] n rfl hs
theorem Gd (n : A0) (path : List Int) (hs : n.sz ≤ 1048576) (hl : path.length ≤ 2000000) : GW n path = some (CJ n path) := by
 rw [GW]; exact Xm path hl path [] n rfl hs
end TT
