import Derived.Test.YtaeegkjcjlnanaaGreatDoorTP0
import Derived.Test.YtaeegkjcjlnanaaGreatDoorTP1
set_option linter.unusedVariables false
set_option linter.unusedSimpArgs false
namespace TT
open Go
theorem cn : ∀ n : A0, n.sz ≤ 1048576 → EJ n = some n := by
 refine A0.ind' fun n ih hs => ?_
 rw [A0.sz_eq] at hs
 have h := cm (fun out i => H5 n.Kids out i) n.Kids EJ 144 (fun out i => by rw [H5]) (by omega) (by omega) (by omega) (fun x hx => ih x hx (by have := Cq A0.sz hx; omega))
 rw [EJ, NB, h, Fb (by omega) (by omega) (by omega), Fb (by omega) (by omega) (by omega)]
 simp only [A5, List.nil_append, VS]
end TT
namespace TT
open Go
theorem Rm : ∀ n : A0, n.sz ≤ 1048576 → C2 n = some n := by
 refine A0.ind' fun n ih hs => ?_
 rw [A0.sz_eq] at hs
 have h := cm (fun out i => Dy out n.Kids i) n.Kids C2 144 (fun out i => by rw [Dy]) (by omega) (by omega) (by omega) (fun x hx => ih x hx (by have := Cq A0.sz hx; omega))
 rw [C2, ET, EU, Hg, h, Fb (by omega) (by omega) (by omega), Fb (by omega) (by omega) (by omega)]
 simp only [A5, VS]
end TT
namespace TT
open Go
def NV : A0 → List Int → Option A0
 | n, [] => some n
 | n, i :: p => (getI n.Kids i).bind fun k => NV k p
theorem ig {α : Type} {l : List α} {i : Int} {x : α} (h : getI l i = some x) : x ∈ l := by
 unfold getI at h
 split at h
 ·exact List.mem_of_getElem? h
 ·cases h
theorem ro {n k : A0} {i : Int} (h : getI n.Kids i = some k) : k.sz ≤ n.sz := by
 rw [A0.sz_eq n]
 have := Cq A0.sz (ig h)
 omega
theorem cr : ∀ (p : List Int) {n x : A0}, NV n p = some x → x.sz ≤ n.sz
 | [], n, x, h => by simp only [NV, Option.some.injEq] at h; rw [h]; exact Nat.le_refl _
 | i :: p, n, x, h => by
  obtain ⟨k, h1, h2⟩ := Option.bind_eq_some_iff.1 h
  exact Nat.le_trans (cr p h2) (ro h1)
theorem rp {n : A0} : n.Kids.length ≤ n.sz := by
 rw [A0.sz_eq n]; omega
theorem ns {α : Type} {l : List α} {i : Int} (h : l.length ≤ 4000000) : (if geI i 0 then some (Rg i (Bz (AC l) 1)) else some false) = some (getI l i).isSome := by
 have e : Bz (AC l) 1 = (l.length : Int) - 1 := CF (by simp only [AC]; omega) (by simp only [AC]; omega)
 rw [e]
 unfold getI
 by_cases h0 : 0 ≤ i
 ·rw [Q4 h0, if_pos rfl, if_pos h0]
  by_cases h1 : i ≤ (l.length : Int) - 1
  ·rw [TF h1]
   have : i.toNat < l.length := by omega
   simp [this]
  ·rw [Wt h1]
   have : l[i.toNat]? = none := List.getElem?_eq_none (by omega)
   rw [this]; rfl
 ·rw [RG h0, if_neg h0]; rfl
theorem ly {α : Type} {l : List α} {i : Int} (h : l.length ≤ 4000000) : Fw i 0 (Bz (AC l) 1) = some (getI l i).isSome := by
 rw [Fw]; exact ns h
def rq : A0 := A0.mk 0 (⟨#[]⟩) (⟨#[]⟩) (⟨#[]⟩) [] [] [] (⟨#[]⟩)
def Fc (n : A0) (p : List Int) : A0 × Bool := match NV n p with
 | some x => (x, true)
 | none => (rq, false)
theorem Wv (path : List Int) (hl : path.length ≤ 2000000) : ∀ (rest pre : List Int) (n : A0), pre ++ rest = path → n.sz ≤ 1048576 → Dz path pre.length n = some (Fc n rest)
 | [], pre, n, hp, hs => by rw [Dz, Fa hp, Rm n hs]; rfl
 | i :: rest, pre, n, hp, hs => by
  have hk := rp (n := n)
  rw [Dz, Ec hp, C8 hp, DU hp (by rw [Ba]; omega)]
  simp only [if_true, A5, ly (show n.Kids.length ≤ 4000000 by omega)]
  cases hg : getI n.Kids i with
  | none => simp only [Option.isSome_none, Bool.false_eq_true, if_false, Fc, NV, hg, Option.bind_none, rq]
  | some k =>
   have := Wv path hl rest (pre ++ [i]) k (E6 hp) (Nat.le_trans (ro hg) hs)
   simp only [Option.isSome_some, if_true, A5, this, Fc, NV, hg, Option.bind_some]
theorem RI (n : A0) (path : List Int) (hs : n.sz ≤ 1048576) (hl : path.length ≤ 2000000) : De n path = some (Fc n path) := by
 rw [De]; exact Wv path hl path [] n rfl hs
end TT
