import Derived.Test.YtejfgkcjhmmjkaaDoorTP0
import Derived.Test.YtejfgkcjhmmjkaaDoorTDefs
set_option linter.unusedVariables false
set_option linter.unusedSimpArgs false
namespace TT
open Go
def GEnt.sz (x : GEnt) : Nat := x.Name.size + (x.Val.size)
theorem GEnt.sz_eq (x : GEnt) : x.sz = x.Name.size + (x.Val.size) := rfl
def GEnt.ok (x : GEnt) : Prop := x.Name.size ≤ maxLen ∧ x.Val.size ≤ maxLen
theorem GEnt.ok_iff (x : GEnt) : x.ok ↔ x.Name.size ≤ maxLen ∧ x.Val.size ≤ maxLen := Iff.rfl
theorem sz_GEnt (a : GEnt) (ha : a.ok) (l : Int) (h0 : 0 ≤ l) (h1 : l ≤ 1048576) : laws_szEnt a l = some (szr l a.sz) := by
 obtain ⟨H0, H1⟩ := (GEnt.ok_iff a).1 ha
 rw [laws_szEnt, GEnt.sz_eq]
 exact szK a.Name.size (fun l => if ltI (subI l (lenS a.Val)) 0 then some (-1) else some (subI l (lenS a.Val))) (a.Val.size) h0 h1 H0 (fun l h0 h1 => by
  exact szE a.Val.size h0 h1 H1)
theorem sz_GEntS (a : List GEnt) (hl : a.length ≤ maxLen) (ha : ∀ y ∈ a, GEnt.ok y) (l : Int) (h0 : 0 ≤ l) (h1 : l ≤ 1048576) : laws_szEntS a l = some (szr l (a.length + szs GEnt.sz a)) :=
 sz_list laws_szEntS laws_szEntS_l16 laws_szEnt GEnt.sz (fun a l => by rw [laws_szEntS]) (fun a l i => by rw [laws_szEntS_l16]) a hl (fun x hx => sz_GEnt x (ha x hx)) h0 h1
theorem to_GEnt (a : GEnt) (hs : a.sz ≤ 1048576) : laws_toEnt a = some a := by
 rw [GEnt.sz_eq] at hs
 simp [laws_toEnt, eta_GEnt]
theorem eq_GEnt (a : GEnt) (hs : a.sz ≤ 1200000) : laws_eqEnt a a = some true := by
 rw [GEnt.sz_eq] at hs
 simp [laws_eqEnt, neS_self, neI_self, neB_self]
theorem to_GEntS (a : List GEnt) (hl : a.length ≤ 1048576) (ha : ∀ y ∈ a, GEnt.sz y ≤ 1048576) : laws_toEntS a = some a := by
 have := to_list laws_toEntS laws_toEntS_l8 laws_toEnt id _ 32 (fun a => by rw [laws_toEntS]) (fun a out i => by rw [laws_toEntS_l8]) (by decide) (by decide) a hl (fun x hx => to_GEnt x (ha x hx))
 simpa using this
theorem eq_GEntS (a : List GEnt) (hl : a.length ≤ 1200000) (ha : ∀ y ∈ a, GEnt.sz y ≤ 1200000) : laws_eqEntS a a = some true :=
 eq_list laws_eqEntS laws_eqEntS_l14 laws_eqEnt (fun a b => by rw [laws_eqEntS]) (fun a b i => by rw [laws_eqEntS_l14]) a (Nat.le_trans hl (by decide)) (fun x hx => eq_GEnt x (ha x hx))
end TT
