import Derived.Test.YtknfhlnfombmgaaDoorTP0
import Derived.Test.YtknfhlnfombmgaaDoorTDefs
set_option linter.unusedVariables false
set_option linter.unusedSimpArgs false
namespace TT
open Go
def GPred.sz (x : GPred) : Nat := x.Pre.size + (x.Local.size + (x.Val.size))
theorem GPred.sz_eq (x : GPred) : x.sz = x.Pre.size + (x.Local.size + (x.Val.size)) := rfl
def GPred.ok (x : GPred) : Prop := (-9223372036854775808 ≤ x.Kind ∧ x.Kind < 9223372036854775808) ∧ (-9223372036854775808 ≤ x.N ∧ x.N < 9223372036854775808) ∧ x.Pre.size ≤ maxLen ∧ x.Local.size ≤ maxLen ∧ x.Val.size ≤ maxLen
theorem GPred.ok_iff (x : GPred) : x.ok ↔ (-9223372036854775808 ≤ x.Kind ∧ x.Kind < 9223372036854775808) ∧ (-9223372036854775808 ≤ x.N ∧ x.N < 9223372036854775808) ∧ x.Pre.size ≤ maxLen ∧ x.Local.size ≤ maxLen ∧ x.Val.size ≤ maxLen := Iff.rfl
theorem sz_GPred (a : GPred) (ha : a.ok) (l : Int) (h0 : 0 ≤ l) (h1 : l ≤ 1048576) : laws_szPred a l = some (szr l a.sz) := by
  obtain ⟨H0, H1, H2, H3, H4⟩ := (GPred.ok_iff a).1 ha
  rw [laws_szPred, GPred.sz_eq]
  exact szK a.Pre.size (fun l => if ltI (subI l (lenS a.Local)) 0 then some (-1) else if ltI (subI (subI l (lenS a.Local)) (lenS a.Val)) 0 then some (-1) else some (subI (subI l (lenS a.Local)) (lenS a.Val))) (a.Local.size + (a.Val.size)) h0 h1 H2 (fun l h0 h1 => by
    exact szK a.Local.size (fun l => if ltI (subI l (lenS a.Val)) 0 then some (-1) else some (subI l (lenS a.Val))) (a.Val.size) h0 h1 H3 (fun l h0 h1 => by
      exact szE a.Val.size h0 h1 H4))
theorem sz_GPredS (a : List GPred) (hl : a.length ≤ maxLen) (ha : ∀ y ∈ a, GPred.ok y) (l : Int) (h0 : 0 ≤ l) (h1 : l ≤ 1048576) : laws_szPredS a l = some (szr l (a.length + szs GPred.sz a)) :=
  sz_list laws_szPredS laws_szPredS_l16 laws_szPred GPred.sz (fun a l => by rw [laws_szPredS]) (fun a l i => by rw [laws_szPredS_l16]) a hl (fun x hx => sz_GPred x (ha x hx)) h0 h1
theorem to_GPred (a : GPred) (hs : a.sz ≤ 1048576) : laws_toPred a = some a := by
  rw [GPred.sz_eq] at hs
  simp [laws_toPred, eta_GPred]
theorem eq_GPred (a : GPred) (hs : a.sz ≤ 1200000) : laws_eqPred a a = some true := by
  rw [GPred.sz_eq] at hs
  simp [laws_eqPred, neS_self, neI_self, neB_self]
theorem to_GPredS (a : List GPred) (hl : a.length ≤ 1048576) (ha : ∀ y ∈ a, GPred.sz y ≤ 1048576) : laws_toPredS a = some a := by
  have := to_list laws_toPredS laws_toPredS_l8 laws_toPred id _ 64 (fun a => by rw [laws_toPredS]) (fun a out i => by rw [laws_toPredS_l8]) (by decide) (by decide) a hl (fun x hx => to_GPred x (ha x hx))
  simpa using this
theorem eq_GPredS (a : List GPred) (hl : a.length ≤ 1200000) (ha : ∀ y ∈ a, GPred.sz y ≤ 1200000) : laws_eqPredS a a = some true :=
  eq_list laws_eqPredS laws_eqPredS_l14 laws_eqPred (fun a b => by rw [laws_eqPredS]) (fun a b i => by rw [laws_eqPredS_l14]) a (Nat.le_trans hl (by decide)) (fun x hx => eq_GPred x (ha x hx))

def GStp.sz (x : GStp) : Nat := x.Pre.size + (x.Local.size + ((x.Preds.length + szs GPred.sz x.Preds)))
theorem GStp.sz_eq (x : GStp) : x.sz = x.Pre.size + (x.Local.size + ((x.Preds.length + szs GPred.sz x.Preds))) := rfl
def GStp.ok (x : GStp) : Prop := (-9223372036854775808 ≤ x.Kind ∧ x.Kind < 9223372036854775808) ∧ x.Pre.size ≤ maxLen ∧ x.Local.size ≤ maxLen ∧ (x.Preds.length ≤ maxLen ∧ ∀ y ∈ x.Preds, GPred.ok y)
theorem GStp.ok_iff (x : GStp) : x.ok ↔ (-9223372036854775808 ≤ x.Kind ∧ x.Kind < 9223372036854775808) ∧ x.Pre.size ≤ maxLen ∧ x.Local.size ≤ maxLen ∧ (x.Preds.length ≤ maxLen ∧ ∀ y ∈ x.Preds, GPred.ok y) := Iff.rfl
theorem sz_GStp (a : GStp) (ha : a.ok) (l : Int) (h0 : 0 ≤ l) (h1 : l ≤ 1048576) : laws_szStep a l = some (szr l a.sz) := by
  obtain ⟨H0, H1, H2, H3⟩ := (GStp.ok_iff a).1 ha
  rw [laws_szStep, GStp.sz_eq]
  exact szK a.Pre.size (fun l => if ltI (subI l (lenS a.Local)) 0 then some (-1) else laws_szPredS a.Preds (subI l (lenS a.Local)) >>= fun r2 => if ltI r2 0 then some (-1) else some r2) (a.Local.size + ((a.Preds.length + szs GPred.sz a.Preds))) h0 h1 H1 (fun l h0 h1 => by
    exact szK a.Local.size (fun l => laws_szPredS a.Preds l >>= fun r2 => if ltI r2 0 then some (-1) else some r2) ((a.Preds.length + szs GPred.sz a.Preds)) h0 h1 H2 (fun l h0 h1 => by
      have := szB (fun l => laws_szPredS a.Preds l) ((a.Preds.length + szs GPred.sz a.Preds)) some 0 h0 h1 (sz_GPredS a.Preds H3.1 H3.2 l h0 h1) (fun l h0 h1 => szD h0)
      simpa using this))
theorem sz_GStpS (a : List GStp) (hl : a.length ≤ maxLen) (ha : ∀ y ∈ a, GStp.ok y) (l : Int) (h0 : 0 ≤ l) (h1 : l ≤ 1048576) : laws_szStepS a l = some (szr l (a.length + szs GStp.sz a)) :=
  sz_list laws_szStepS laws_szStepS_l16 laws_szStep GStp.sz (fun a l => by rw [laws_szStepS]) (fun a l i => by rw [laws_szStepS_l16]) a hl (fun x hx => sz_GStp x (ha x hx)) h0 h1
theorem to_GStp (a : GStp) (hs : a.sz ≤ 1048576) : laws_toStep a = some a := by
  rw [GStp.sz_eq] at hs
  have L2 := to_GPredS a.Preds (by omega) (fun x hx => by have := szs_mem GPred.sz hx; omega)
  simp [laws_toStep, L2, eta_GStp]
theorem eq_GStp (a : GStp) (hs : a.sz ≤ 1200000) : laws_eqStep a a = some true := by
  rw [GStp.sz_eq] at hs
  have L2 := eq_GPredS a.Preds (by omega) (fun x hx => by have := szs_mem GPred.sz hx; omega)
  simp [laws_eqStep, L2, neS_self, neI_self, neB_self]
theorem to_GStpS (a : List GStp) (hl : a.length ≤ 1048576) (ha : ∀ y ∈ a, GStp.sz y ≤ 1048576) : laws_toStepS a = some a := by
  have := to_list laws_toStepS laws_toStepS_l8 laws_toStep id _ 72 (fun a => by rw [laws_toStepS]) (fun a out i => by rw [laws_toStepS_l8]) (by decide) (by decide) a hl (fun x hx => to_GStp x (ha x hx))
  simpa using this
theorem eq_GStpS (a : List GStp) (hl : a.length ≤ 1200000) (ha : ∀ y ∈ a, GStp.sz y ≤ 1200000) : laws_eqStepS a a = some true :=
  eq_list laws_eqStepS laws_eqStepS_l14 laws_eqStep (fun a b => by rw [laws_eqStepS]) (fun a b i => by rw [laws_eqStepS_l14]) a (Nat.le_trans hl (by decide)) (fun x hx => eq_GStp x (ha x hx))

def GSel.sz (x : GSel) : Nat := x.Id.size + ((x.Steps.length + szs GStp.sz x.Steps))
theorem GSel.sz_eq (x : GSel) : x.sz = x.Id.size + ((x.Steps.length + szs GStp.sz x.Steps)) := rfl
def GSel.ok (x : GSel) : Prop := x.Id.size ≤ maxLen ∧ (x.Steps.length ≤ maxLen ∧ ∀ y ∈ x.Steps, GStp.ok y)
theorem GSel.ok_iff (x : GSel) : x.ok ↔ x.Id.size ≤ maxLen ∧ (x.Steps.length ≤ maxLen ∧ ∀ y ∈ x.Steps, GStp.ok y) := Iff.rfl
theorem sz_GSel (a : GSel) (ha : a.ok) (l : Int) (h0 : 0 ≤ l) (h1 : l ≤ 1048576) : laws_szSel a l = some (szr l a.sz) := by
  obtain ⟨H0, H1⟩ := (GSel.ok_iff a).1 ha
  rw [laws_szSel, GSel.sz_eq]
  exact szK a.Id.size (fun l => laws_szStepS a.Steps l >>= fun r1 => if ltI r1 0 then some (-1) else some r1) ((a.Steps.length + szs GStp.sz a.Steps)) h0 h1 H0 (fun l h0 h1 => by
    have := szB (fun l => laws_szStepS a.Steps l) ((a.Steps.length + szs GStp.sz a.Steps)) some 0 h0 h1 (sz_GStpS a.Steps H1.1 H1.2 l h0 h1) (fun l h0 h1 => szD h0)
    simpa using this)
theorem to_GSel (a : GSel) (hs : a.sz ≤ 1048576) : laws_toSel a = some a := by
  rw [GSel.sz_eq] at hs
  have L1 := to_GStpS a.Steps (by omega) (fun x hx => by have := szs_mem GStp.sz hx; omega)
  simp [laws_toSel, L1, eta_GSel]
theorem eq_GSel (a : GSel) (hs : a.sz ≤ 1200000) : laws_eqSel a a = some true := by
  rw [GSel.sz_eq] at hs
  have L1 := eq_GStpS a.Steps (by omega) (fun x hx => by have := szs_mem GStp.sz hx; omega)
  simp [laws_eqSel, L1, neS_self, neI_self, neB_self]

end TT
