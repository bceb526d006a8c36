import Derived.Test.YtabghncdppfllaaTG3
set_option linter.unusedVariables false
set_option linter.unusedSimpArgs false
namespace TT
open Go

theorem setRC_some {rows : Rows} {i c : Nat} {t : T} {row : List T} (h : rows[i]? = some row) : setRC rows i c t = rows.set i (row.set c t) := by
  simp only [setRC, h]

/-- A whole row is written anew. -/
theorem setCs_from : ∀ (ts : List T) {rows : Rows} {i c : Nat} {row : List T}, rows[i]? = some row → c + ts.length ≤ row.length → setCs rows [] i c ts = rows.set i (row.take c ++ ts ++ row.drop (c + ts.length))
  | [], rows, i, c, row, h, hl => by
    simp only [setCs, List.length_nil, Nat.add_zero, List.append_nil, List.take_append_drop]
    apply List.ext_getElem?
    intro j
    rw [List.getElem?_set]
    by_cases e : i = j
    · subst e
      have := (List.getElem?_eq_some_iff.1 h).1
      simp [this, h]
      obtain ⟨h1, h2⟩ := List.getElem?_eq_some_iff.1 h
      exact h2
    · simp [e]
  | t :: ts, rows, i, c, row, h, hl => by
    have hi := (List.getElem?_eq_some_iff.1 h).1
    simp only [List.length_cons] at hl
    have h2 : (setC rows [] i c t)[i]? = some (row.set c t) := by simp only [setC, setRC_some h]; simp [hi]
    simp only [setCs]
    rw [setCs_from ts h2 (by simp; omega)]
    simp only [setC, setRC_some h, List.set_set]
    congr 1
    apply List.ext_getElem?
    intro j
    simp only [List.length_cons]
    simp only [List.append_assoc, List.getElem?_append, List.length_take, List.length_set, List.getElem?_take, List.getElem?_drop, List.getElem?_set]
    have e1 : min (c + 1) row.length = c + 1 := by omega
    have e2 : min c row.length = c := by omega
    simp only [e1, e2]
    rcases Nat.lt_trichotomy j c with h1 | h1 | h1
    · simp [show j < c + 1 by omega, h1, show ¬ c = j by omega]
    · subst h1
      simp [show j < row.length by omega]
    · have h3 : ¬ j < c + 1 := by omega
      have h4 : ¬ j < c := by omega
      simp only [h3, h4, if_false]
      rw [show j - c = (j - (c + 1)) + 1 by omega, List.getElem?_cons_succ]
      simp only [List.length_cons]
      by_cases h5 : j - (c + 1) < ts.length
      · simp [h5]
      · simp only [h5, if_false, show ¬ (j - (c + 1) + 1 < ts.length + 1) by omega]
        rw [if_neg (by omega)]
        congr 1
        omega

theorem setCs_all {rows : Rows} {i : Nat} {row ts : List T} (h : rows[i]? = some row) (hl : ts.length = row.length) : setCs rows [] i 0 ts = rows.set i ts := by
  rw [setCs_from ts h (by omega)]
  congr 1
  simp [hl]

/-- Rows that are filled one by one. -/
theorem fill_next {α : Type} (f : α → List T) (z : List T) (pre : List α) (x : α) (m : Nat) : (pre.map f ++ List.replicate (m + 1) z).set pre.length (f x) = (pre ++ [x]).map f ++ List.replicate m z := by
  rw [List.replicate_succ, List.set_append_right _ _ (by simp)]
  simp
theorem fill_get {α : Type} (f : α → List T) (z : List T) (pre : List α) (m : Nat) : (pre.map f ++ List.replicate (m + 1) z)[pre.length]? = some z := by
  rw [List.getElem?_append_right (by simp)]
  simp

end TT
