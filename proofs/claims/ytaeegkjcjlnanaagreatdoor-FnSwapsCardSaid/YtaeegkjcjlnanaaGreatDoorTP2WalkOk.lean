import Derived.Test.YtaeegkjcjlnanaaGreatDoorTP2Has
import Derived.Test.YtaeegkjcjlnanaaGreatDoorTP3Copy
import Derived.Test.YtaeegkjcjlnanaaGreatDoorTP2Merge
set_option linter.unusedVariables false
set_option linter.unusedSimpArgs false
namespace TT
open Go
def eu (w : AJ) : Bool := (CJ w.Tre w.Path).2 && O8 w.Tre
theorem tu (w : AJ) (hs : w.sz ≤ 1048576) : II w = some (eu w) ∧ Cp w = some (eu w) := by
 rw [AJ.sz_eq] at hs
 obtain ⟨t1, t2⟩ := X8 w.Tre (by omega)
 constructor
 ·rw [II, Lq _ _ (by omega) (by omega), t1, eu]
  simp only [A3]
  cases (CJ w.Tre w.Path).2 <;> rfl
 ·rw [Cp, Gd _ _ (by omega) (by omega), t2, eu]
  simp only [A3]
  cases (CJ w.Tre w.Path).2 <;> rfl
end TT
namespace TT
open Go
theorem po {x : A0} (h : OT x = true) : x.Kids = [] := by
 cases hk : x.Kids with
 | nil => rfl
 | cons y l =>
  have e : NN (A8 x.Kids) 0 = true := by rw [hk]; exact Lp (by simp only [A8, List.length_cons]; omega)
  rw [OT, Di, e] at h
  revert h
  cases neS x.Pre ⟨#[]⟩ <;> cases neS x.Uri ⟨#[]⟩ <;> cases NN (A8 x.Decls) 0 <;> cases NN (A8 x.Attrs) 0 <;> intro h <;> cases h
theorem tw {x k : A0} {i : Int} {d : Nat} (hs : x.sz ≤ 1048576) (hd : d ≤ 7) (hp : pB d x = true) (hk : getI x.Kids i = some k) : x.Kind = 1 ∧ d + 1 ≤ 7 ∧ pB ((d + 1 : Nat) : Int) k = true := by
 have hm := S6 hk
 cases h1 : Al x.Kind 1 with
 | false =>
  obtain ⟨l1, l2⟩ := n7 x (by omega) h1
  have : pB d x = OT x := by rw [pB, AW, Fm, h1, l2]; rfl
  rw [this] at hp
  rw [po hp] at hm
  cases hm
 | true =>
  by_cases h7 : d = 7
  ·subst h7
   have : pB ((7 : Nat) : Int) x = false := by rw [pB, AW, Fm, h1]; rfl
   rw [this] at hp
   cases hp
  ·obtain ⟨e1, e2⟩ := A02 x (by omega) h1
   have hadd : AY (d : Int) 1 = ((d + 1 : Nat) : Int) := by rw [Af (by omega) (by omega)]; omega
   have e3 := e2 d _ (Pf (by omega)) (by rw [hadd]; exact X6 x hs (d + 1) (by omega))
   have : pB d x = (elB x && IL ((d + 1 : Nat) : Int) x.Kids) := by rw [pB, e3]; rfl
   rw [this, Bool.and_eq_true, IL, Bool.and_eq_true] at hp
   exact ⟨LX.1 h1, by omega, List.all_eq_true.1 hp.2.2 k hm⟩
theorem tz {t k : A0} {i : Int} (hs : t.sz ≤ 1048576) (ht : O8 t = true) (hk : getI t.Kids i = some k) : t.Kind = 0 ∧ pB ((0 : Nat) : Int) k = true := by
 rw [O8, Bool.and_eq_true, Bool.and_eq_true] at ht
 obtain ⟨h0, hn, _⟩ := ht
 refine ⟨LX.1 h0, ?_⟩
 have hb := (UZ t hs).1
 rw [hn, CG, (iM t hs).choose_spec.1] at hb
 simp only [A3, Fm, h0, Bool.not_true, Bool.false_eq_true, if_false] at hb
 have hl : t.Kids.length ≤ 4000000 := by rw [A0.sz_eq] at hs; omega
 have hd : AP 0 0 t = _ := X7 t hs t.Kids [] 0 rfl (by omega)
 rw [hd] at hb
 split at hb
 ·cases hb
 ·have hb := Option.some.inj hb
  simp only [Bool.and_eq_true] at hb
  have := hb.2.2.2
  rw [IL, Bool.and_eq_true] at this
  exact List.all_eq_true.1 this.2 k (S6 hk)
end TT
namespace TT
open Go
theorem pq (w : AJ) (hs : w.sz ≤ 1048576) : ∃ r, PW w = some r ∧ D5 w = some r ∧ r.sz ≤ 1048576 := by
 obtain ⟨w1, w2⟩ := tu w hs
 rw [AJ.sz_eq] at hs
 rw [PW, D5, w1, w2, Lq _ _ (by omega) (by omega), Gd _ _ (by omega) (by omega)]
 simp only [A3]
 have hz : (A0.mk 0 (⟨#[]⟩) (⟨#[]⟩) (⟨#[]⟩) [] [] [] (⟨#[]⟩)).sz ≤ 1048576 := by rw [A0.sz_eq]; decide
 cases eu w with
 | false => exact ⟨_, rfl, rfl, hz⟩
 | true =>
  refine ⟨_, rfl, rfl, ?_⟩
  rw [CJ]
  split
  ·rename_i x hx
   exact Nat.le_trans (KZ _ hx) (by omega)
  ·exact hz
end TT
namespace TT
open Go
theorem A03 (w : AJ) (hs : w.sz ≤ 1048576) : Jj w = some w ∧ E5 w = some w := by
 rw [AJ.sz_eq] at hs
 constructor
 ·rw [Jj, KY _ (by omega), DX (by omega) (by omega) (by omega)]
  simp only [A3, List.nil_append, WL]
 ·rw [E5, IK _ (by omega), Dp, DX (by omega) (by omega) (by omega)]
  simp only [A3, WL]
theorem pr (w : AJ) (n : A0) (hs : w.sz + n.sz ≤ 1048576) : ∃ r, PX w n = some r ∧ FS w n = some r ∧ r.1.Tre.sz ≤ 1100000 ∧ r.1.Path.length ≤ 1048576 ∧ r.1.sz ≤ 1200000 := by
 obtain ⟨c1, c2⟩ := A03 w (by omega)
 obtain ⟨w1, w2⟩ := tu w (by omega)
 obtain ⟨h, h1, h2, h3⟩ := pq w (by omega)
 obtain ⟨n1, n2⟩ := UZ n (by omega)
 have hz := hs
 rw [AJ.sz_eq] at hz
 have triv : ∃ r, some (w, false) = some r ∧ some (w, false) = some r ∧ r.1.Tre.sz ≤ 1100000 ∧ r.1.Path.length ≤ 1048576 ∧ r.1.sz ≤ 1200000 := ⟨_, rfl, rfl, by show w.Tre.sz ≤ _; omega, by show w.Path.length ≤ _; omega, by show w.sz ≤ _; omega⟩
 rw [PX, FS, c1, c2, w1, w2, h1, h2, n1, n2]
 simp only [A3]
 cases hw : eu w with
 | false => exact triv
 | true =>
  simp only [if_true]
  by_cases h0 : w.Path.length = 0
  ·rw [G9 (show A8 w.Path = 0 by simp only [A8]; omega)]; exact triv
  ·rw [DJ (show A8 w.Path ≠ 0 by simp only [A8]; omega)]
   simp only [Bool.false_eq_true, if_false]
   have e : SZ n.Kind h.Kind = SZ h.Kind n.Kind := by simp only [SZ]; exact bne_comm
   rw [e]
   cases SZ h.Kind n.Kind with
   | true => exact triv
   | false =>
    simp only [Bool.false_eq_true, if_false]
    cases Pr n with
    | false => exact triv
    | true =>
     simp only [if_true]
     have hwt : wt [n] = 1 + n.sz := by rw [DY]; rfl
     obtain ⟨r, p1, p2, p3⟩ := mw w.Tre w.Path [n] (by omega) (by omega)
     obtain ⟨t1, t2⟩ := X8 r.1 (by omega)
     rw [p1, p2]
     simp only [A3, t1, t2]
     cases O8 r.1 with
     | false => exact triv
     | true =>
      refine ⟨_, rfl, rfl, by show r.1.sz ≤ _; omega, by show w.Path.length ≤ _; omega, ?_⟩
      rw [AJ.sz_eq]
      show r.1.sz + w.Path.length ≤ _
      omega
end TT
