import Derived.Test.YtaeegkjcjlnanaaGreatDoorTP3Cur
import Derived.Test.YtaeegkjcjlnanaaGreatDoorTP3Copy
set_option linter.unusedVariables false
set_option linter.unusedSimpArgs false
namespace TT
open Go
theorem Xx {α ρ : Type} (l : List α) (F : Int → Option ρ) (r : ρ) (hF : ∀ (k : Nat) x, l[k]? = some x → F ((k + 1 : Nat) : Int) = some r → F (k : Int) = some r) (h0 : F ((l.length : Nat) : Int) = some r) : F 0 = some r := by
 have key : ∀ (m k : Nat), k ≤ l.length → l.length ≤ k + m → F (k : Int) = some r := by
  intro m
  induction m with
  | zero => intro k h1 h2; rw [show k = l.length by omega]; exact h0
  | succ m ih =>
   intro k h1 h2
   by_cases e : k = l.length
   ·rw [e]; exact h0
   ·exact hF k _ (List.getElem?_eq_getElem (by omega)) (ih (k + 1) (by omega) (by omega))
 exact key l.length 0 (by omega) (by omega)
theorem jE (l : List A1) (hl : l.length ≤ 4000000) : EV l l = some true := by
 rw [EV, P4]
 refine Xx l (fun i => Aq l l i) true (fun k x hx ih => ?_) ?_
 ·have := TG hx
  show Aq l l k = _
  rw [Aq, V2 hx, Gx hx, Jj (by omega)]
  simp only [if_true, A5, Fg, Bool.and_self]
  exact ih
 ·show Aq l l _ = _
  rw [Aq, Q5]; rfl
theorem jF (l : List A3) (hl : l.length ≤ 4000000) : EW l l = some true := by
 rw [EW, P4]
 refine Xx l (fun i => Ar l l i) true (fun k x hx ih => ?_) ?_
 ·have := TG hx
  show Ar l l k = _
  rw [Ar, V2 hx, Gx hx, Jj (by omega)]
  simp only [if_true, A5, Fg, Bool.and_self]
  exact ih
 ·show Ar l l _ = _
  rw [Ar, Q5]; rfl
theorem TH : ∀ n : A0, n.sz ≤ 1048576 → Df n n = some true := by
 refine A0.ind' fun n ih hs => ?_
 rw [A0.sz_eq] at hs
 have ha : GN n n = some true := by
  rw [GN, ie, Fg, Fg, Fg, Fg, jE _ (by omega), jF _ (by omega)]; rfl
 have hk : BC n.Kids n.Kids = some true := by
  rw [BC, P4]
  refine Xx n.Kids (fun i => AK n.Kids n.Kids i) true (fun k x hx h => ?_) ?_
  ·have := TG hx
   have h2 := Cq A0.sz (V4 hx)
   show AK n.Kids n.Kids k = _
   rw [AK, V2 hx, Gx hx, Jj (by omega)]
   simp only [if_true, A5, ih x (V4 hx) (by omega)]
   exact h
  ·show AK n.Kids n.Kids _ = _
   rw [AK, Q5]; rfl
 rw [Df, ha, A5, hk]; rfl
end TT
namespace TT
open Go
mutual
def NY : A0 → List Int → List (List Int)
 | ⟨_, _, _, _, _, _, kids, _⟩, a => a :: plL kids a 0
def plL : List A0 → List Int → Nat → List (List Int)
 | [], _, _ => []
 | x :: l, a, i => NY x (a ++ [(i : Int)]) ++ plL l a (i + 1)
end
mutual
def bP : A0 → List A0
 | ⟨k, p, l, u, d, a, kids, t⟩ => ⟨k, p, l, u, d, a, kids, t⟩ :: bQ kids
def bQ : List A0 → List A0
 | [] => []
 | x :: l => bP x ++ bQ l
end
theorem RO (n : A0) (a : List Int) : NY n a = a :: plL n.Kids a 0 := by cases n; rfl
theorem ff (n : A0) : bP n = n :: bQ n.Kids := by cases n; rfl
theorem jG : ∀ l : List A0, (∀ k ∈ l, (bP k).length ≤ 1 + k.sz) → (bQ l).length ≤ l.length + szs A0.sz l
 | [], _ => Nat.le_refl _
 | x :: l, h => by
  have h1 := h x (List.mem_cons_self ..)
  have h2 := jG l fun k hk => h k (List.mem_cons_of_mem _ hk)
  rw [bQ, List.length_append, E3, List.length_cons]; omega
theorem ZZ : ∀ n : A0, (bP n).length ≤ 1 + n.sz := by
 refine A0.ind' fun n ih => ?_
 have := jG n.Kids ih
 rw [ff, List.length_cons, A0.sz_eq]; omega
theorem vm (p : List Int) (i : Int) (h : p.length ≤ 3000000) : EM [p, [i]] = some (p ++ [i]) := by
 unfold EM
 have h1 : ([i] : List Int).length = 1 := rfl
 simp only [h1]
 rw [if_pos ⟨by omega, by omega⟩]
theorem mE : ∀ (l : List A0) (a : List Int) (i : Nat), (∀ k ∈ l, ∀ a, (NY k a).length = (bP k).length) → (plL l a i).length = (bQ l).length
 | [], a, i, _ => rfl
 | x :: l, a, i, h => by
  rw [plL, bQ, List.length_append, List.length_append, h x (List.mem_cons_self ..), mE l a (i + 1) fun k hk => h k (List.mem_cons_of_mem _ hk)]
theorem Xy : ∀ (n : A0) (a : List Int), (NY n a).length = (bP n).length := by
 refine A0.ind' fun n ih a => ?_
 rw [RO, ff, List.length_cons, List.length_cons, mE n.Kids a 0 ih]
theorem jH : ∀ n : A0, n.sz ≤ 1048576 → ∀ (a : List Int) (out : List (List Int)), a.length + n.sz ≤ 2500000 → out.length + 1 + n.sz ≤ 3000000 → Eg n a out = some (out ++ NY n a) := by
 refine A0.ind' fun n ih hs a out ha ho => ?_
 have hz := A0.sz_eq n
 have loop : ∀ (rest pre : List A0) (out : List (List Int)), pre ++ rest = n.Kids → out.length + rest.length + szs A0.sz rest ≤ 3000000 → Dl a out n pre.length = some (out ++ plL rest a pre.length) := by
  intro rest
  induction rest with
  | nil => intro pre out hp _; rw [Dl, Fa hp, plL, List.append_nil]; rfl
  | cons x rest ihr =>
   intro pre out hp hb
   rw [E3, List.length_cons] at hb
   have hx : x ∈ n.Kids := by rw [← hp]; simp
   have hxs := Cq A0.sz hx
   have hl1 : 1 ≤ n.Kids.length := List.length_pos_of_mem hx
   have h1 := ih x hx (by omega) (a ++ [(pre.length : Int)]) out (by simp only [List.length_append, List.length_singleton]; omega) (by omega)
   have hpl := Xy x (a ++ [(pre.length : Int)])
   have hpr := ZZ x
   have h2 := ihr (pre ++ [x]) (out ++ NY x (a ++ [(pre.length : Int)])) (E6 hp) (by rw [List.length_append]; omega)
   rw [Dl, Ec hp, C8 hp, DU hp (by rw [Ba]; omega), vm _ _ (by omega)]
   simp only [if_true, A5, h1, h2]
   rw [plL, List.append_assoc, List.length_append, List.length_singleton]
 have := loop n.Kids [] (out ++ [a]) rfl (by simp only [List.length_append, List.length_singleton]; omega)
 have e : ((([] : List A0).length : Nat) : Int) = 0 := rfl
 rw [e] at this
 rw [Eg, Bn, Fb (by omega) (by omega) (by omega)]
 simp only [A5]
 rw [Fb (by omega) (by omega) (by omega)]
 simp only [A5, this, RO, List.length_nil, List.append_assoc, List.singleton_append]
theorem dG (n : A0) (hs : n.sz ≤ 1048576) : IE n = some (NY n []) := by
 rw [IE, jH n hs [] [] (by simp only [List.length_nil]; omega) (by simp only [List.length_nil]; omega)]; rfl
def At (n : A0) (a : List Int) (q : List Int) (x : A0) : Prop := ∃ p, q = a ++ p ∧ NV n p = some x
theorem sN : ∀ (n : A0) (a : List Int) (j : Nat) (q : List Int) (x : A0), (NY n a)[j]? = some q → (bP n)[j]? = some x → At n a q x := by
 refine A0.ind' fun n ih a j q x hq hx => ?_
 rw [RO] at hq
 rw [ff] at hx
 cases j with
 | zero =>
  simp only [List.getElem?_cons_zero, Option.some.injEq] at hq hx
  subst hq; subst hx
  exact ⟨[], by simp, rfl⟩
 | succ j =>
  rw [List.getElem?_cons_succ] at hq hx
  have key : ∀ (rest pre : List A0) (j : Nat), pre ++ rest = n.Kids → (plL rest a pre.length)[j]? = some q → (bQ rest)[j]? = some x → At n a q x := by
   intro rest
   induction rest with
   | nil => intro pre j hp hq hx; simp [bQ] at hx
   | cons y rest ihr =>
    intro pre j hp hq hx
    rw [plL] at hq
    rw [bQ] at hx
    have hl := Xy y (a ++ [(pre.length : Int)])
    by_cases hj : j < (bP y).length
    ·rw [List.getElem?_append_left (by omega)] at hq
     rw [List.getElem?_append_left hj] at hx
     obtain ⟨p, e1, e2⟩ := ih y (by rw [← hp]; simp) _ j q x hq hx
     refine ⟨(pre.length : Int) :: p, by rw [e1]; simp, ?_⟩
     show (getI n.Kids (pre.length : Int)).bind _ = _
     rw [C8 hp]; exact e2
    ·rw [List.getElem?_append_right (by omega), hl] at hq
     rw [List.getElem?_append_right (by omega)] at hx
     exact ihr (pre ++ [y]) _ (E6 hp) (by rw [List.length_append, List.length_singleton]; exact hq) hx
  exact key n.Kids [] j rfl hq hx
theorem mF : ∀ (n : A0) (a : List Int) (q : List Int), q ∈ NY n a → ∃ p, q = a ++ p := by
 refine A0.ind' fun n ih a q hq => ?_
 rw [RO] at hq
 rcases List.mem_cons.1 hq with hq | hq
 ·exact ⟨[], by simp [hq]⟩
 ·have key : ∀ (l : List A0) (i : Nat), (∀ k ∈ l, k ∈ n.Kids) → q ∈ plL l a i → ∃ p, q = a ++ p := by
   intro l
   induction l with
   | nil => intro i _ h; simp [plL] at h
   | cons x l ihl =>
    intro i hm h
    rw [plL] at h
    rcases List.mem_append.1 h with h | h
    ·obtain ⟨p, e⟩ := ih x (hm x (List.mem_cons_self ..)) _ _ h
     exact ⟨(i : Int) :: p, by rw [e]; simp⟩
    ·exact ihl (i + 1) (fun k hk => hm k (List.mem_cons_of_mem _ hk)) h
  exact key n.Kids 0 (fun k h => h) hq
theorem fg : ∀ (l : List A0) (a : List Int) (i : Nat) (q : List Int), q ∈ plL l a i → ∃ (j : Nat) (p : List Int), i ≤ j ∧ q = a ++ ((j : Int) :: p)
 | [], a, i, q, h => by simp [plL] at h
 | x :: l, a, i, q, h => by
  rw [plL] at h
  rcases List.mem_append.1 h with h | h
  ·obtain ⟨p, e⟩ := mF x _ q h
   exact ⟨i, p, Nat.le_refl _, by rw [e]; simp⟩
  ·obtain ⟨j, p, h1, h2⟩ := fg l a (i + 1) q h
   exact ⟨j, p, by omega, h2⟩
theorem oK : ∀ (n : A0) (a : List Int), (NY n a).Nodup := by
 refine A0.ind' fun n ih a => ?_
 rw [RO, List.nodup_cons]
 constructor
 ·intro h
  obtain ⟨j, p, _, e⟩ := fg _ _ _ _ h
  have := congrArg List.length e
  simp at this
 ·have key : ∀ (l : List A0) (i : Nat), (∀ k ∈ l, k ∈ n.Kids) → (plL l a i).Nodup := by
   intro l
   induction l with
   | nil => intro i _; exact List.nodup_nil
   | cons x l ihl =>
    intro i hm
    rw [plL, List.nodup_append]
    refine ⟨ih x (hm x (List.mem_cons_self ..)) _, ihl (i + 1) fun k hk => hm k (List.mem_cons_of_mem _ hk), fun q hq q' hq' e => ?_⟩
    subst e
    obtain ⟨p, e1⟩ := mF x _ q hq
    obtain ⟨j, p', h1, e2⟩ := fg l a (i + 1) q hq'
    rw [e1, List.append_assoc] at e2
    have := List.append_cancel_left e2
    simp at this
    omega
  exact key n.Kids 0 fun k h => h
end TT
